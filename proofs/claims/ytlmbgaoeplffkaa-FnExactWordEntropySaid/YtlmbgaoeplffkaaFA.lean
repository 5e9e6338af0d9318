/- The frame of the proofs, part FA. -/
import Derived.Orders
import Derived.Below
import Derived.Laws.OwnMore
import Derived.Laws.Rows
import Derived.Laws.CopyRow
import Derived.Laws.Cells
import Derived.KernelRfl
import Derived.Laws.BytesString
import Derived.Maps.AppendAt
/- Abstract values, an abstract heap, and how both stand to the model's values and memory. Nothing here speaks of one program. -/
namespace Go.Proofs.Ytlmbgaoeplffkaa
open Go Go.RowKit
set_option linter.unusedVariables false
set_option linter.unusedSimpArgs false

/-- One cell. A slice is 'sl id off len' (off in cells, len in elements); 'sl 0 0 0' is nil, 'sl 1 0 0' an empty one that is not nil. -/
inductive AC where
  | int (k : IntKind) (n : Int)
  | bool (b : Bool)
  | float (k : FloatKind) (n : Nat)
  | str (s : ByteArray)
  | sl (id off len : Nat)
  | ptr (id off : Nat)
  | nilF
  | nilM
  | nilP
  | fn (f : Nat) (caps : List (Nat × Nat))
  | mp (id : Nat)
  deriving Inhabited

inductive AP where
  | c (x : AC)
  | agg (xs : List AC)
  deriving Inhabited

inductive AV where
  | p (x : AP)
  | tup (xs : List AP)
  | bfn (f : Nat) (first : List AP)
  | undef
  deriving Inhabited

abbrev AV.c (x : AC) : AV := .p (.c x)
abbrev AV.agg (xs : List AC) : AV := .p (.agg xs)

structure Loc where
  b : Nat
  o : Nat
  cap : Nat
  esz : Nat

abbrev Rho := Nat → Option Loc

/-! ### lists side by side -/
inductive All2 {α β : Type} (R : α → β → Prop) : List α → List β → Prop
  | nil : All2 R [] []
  | cons {a : α} {b : β} {as : List α} {bs : List β} : R a b → All2 R as bs → All2 R (a :: as) (b :: bs)

namespace All2
variable {α β : Type} {R S : α → β → Prop}
theorem len {as : List α} {bs : List β} (h : All2 R as bs) : as.length = bs.length := by
  induction h with
  | nil => rfl
  | cons _ _ ih => simp [ih]
theorem mono (hRS : ∀ a b, R a b → S a b) {as : List α} {bs : List β} (h : All2 R as bs) : All2 S as bs := by
  induction h with
  | nil => exact .nil
  | cons h _ ih => exact .cons (hRS _ _ h) ih
theorem get {as : List α} {bs : List β} (h : All2 R as bs) : ∀ (i : Nat) (a : α), as[i]? = some a → ∃ b, bs[i]? = some b ∧ R a b := by
  induction h with
  | nil => intro i a h; simp at h
  | cons h _ ih =>
    intro i a hi
    cases i with
    | zero => simp at hi; subst hi; exact ⟨_, rfl, h⟩
    | succ i => simpa using ih i a (by simpa using hi)
theorem of_get {as : List α} {bs : List β} (hl : as.length = bs.length) (h : ∀ (i : Nat) (a : α), as[i]? = some a → ∃ b, bs[i]? = some b ∧ R a b) : All2 R as bs := by
  induction as generalizing bs with
  | nil => cases bs with
    | nil => exact .nil
    | cons b bs => simp at hl
  | cons a as ih => cases bs with
    | nil => simp at hl
    | cons b bs =>
      obtain ⟨b', hb, hr⟩ := h 0 a rfl
      simp at hb; subst hb
      exact .cons hr (ih (by simpa using hl) fun i x hx => by simpa using h (i + 1) x (by simpa using hx))
theorem append {as as' : List α} {bs bs' : List β} (h : All2 R as bs) (h' : All2 R as' bs') : All2 R (as ++ as') (bs ++ bs') := by
  induction h with
  | nil => exact h'
  | cons h _ ih => exact .cons h ih
theorem take {as : List α} {bs : List β} (h : All2 R as bs) (n : Nat) : All2 R (as.take n) (bs.take n) := by
  induction h generalizing n with
  | nil => simp; exact .nil
  | cons h _ ih => cases n with
    | zero => exact .nil
    | succ n => exact .cons h (ih n)
theorem drop {as : List α} {bs : List β} (h : All2 R as bs) (n : Nat) : All2 R (as.drop n) (bs.drop n) := by
  induction h generalizing n with
  | nil => simp; exact .nil
  | cons h hs ih => cases n with
    | zero => exact .cons h hs
    | succ n => exact ih n
theorem rep {a : α} {b : β} (h : R a b) : ∀ n, All2 R (List.replicate n a) (List.replicate n b)
  | 0 => .nil
  | n + 1 => .cons h (rep h n)
theorem cycle {as : List α} {bs : List β} (h : All2 R as bs) : ∀ n, All2 R (List.flatten (List.replicate n as)) (List.flatten (List.replicate n bs))
  | 0 => .nil
  | n + 1 => by simp only [List.replicate_succ, List.flatten_cons]; exact h.append (cycle h n)
end All2

/-! ### values -/
inductive CRel (ρ : Rho) : AC → Value → Prop
  | int (k : IntKind) (n : Int) : CRel ρ (.int k n) (.int k n)
  | bool (b : Bool) : CRel ρ (.bool b) (.bool b)
  | float (k : FloatKind) (n : Nat) : CRel ρ (.float k n) (.float k n)
  | str (s : ByteArray) : CRel ρ (.str s) (.string s)
  | nilS : CRel ρ (.sl 0 0 0) (.slice none 0 0)
  | emp (ad : Addr) : CRel ρ (.sl 1 0 0) (.slice (some ad) 0 0)
  | sl {id off len cap : Nat} {L : Loc} : 2 ≤ id → ρ id = some L → len ≤ cap → (off = 0 → cap = L.cap) → CRel ρ (.sl id off len) (.slice (some ⟨L.b, L.o + off, none⟩) len cap)
  | ptr {id off : Nat} {L : Loc} : ρ id = some L → CRel ρ (.ptr id off) (.pointer (some ⟨L.b, L.o + off, none⟩))
  | nilF : CRel ρ .nilF .nilFunc
  | nilM : CRel ρ .nilM (.map none)
  | nilP : CRel ρ .nilP (.pointer none)
  | fn {f : Nat} {caps : List (Nat × Nat)} {vs : List Value} : All2 (fun p v => ∃ L, ρ p.1 = some L ∧ v = .pointer (some ⟨L.b, L.o + p.2, none⟩)) caps vs → CRel ρ (.fn f caps) (.func (.func f) #[] vs.toArray)
  | mp {id : Nat} {L : Loc} : ρ id = some L → CRel ρ (.mp id) (.map (some L.b))

inductive PRel (ρ : Rho) : AP → Value → Prop
  | c {x : AC} {v : Value} : CRel ρ x v → PRel ρ (.c x) v
  | agg {xs : List AC} {vs : List Value} : All2 (CRel ρ) xs vs → PRel ρ (.agg xs) (.agg vs.toArray)

inductive VRel (ρ : Rho) : AV → Value → Prop
  | p {x : AP} {v : Value} : PRel ρ x v → VRel ρ (.p x) v
  | tup {xs : List AP} {vs : List Value} : All2 (PRel ρ) xs vs → VRel ρ (.tup xs) (.tuple vs.toArray)
  | bfn {f : Nat} {xs : List AP} {vs : List Value} : All2 (PRel ρ) xs vs → VRel ρ (.bfn f xs) (.func (.func f) vs.toArray #[])
  | undef : VRel ρ .undef Go.undef

/-- One map knows all that the other one knows. -/
def Ext (ρ ρ' : Rho) : Prop := ∀ id L, ρ id = some L → ρ' id = some L
theorem Ext.refl (ρ : Rho) : Ext ρ ρ := fun _ _ h => h
theorem Ext.trans {a b c : Rho} (h : Ext a b) (k : Ext b c) : Ext a c := fun _ _ e => k _ _ (h _ _ e)

theorem CRel.mono {ρ ρ' : Rho} (he : Ext ρ ρ') {x : AC} {v : Value} (h : CRel ρ x v) : CRel ρ' x v := by
  cases h with
  | int => exact .int _ _
  | bool => exact .bool _
  | float => exact .float _ _
  | str => exact .str _
  | nilS => exact .nilS
  | emp => exact .emp _
  | sl h0 h1 h2 h3 => exact .sl h0 (he _ _ h1) h2 h3
  | ptr h1 => exact .ptr (he _ _ h1)
  | nilF => exact .nilF
  | nilM => exact .nilM
  | nilP => exact .nilP
  | fn h1 => exact .fn (h1.mono fun _ _ ⟨L, e, r⟩ => ⟨L, he _ _ e, r⟩)
  | mp h1 => exact .mp (he _ _ h1)
theorem PRel.mono {ρ ρ' : Rho} (he : Ext ρ ρ') {x : AP} {v : Value} (h : PRel ρ x v) : PRel ρ' x v := by
  cases h with
  | c h => exact .c (h.mono he)
  | agg h => exact .agg (h.mono fun _ _ k => k.mono he)
theorem VRel.mono {ρ ρ' : Rho} (he : Ext ρ ρ') {x : AV} {v : Value} (h : VRel ρ x v) : VRel ρ' x v := by
  cases h with
  | p h => exact .p (h.mono he)
  | tup h => exact .tup (h.mono fun _ _ k => k.mono he)
  | bfn h => exact .bfn (h.mono fun _ _ k => k.mono he)
  | undef => exact .undef

theorem CRel.one {ρ : Rho} {x : AC} {v : Value} (h : CRel ρ x v) : v.oneCell' = true := by cases h <;> rfl
theorem CRel.cells {ρ : Rho} {x : AC} {v : Value} (h : CRel ρ x v) : v.cells = #[v] := by cases h <;> rfl

/-- The cells of a value. -/
def AP.cells : AP → List AC
  | .c x => [x]
  | .agg xs => xs
theorem PRel.cells {ρ : Rho} {x : AP} {v : Value} (h : PRel ρ x v) : All2 (CRel ρ) x.cells v.cells.toList := by
  cases h with
  | c h => rw [h.cells]; exact .cons h .nil
  | agg h => simpa [AP.cells, Value.cells] using h
theorem all_one {ρ : Rho} {xs : List AC} {vs : List Value} (h : All2 (CRel ρ) xs vs) : ∀ u ∈ vs, u.oneCell' = true := by
  induction h with
  | nil => intro u hu; cases hu
  | cons h _ ih =>
    intro u hu
    cases hu with
    | head => exact h.one
    | tail _ hu => exact ih u hu

/-! ### memory -/
inductive AObj where
  | ro (esz : Nat) (cs : List AC)
  | rw (t esz : Nat) (cs : List AC)
  | map (kv : List (AC × AC))
  | dead
  deriving Inhabited

abbrev Heap := Nat → Option AObj

def AObj.owned : AObj → Bool
  | .rw .. | .map _ => true
  | _ => false

def ORel (B : Nat) (ρ : Rho) (w : World) (L : Loc) : AObj → Prop
  | .ro esz cs => L.esz = esz ∧ L.b < B ∧ ∀ j x, cs[j]? = some x → ∃ v, w.cell? ⟨L.b, L.o + j, none⟩ = some v ∧ CRel ρ x v
  | .rw t esz cs => L.esz = esz ∧ B ≤ L.b ∧ L.o = 0 ∧ ∃ cur, w.heap[L.b]? = some (.cells cur t (0, 0)) ∧ cur.size = L.cap * esz ∧ L.cap ≤ maxLen ∧ All2 (CRel ρ) cs (cur.toList.take cs.length)
  | .map kv => B ≤ L.b ∧ ∃ es clk, w.heap[L.b]? = some (.map es clk) ∧ All2 (fun p e => CRel ρ p.1 e.key ∧ CRel ρ p.2 e.val) kv es.toList
  | .dead => True

structure Sim (B : Nat) (ρ : Rho) (h : Heap) (w : World) : Prop where
  dom : ∀ id L, ρ id = some L → h id ≠ none
  obj : ∀ id o, h id = some o → ∃ L, ρ id = some L ∧ ORel B ρ w L o
  inj : ∀ id id' o o' L L', h id = some o → h id' = some o' → ρ id = some L → ρ id' = some L' → o.owned = true → o'.owned = true → L.b = L'.b → id = id'
  base : B ≤ w.heap.size

def upd (h : Heap) (id : Nat) (o : AObj) : Heap := fun x => if x = id then some o else h x
theorem upd_eq (h : Heap) (id : Nat) (o : AObj) : upd h id o id = some o := by simp [upd]
theorem upd_ne (h : Heap) (id x : Nat) (o : AObj) (hne : x ≠ id) : upd h id o x = h x := by simp [upd, hne]

def rset (ρ : Rho) (id : Nat) (L : Loc) : Rho := fun x => if x = id then some L else ρ x
theorem rset_ext {ρ : Rho} {id : Nat} {L : Loc} (h : ρ id = none) : Ext ρ (rset ρ id L) := fun x M e => by
  unfold rset; split
  · rename_i hx; subst hx; rw [h] at e; cases e
  · exact e

theorem Sim.none_of {B : Nat} {ρ : Rho} {h : Heap} {w : World} (hs : Sim B ρ h w) {id : Nat} (hn : h id = none) : ρ id = none := by
  cases e : ρ id with
  | none => rfl
  | some L => exact absurd hn (hs.dom id L e)

/-- The world has grown by blocks, and writes went to blocks of which nothing is told. -/
theorem ORel.keep {B : Nat} {ρ : Rho} {w w' : World} {L : Loc} {o : AObj} (h : ORel B ρ w L o) (hk : w'.heap[L.b]? = w.heap[L.b]?) : ORel B ρ w' L o := by
  cases o with
  | ro esz cs => exact ⟨h.1, h.2.1, fun j x hx => by obtain ⟨v, hv, hr⟩ := h.2.2 j x hx; exact ⟨v, (World.cell?_of_block (a := ⟨L.b, L.o + j, none⟩) hk).trans hv, hr⟩⟩
  | rw t esz cs => obtain ⟨h1, h2, h3, cur, h4, h5⟩ := h; exact ⟨h1, h2, h3, cur, hk.trans h4, h5⟩
  | map kv => obtain ⟨h1, es, clk, h2, h3⟩ := h; exact ⟨h1, es, clk, hk.trans h2, h3⟩
  | dead => trivial
theorem ORel.ext {B : Nat} {ρ ρ' : Rho} (he : Ext ρ ρ') {w : World} {L : Loc} {o : AObj} (h : ORel B ρ w L o) : ORel B ρ' w L o := by
  cases o with
  | ro esz cs => exact ⟨h.1, h.2.1, fun j x hx => by obtain ⟨v, hv, hr⟩ := h.2.2 j x hx; exact ⟨v, hv, hr.mono he⟩⟩
  | rw t esz cs => obtain ⟨h1, h2, h3, cur, h4, h5, h6, h7⟩ := h; exact ⟨h1, h2, h3, cur, h4, h5, h6, h7.mono fun _ _ k => k.mono he⟩
  | map kv => obtain ⟨h1, es, clk, h2, h3⟩ := h; exact ⟨h1, es, clk, h2, h3.mono fun _ _ k => ⟨k.1.mono he, k.2.mono he⟩⟩
  | dead => trivial

theorem ORel.lt {B : Nat} {ρ : Rho} {w : World} {L : Loc} {o : AObj} (h : ORel B ρ w L o) (ho : o.owned = true) : B ≤ L.b ∧ L.b < w.heap.size := by
  cases o with
  | ro => cases ho
  | dead => cases ho
  | rw t esz cs => obtain ⟨h1, h2, h3, cur, h4, h5⟩ := h; exact ⟨h2, (Array.getElem?_eq_some_iff.1 h4).1⟩
  | map kv => obtain ⟨h1, es, clk, h2, h3⟩ := h; exact ⟨h1, (Array.getElem?_eq_some_iff.1 h2).1⟩

/-- A draw, or anything that leaves the blocks alone. -/
theorem Sim.world {B : Nat} {ρ : Rho} {h : Heap} {w w' : World} (hs : Sim B ρ h w) (hw : w'.heap = w.heap) : Sim B ρ h w' :=
  ⟨hs.dom, fun id o ho => by obtain ⟨L, hL, hr⟩ := hs.obj id o ho; exact ⟨L, hL, hr.keep (by rw [hw])⟩, hs.inj, by rw [hw]; exact hs.base⟩

/-- Blocks are laid beside: nothing changes. -/
theorem Sim.grow {B : Nat} {ρ : Rho} {h : Heap} {w w' : World} (hs : Sim B ρ h w) (hsz : w.heap.size ≤ w'.heap.size) (hk : ∀ k, k < w.heap.size → w'.heap[k]? = w.heap[k]?) : Sim B ρ h w' := by
  refine ⟨hs.dom, fun id o ho => ?_, hs.inj, Nat.le_trans hs.base hsz⟩
  obtain ⟨L, hL, hr⟩ := hs.obj id o ho
  refine ⟨L, hL, ?_⟩
  cases o with
  | ro esz cs =>
    have hlt : L.b < w.heap.size := Nat.lt_of_lt_of_le hr.2.1 hs.base
    exact hr.keep (hk _ hlt)
  | rw t esz cs => exact hr.keep (hk _ (hr.lt rfl).2)
  | map kv => exact hr.keep (hk _ (hr.lt rfl).2)
  | dead => trivial

/-- A new object of ours, in a block that was not there. -/
theorem Sim.new {B : Nat} {ρ : Rho} {h : Heap} {w w' : World} (hs : Sim B ρ h w) {id : Nat} {o : AObj} {L : Loc} (hid : h id = none)
    (hsz : w.heap.size ≤ w'.heap.size) (hk : ∀ k, k < w.heap.size → w'.heap[k]? = w.heap[k]?) (hL : w.heap.size ≤ L.b) (ho : ORel B (rset ρ id L) w' L o) :
    Sim B (rset ρ id L) (upd h id o) w' := by
  have hg := hs.grow hsz hk
  have hx := rset_ext (L := L) (hs.none_of hid)
  refine ⟨fun x M e => ?_, fun x o' e => ?_, fun x x' o1 o2 L1 L2 e1 e2 r1 r2 q1 q2 hb => ?_, hg.base⟩
  · unfold upd; split
    · simp
    · rename_i hne; exact hs.dom x M (by simpa [rset, hne] using e)
  · unfold upd at e; split at e
    · rename_i hxe; subst hxe; obtain rfl := Option.some.inj e; exact ⟨L, by simp [rset], ho⟩
    · obtain ⟨M, hM, hr⟩ := hg.obj x o' e
      exact ⟨M, hx _ _ hM, hr.ext hx⟩
  · have key : ∀ y oy M, h y = some oy → ρ y = some M → oy.owned = true → M.b < w.heap.size := fun y oy M h1 h2 h3 => by
      obtain ⟨M', hM', hr⟩ := hs.obj y oy h1
      rw [h2] at hM'; obtain rfl := Option.some.inj hM'
      exact (hr.lt h3).2
    by_cases hx1 : x = id <;> by_cases hx2 : x' = id
    · rw [hx1, hx2]
    · exfalso
      simp [rset, hx1] at r1; simp [rset, hx2] at r2; simp [upd, hx2] at e2
      have := key x' o2 L2 e2 r2 q2
      subst r1; omega
    · exfalso
      simp [rset, hx1] at r1; simp [rset, hx2] at r2; simp [upd, hx1] at e1
      have := key x o1 L1 e1 r1 q1
      subst r2; omega
    · simp [rset, hx1] at r1; simp [rset, hx2] at r2; simp [upd, hx1] at e1; simp [upd, hx2] at e2
      exact hs.inj x x' o1 o2 L1 L2 e1 e2 r1 r2 q1 q2 hb

/-- An object of ours is written: its block alone has turned. -/
theorem Sim.write {B : Nat} {ρ : Rho} {h : Heap} {w w' : World} (hs : Sim B ρ h w) {id : Nat} {o o' : AObj} {L : Loc} (hid : h id = some o) (hL : ρ id = some L) (how : o.owned = true)
    (hsz : w'.heap.size = w.heap.size) (hk : ∀ k, k ≠ L.b → w'.heap[k]? = w.heap[k]?) (hob : o'.owned = true → True) (ho : ORel B ρ w' L o') :
    Sim B ρ (upd h id o') w' := by
  have hLr : ORel B ρ w L o := by
    obtain ⟨M, hM, hr⟩ := hs.obj id o hid
    rw [hL] at hM; obtain rfl := Option.some.inj hM; exact hr
  have hlt := hLr.lt how
  refine ⟨fun x M e => ?_, fun x o1 e => ?_, fun x x' o1 o2 L1 L2 e1 e2 r1 r2 q1 q2 hb => ?_, by rw [hsz]; exact hs.base⟩
  · unfold upd; split
    · simp
    · exact hs.dom x M e
  · unfold upd at e; split at e
    · rename_i hxe; subst hxe; obtain rfl := Option.some.inj e; exact ⟨L, hL, ho⟩
    · rename_i hne
      obtain ⟨M, hM, hr⟩ := hs.obj x o1 e
      refine ⟨M, hM, ?_⟩
      cases o1 with
      | ro esz cs => exact hr.keep (hk _ (by have := hr.2.1; omega))
      | rw t esz cs => exact hr.keep (hk _ fun hbb => hne (hs.inj x id _ _ M L e hid hM hL rfl how hbb))
      | map kv => exact hr.keep (hk _ fun hbb => hne (hs.inj x id _ _ M L e hid hM hL rfl how hbb))
      | dead => trivial
  · have conv : ∀ y oy, upd h id o' y = some oy → oy.owned = true → ∃ oz, h y = some oz ∧ oz.owned = true := fun y oy e q => by
      unfold upd at e; split at e
      · rename_i hy; subst hy; exact ⟨o, hid, how⟩
      · exact ⟨oy, e, q⟩
    obtain ⟨z1, hz1, k1⟩ := conv x o1 e1 q1
    obtain ⟨z2, hz2, k2⟩ := conv x' o2 e2 q2
    exact hs.inj x x' z1 z2 L1 L2 hz1 hz2 r1 r2 k1 k2 hb

/-- What is forgotten. -/
theorem Sim.kill {B : Nat} {ρ : Rho} {h : Heap} {w : World} (hs : Sim B ρ h w) (id : Nat) (hid : h id ≠ none) : Sim B ρ (upd h id .dead) w := by
  refine ⟨fun x M e => ?_, fun x o1 e => ?_, fun x x' o1 o2 L1 L2 e1 e2 r1 r2 q1 q2 hb => ?_, hs.base⟩
  · unfold upd; split
    · simp
    · exact hs.dom x M e
  · unfold upd at e; split at e
    · rename_i hxe; subst hxe; obtain rfl := Option.some.inj e
      cases e0 : h x with
      | none => exact absurd e0 hid
      | some o => obtain ⟨L, hL, _⟩ := hs.obj x o e0; exact ⟨L, hL, trivial⟩
    · exact hs.obj x o1 e
  · have conv : ∀ y oy, upd h id .dead y = some oy → oy.owned = true → h y = some oy := fun y oy e q => by
      unfold upd at e; split at e
      · obtain rfl := Option.some.inj e; cases q
      · exact e
    exact hs.inj x x' o1 o2 L1 L2 (conv x o1 e1 q1) (conv x' o2 e2 q2) r1 r2 q1 q2 hb

/-- What a slice's or a pointer's cells read as. -/
def cellsOf (h : Heap) (id : Nat) : Option (List AC) :=
  match h id with
  | some (.ro _ cs) | some (.rw _ _ cs) => some cs
  | _ => none
/-- 'n' cells from 'off' on. -/
def cut (cs : List AC) (off n : Nat) : Option (List AC) := if off + n ≤ cs.length then some ((cs.drop off).take n) else none
def cellsAt (h : Heap) (id off n : Nat) : Option (List AC) := (cellsOf h id).bind fun cs => cut cs off n

theorem cellsAt_read {B : Nat} {ρ : Rho} {h : Heap} {w : World} (hs : Sim B ρ h w) {id off n : Nat} {cs : List AC} {L : Loc} (hL : ρ id = some L) (hc : cellsAt h id off n = some cs) :
    ∃ vs : List Value, All2 (CRel ρ) cs vs ∧ ∀ j v, vs[j]? = some v → w.cell? ⟨L.b, L.o + off + j, none⟩ = some v := by
  unfold cellsAt cellsOf at hc
  have fin : ∀ (all : List AC) (f : Nat → Option Value), (∀ j x, all[j]? = some x → ∃ v, f j = some v ∧ CRel ρ x v) → cut all off n = some cs →
      ∃ vs : List Value, All2 (CRel ρ) cs vs ∧ ∀ j v, vs[j]? = some v → f (off + j) = some v := by
    intro all f hf hcut
    unfold cut at hcut
    split at hcut
    · rename_i hle
      obtain rfl := Option.some.inj hcut
      refine ⟨(List.range n).map fun j => (f (off + j)).getD undef, All2.of_get (by simp; omega) fun j x hx => ?_, fun j v hv => ?_⟩
      · rw [List.getElem?_take] at hx
        split at hx
        · rename_i hj
          rw [List.getElem?_drop] at hx
          obtain ⟨v, hv, hr⟩ := hf _ x hx
          exact ⟨v, by simp [hj, hv], hr⟩
        · cases hx
      · rw [List.getElem?_map] at hv
        cases e : (List.range n)[j]? with
        | none => rw [e] at hv; cases hv
        | some k =>
          rw [e] at hv
          have hj : j < n := by have := (List.getElem?_eq_some_iff.1 e).1; simpa using this
          have hk : k = j := by have := (List.getElem?_eq_some_iff.1 e).2; simpa using this.symm
          subst hk
          simp at hv
          obtain ⟨v', hv', _⟩ := hf (off + k) _ (List.getElem?_eq_getElem (by omega : off + k < all.length))
          rw [hv'] at hv ⊢
          simpa using hv
    · cases hcut
  cases e : h id with
  | none => simp [e] at hc
  | some o =>
    obtain ⟨L', hL', hr⟩ := hs.obj id o e
    rw [hL] at hL'; obtain rfl := Option.some.inj hL'
    cases o with
    | ro esz all =>
      simp [e] at hc
      obtain ⟨vs, h1, h2⟩ := fin all (fun j => w.cell? ⟨L.b, L.o + j, none⟩) hr.2.2 hc
      exact ⟨vs, h1, fun j v hv => by rw [Nat.add_assoc]; exact h2 j v hv⟩
    | rw t esz all =>
      simp [e] at hc
      obtain ⟨_, _, h0, cur, hcur, _, _, hall⟩ := hr
      obtain ⟨vs, h1, h2⟩ := fin all (fun j => w.cell? ⟨L.b, L.o + j, none⟩) (fun j x hx => by
        obtain ⟨v, hv, hr⟩ := hall.get j x hx
        refine ⟨v, ?_, hr⟩
        rw [List.getElem?_take] at hv
        split at hv
        · simp [World.cell?, hcur, h0]; simpa using hv
        · cases hv) hc
      exact ⟨vs, h1, fun j v hv => by rw [Nat.add_assoc]; exact h2 j v hv⟩
    | map kv => simp [e] at hc
    | dead => simp [e] at hc

end Go.Proofs.Ytlmbgaoeplffkaa

/- Abstract operations, the abstract operation for each of the model's, and that both do the same. -/
namespace Go.Proofs.Ytlmbgaoeplffkaa
open Go Go.RowKit
set_option linter.unusedVariables false
set_option linter.unusedSimpArgs false

inductive Opd where
  | t (i : Nat)
  | k (v : AV)
  | f (n : Nat)
  deriving Inhabited

inductive AOp where
  | mv (x : Opd)
  | pick (c a b : Opd)
  | bin (op : BinOp) (x y : Opd)
  | beq (neg : Bool) (x y : Opd)
  | isNil (neg : Bool) (x : Opd)
  | un (op : UnOp) (x : Opd)
  | conv (k : IntKind) (x : Opd)
  | convF (k : FloatKind) (x : Opd)
  | ext (x : Opd) (i : Nat)
  | fieldA (off : Nat) (x : Opd)
  | idxA (esz : Nat) (x i : Opd)
  | idxArr (len esz : Nat) (x i : Opd)
  | idxV (len esz : Nat) (agg : Bool) (x i : Opd)
  | nilChk (x : Opd)
  | build (zero : List AC) (parts : List (Nat × Nat × Opd))
  | mkFn (f : Nat) (caps : List Opd)
  | mkBound (f : Nat) (first : List Opd)
  | slice (esz : Nat) (x : Opd) (lo hi : Option Opd)
  | slice00 (x : Opd)
  | len (str : Bool) (x : Opd)
  | minmax (isMax : Bool) (x y : Opd)
  | load (agg : Bool) (size : Nat) (x : Opd)
  | alloc (t : Nat) (zero : List AC)
  | box (t : Nat) (x : Opd)
  | buildS (t esz len : Nat) (zero : List AC) (parts : List (Nat × Nat × Opd))
  | makeS (t esz bytes : Nat) (zero : List AC) (x c : Opd)
  | store (size : Nat) (x v : Opd)
  | append (t esz bytes : Nat) (s x : Opd)
  | mkMap
  | mlen (x : Opd)
  | bstr (x : Opd)
  | lookup (ks ok : Bool) (zero : AC) (x k : Opd)
  | mapSet (ks : Bool) (x k v : Opd)
  | copy (esz : Nat) (d s : Opd)
  | bad
  | call (f : Opd) (args : List Opd)
  deriving Inhabited

abbrev iv (n : Int) : AV := .c (.int .i64 n)
abbrev bv (b : Bool) : AV := .c (.bool b)

/-! ### what they do -/
def intBin (op : BinOp) (k : IntKind) (x : Int) (k' : IntKind) (y : Int) : Option AC :=
  match op with
  | .shl => if y < 0 then none else some (.int k (k.wrap (x * 2 ^ min y.toNat k.bits)))
  | .shr => if y < 0 then none else some (.int k (x.fdiv (2 ^ min y.toNat k.bits)))
  | op => if k = k' then
      match op with
      | .add => some (.int k (k.wrap (x + y)))
      | .sub => some (.int k (k.wrap (x - y)))
      | .mul => some (.int k (k.wrap (x * y)))
      | .quo => if y = 0 then none else some (.int k (k.wrap (x.tdiv y)))
      | .rem => if y = 0 then none else some (.int k (x.tmod y))
      | .and => some (.int k (k.wrap (BitVec.ofInt k.bits x &&& BitVec.ofInt k.bits y).toNat))
      | .or => some (.int k (k.wrap (BitVec.ofInt k.bits x ||| BitVec.ofInt k.bits y).toNat))
      | .eql => some (.bool (x == y))
      | .neq => some (.bool (x != y))
      | .lss => some (.bool (x < y))
      | .leq => some (.bool (x ≤ y))
      | .gtr => some (.bool (x > y))
      | .geq => some (.bool (x ≥ y))
      | _ => none
    else none

def floatBin (op : BinOp) (k : FloatKind) (x : Nat) (y : Nat) : Option AC :=
  match op with
  | .add => (k.format.add x y).map (.float k)
  | .sub => (k.format.sub x y).map (.float k)
  | .mul => (k.format.mul x y).map (.float k)
  | .quo => (k.format.div x y).map (.float k)
  | .eql => some (.bool (k.format.order x y == some .eq))
  | .neq => some (.bool (k.format.order x y != some .eq))
  | .lss => some (.bool (k.format.order x y == some .lt))
  | .leq => some (.bool (k.format.order x y == some .lt || k.format.order x y == some .eq))
  | .gtr => some (.bool (k.format.order x y == some .gt))
  | .geq => some (.bool (k.format.order x y == some .gt || k.format.order x y == some .eq))
  | _ => none

def binV (op : BinOp) : AV → AV → Option AV
  | .p (.c (.int k x)), .p (.c (.int k' y)) => (intBin op k x k' y).map AV.c
  | .p (.c (.float k x)), .p (.c (.float k' y)) => if k = k' then (floatBin op k x y).map AV.c else none
  | _, _ => none

def unV (op : UnOp) : AV → Option AV
  | .p (.c (.bool b)) => if op = .not then some (bv !b) else none
  | .p (.c (.int k n)) => if op = .neg then some (.c (.int k (k.wrap (0 - n)))) else none
  | .p (.c (.float k n)) => if op = .neg then some (.c (.float k (Op.negFloat k n))) else none
  | _ => none

def asB : AV → Option Bool
  | .p (.c (.bool b)) => some b
  | _ => none
def asI : AV → Option Int
  | .p (.c (.int _ n)) => some n
  | _ => none
def asP : AV → Option AP
  | .p x => some x
  | _ => none
def asSl : AV → Option (Nat × Nat × Nat)
  | .p (.c (.sl id off len)) => some (id, off, len)
  | _ => none
def asPtr : AV → Option (Nat × Nat)
  | .p (.c (.ptr id off)) => some (id, off)
  | _ => none
def asAgg : AV → Option (List AC)
  | .p (.agg xs) => some xs
  | _ => none
def asC : AV → Option AC
  | .p (.c x) => some x
  | _ => none
def asMp : AV → Option Nat
  | .p (.c (.mp id)) => some id
  | _ => none

def convV (k : IntKind) : AV → Option AV
  | .p (.c (.int _ n)) => some (.c (.int k (k.wrap n)))
  | _ => none
def convFV (k : FloatKind) : AV → Option AV
  | .p (.c (.int _ n)) => some (.c (.float k (k.nearest n)))
  | .p (.c (.float s b)) => if s = k then some (.c (.float k b)) else
    match s.decode b with
    | .number sg m e => if (k.decode (k.encode (.number sg m e))).isInfinity then none else some (.c (.float k (k.encode (.number sg m e))))
    | _ => none
  | _ => none

def extV (v : AV) (i : Nat) : Option AV :=
  match v with
  | .tup xs => xs[i]?.map .p
  | _ => none
def fieldV (off : Nat) : AV → Option AV
  | .p (.c (.ptr id o)) => some (.c (.ptr id (o + off)))
  | _ => none
def idxV (esz : Nat) : AV → AV → Option AV
  | .p (.c (.sl id off len)), .p (.c (.int _ i)) => if 0 ≤ i ∧ i < len then some (.c (.ptr id (off + i.toNat * esz))) else none
  | _, _ => none
def idxArrV (n esz : Nat) : AV → AV → Option AV
  | .p (.c (.ptr id off)), .p (.c (.int _ i)) => if 0 ≤ i ∧ i < n then some (.c (.ptr id (off + i.toNat * esz))) else none
  | _, _ => none
def partV (agg : Bool) (xs : List AC) (off size : Nat) : Option AV := if agg then (cut xs off size).map AV.agg else (xs[off]?).map AV.c
def idxVV (n esz : Nat) (agg : Bool) : AV → AV → Option AV
  | .p (.agg xs), .p (.c (.int _ i)) => if 0 ≤ i ∧ i < n then partV agg xs (i.toNat * esz) esz else none
  | _, _ => none
def nilChkV : AV → Option AV
  | .p (.c (.ptr id off)) => some (.c (.ptr id off))
  | _ => none
def splice (cs : List AC) (off : Nat) (xs : List AC) : List AC := cs.take off ++ xs ++ cs.drop (off + xs.length)
def fillV (g : Opd → Option AV) : List AC → List (Nat × Nat × Opd) → Option (List AC)
  | cs, [] => some cs
  | cs, (off, size, x) :: r => (g x).bind fun v => (asP v).bind fun p => if p.cells.length = size ∧ off + size ≤ cs.length then fillV g (splice cs off p.cells) r else none
def ptrsV (g : Opd → Option AV) : List Opd → Option (List (Nat × Nat))
  | [] => some []
  | x :: r => (g x).bind fun v => (asPtr v).bind fun p => (ptrsV g r).map (p :: ·)
def firstV (g : Opd → Option AV) : List Opd → Option (List AP)
  | [] => some []
  | x :: r => (g x).bind fun v => (asP v).bind fun p => (firstV g r).map (p :: ·)
def sliceV (esz : Nat) (x : AV) (lo hi : Option Int) : Option AV :=
  match x with
  | .p (.c (.sl id off len)) =>
    let l := lo.getD 0
    let h := hi.getD len
    if 0 ≤ l ∧ l ≤ h ∧ h ≤ len ∧ (l < len ∨ l = 0) then some (.c (.sl id (off + l.toNat * esz) (h - l).toNat)) else none
  | _ => none
def slice00V : AV → Option AV
  | .p (.c (.sl id _ _)) => some (.c (.sl (if id = 0 then 0 else 1) 0 0))
  | _ => none
def lenV : Bool → AV → Option AV
  | false, .p (.c (.sl _ _ len)) => some (iv len)
  | true, .p (.c (.str s)) => some (iv s.size)
  | _, _ => none
def minmaxV (isMax : Bool) : AV → AV → Option AV
  | .p (.c (.int k x)), .p (.c (.int k' y)) => some (.c (.int k (if isMax then (if y > x then y else x) else (if y < x then y else x))))
  | .p (.c (.float k x)), .p (.c (.float k' y)) => if k = k' then
      match k.format.order x y with
      | none => none
      | some .lt => some (.c (.float k (if isMax then y else x)))
      | some .gt => some (.c (.float k (if isMax then x else y)))
      | some .eq => some (.c (.float k (if isMax then (if (k.decode x).neg then y else x) else (if (k.decode x).neg then x else y))))
    else none
  | _, _ => none
def isNilV (neg : Bool) : AV → Option AV
  | .p (.c (.sl id _ _)) => some (bv (if neg then !(id == 0) else id == 0))
  | _ => none
def beqV (neg : Bool) : AV → AV → Option AV
  | .p (.c (.bool x)), .p (.c (.bool y)) => some (bv (if neg then !(x == y) else x == y))
  | _, _ => none
def optI (g : Opd → Option AV) : Option Opd → Option (Option Int)
  | none => some none
  | some x => ((g x).bind asI).map some

/-- Operations that need no memory. -/
def evP (g : Opd → Option AV) : AOp → Option AV
  | .mv x => g x
  | .pick c a b => (g c).bind fun v => (asB v).bind fun t => if t then g a else g b
  | .bin op x y => (g x).bind fun a => (g y).bind fun b => binV op a b
  | .beq neg x y => (g x).bind fun a => (g y).bind fun b => beqV neg a b
  | .isNil neg x => (g x).bind (isNilV neg)
  | .un op x => (g x).bind (unV op)
  | .conv k x => (g x).bind (convV k)
  | .convF k x => (g x).bind (convFV k)
  | .ext x i => (g x).bind fun v => extV v i
  | .fieldA off x => (g x).bind (fieldV off)
  | .idxA esz x i => (g x).bind fun a => (g i).bind fun b => idxV esz a b
  | .idxArr n esz x i => (g x).bind fun a => (g i).bind fun b => idxArrV n esz a b
  | .idxV n esz agg x i => (g x).bind fun a => (g i).bind fun b => idxVV n esz agg a b
  | .nilChk x => (g x).bind nilChkV
  | .build zero parts => (fillV g zero parts).map AV.agg
  | .mkFn f caps => (ptrsV g caps).map fun l => .c (.fn f l)
  | .mkBound f first => (firstV g first).map (.bfn f)
  | .slice esz x lo hi => (g x).bind fun a => (optI g lo).bind fun l => (optI g hi).bind fun h => sliceV esz a l h
  | .slice00 x => (g x).bind slice00V
  | .len b x => (g x).bind (lenV b)
  | .minmax m x y => (g x).bind fun a => (g y).bind fun b => minmaxV m a b
  | _ => none

/-- Are two keys the same? 'ks': keys are strings. -/
def sameKey : Bool → AC → AC → Option Bool
  | false, .int b m, .int a n => if b = a then some (m == n) else none
  | true, .str b, .str a => some (b == a)
  | _, _, _ => none
def scanKV (ks : Bool) (k : AC) : List (AC × AC) → Option (Option AC)
  | [] => some none
  | (a, v) :: r => match sameKey ks k a with
    | some true => some (some v)
    | some false => scanKV ks k r
    | none => none

/-- Bytes as a text. -/
def numsOf : List AC → Option (List Int)
  | [] => some []
  | .int .u8 n :: r => (numsOf r).map (n :: ·)
  | _ => none
def strN (xs : List Int) : ByteArray := xs.foldl (fun r n => r.push (UInt8.ofNat n.toNat)) ByteArray.empty

/-- Operations that read memory. -/
def evR (g : Opd → Option AV) (h : Heap) : AOp → Option AV
  | .load agg size x => (g x).bind fun v => (asPtr v).bind fun p =>
      if agg then (cellsAt h p.1 p.2 size).map AV.agg else (cellsOf h p.1).bind fun cs => (cs[p.2]?).map AV.c
  | .mlen x => (g x).bind fun v => (asMp v).bind fun id => match h id with
    | some (.map kv) => some (iv kv.length)
    | _ => none
  | .bstr x => (g x).bind fun v => (asSl v).bind fun p => if p.1 ≤ 1 then none else (cellsAt h p.1 p.2.1 p.2.2).bind fun cs => (numsOf cs).map fun xs => .c (.str (strN xs))
  | .lookup ks ok zero x k => (g x).bind fun v => (asMp v).bind fun id => (g k).bind fun kv' => (asC kv').bind fun key => match h id with
    | some (.map kv) => (scanKV ks key kv).map fun r => if ok then .tup [.c (r.getD zero), .c (.bool r.isSome)] else .c (r.getD zero)
    | _ => none
  | _ => none

/-- Operations that make memory: the value, and the new object. -/
def evA (g : Opd → Option AV) (n : Nat) : AOp → Option (AV × Option AObj)
  | .alloc t zero => some (.c (.ptr n 0), some (.rw t zero.length zero))
  | .box t x => (g x).bind fun v => (asP v).map fun p => (.c (.ptr n 0), some (.rw t p.cells.length p.cells))
  | .buildS t esz len zero parts => if len = 0 then (if parts.isEmpty then some (.c (.sl 1 0 0), none) else none) else
      (fillV g (List.flatten (List.replicate len zero)) parts).map fun cs => (.c (.sl n 0 len), some (.rw t esz cs))
  | .makeS t esz bytes zero x c => (g x).bind fun v => (asI v).bind fun l => (g c).bind fun v' => (asI v').bind fun l' =>
      if 0 ≤ l ∧ l' = l ∧ bytes * l ≤ 140737488355328 ∧ l ≤ 4611686018427387904 then some (.c (.sl n 0 l.toNat), some (.rw t esz (List.flatten (List.replicate l.toNat zero)))) else none
  | .mkMap => some (.c (.mp n), some (.map []))
  | _ => none

def setKV (ks : Bool) (k v : AC) : List (AC × AC) → Option (List (AC × AC))
  | [] => some [(k, v)]
  | (a, x) :: r => match sameKey ks k a with
    | some true => some ((k, v) :: r)
    | some false => (setKV ks k v r).map ((a, x) :: ·)
    | none => none

def srcCells (h : Heap) (esz : Nat) : Nat × Nat × Nat → Option (List AC)
  | (id, off, len) => if id = 0 ∨ id = 1 then (if len = 0 then some [] else none) else cellsAt h id off (len * esz)

/-- Operations that write memory. -/
def evH (g : Opd → Option AV) (h : Heap) (n : Nat) : AOp → Option (Option AV × Heap × Nat)
  | .store size x v => (g x).bind fun a => (asPtr a).bind fun p => (g v).bind fun b => (asP b).bind fun q => match h p.1 with
    | some (.rw t esz cs) => if q.cells.length = size ∧ p.2 + size ≤ cs.length then some (none, upd h p.1 (.rw t esz (splice cs p.2 q.cells)), n) else none
    | _ => none
  | .append t esz bytes s x => (g s).bind fun a => (asSl a).bind fun p => (g x).bind fun b => (asSl b).bind fun q => (srcCells h esz q).bind fun news =>
      if (p.2.2 + q.2.2) * bytes ≤ 140737488355328 ∧ p.2.2 + q.2.2 ≤ 4611686018427387904 then
        if p.1 = 0 ∨ p.1 = 1 then
          if p.2.2 = 0 then
            if q.2.2 = 0 then some (some a, h, n) else some (some (.c (.sl n 0 q.2.2)), upd h n (.rw t esz news), n + 1)
          else none
        else match h p.1 with
          | some (.rw t' esz' cs) => if t' = t ∧ esz' = esz ∧ p.2.1 = 0 ∧ p.2.2 * esz ≤ cs.length then
              some (some (.c (.sl n 0 (p.2.2 + q.2.2))), upd (upd h p.1 .dead) n (.rw t esz (cs.take (p.2.2 * esz) ++ news)), n + 1) else none
          | _ => none
      else none
  | .copy esz d s => (g d).bind fun a => (asSl a).bind fun p => (g s).bind fun b => (asSl b).bind fun q =>
      if p.1 = 0 ∨ p.1 = 1 then (if p.2.2 = 0 then some (some (iv 0), h, n) else none) else
      (srcCells h esz (q.1, q.2.1, min q.2.2 p.2.2)).bind fun news => match h p.1 with
        | some (.rw t' esz' cs) => if p.2.1 + news.length ≤ cs.length ∧ min q.2.2 p.2.2 * esz = news.length then some (some (iv (min q.2.2 p.2.2)), upd h p.1 (.rw t' esz' (splice cs p.2.1 news)), n) else none
        | _ => none
  | .mapSet ks x k v => (g x).bind fun a => (asMp a).bind fun id => (g k).bind fun b => (asC b).bind fun key => (g v).bind fun c => (asC c).bind fun val => match h id with
    | some (.map kv) => (setKV ks key val kv).map fun kv' => (none, upd h id (.map kv'), n)
    | _ => none
  | _ => none

/-! ### what they are made of -/
def cCell : Value → Option AC
  | .int k n => some (.int k n)
  | .bool b => some (.bool b)
  | .float k n => some (.float k n)
  | .string s => some (.str s)
  | .slice none 0 0 => some (.sl 0 0 0)
  | .nilFunc => some .nilF
  | .map none => some .nilM
  | .pointer none => some .nilP
  | _ => none
def cCells : List Value → Option (List AC)
  | [] => some []
  | v :: r => (cCell v).bind fun x => (cCells r).map (x :: ·)
def cConst : Value → Option AV
  | .agg cs => (cCells cs.toList).map AV.agg
  | v => (cCell v).map AV.c
def cOpd : Operand → Option Opd
  | .tmp t => some (.t t)
  | .const v => (cConst v).map .k
  | .func f => some (.f f)
  | .global _ => none
def cOpds : List Operand → Option (List Opd)
  | [] => some []
  | x :: r => (cOpd x).bind fun y => (cOpds r).map (y :: ·)
def tsize (P : Program) (t : TypeId) : Option Nat := (P.info? t).map (·.size)
def tbytes (P : Program) (t : TypeId) : Option Nat := (P.info? t).map (·.bytes)
def tzero (P : Program) (t : TypeId) : Option (List AC) := (P.info? t).bind fun i => i.zero.bind fun z => if z.cells.size = i.size then cCells z.cells.toList else none
def tagg (P : Program) (t : TypeId) : Option Bool := (P.underlying t).map fun | .struct _ | .array _ _ => true | _ => false
def cParts (place : Nat → Option (Nat × Nat)) : List (Nat × Operand) → Option (List (Nat × Nat × Opd))
  | [] => some []
  | (i, x) :: r => (place i).bind fun p => (cOpd x).bind fun y => (cParts place r).map ((p.1, p.2, y) :: ·)
def fplace (P : Program) (fs : Array Field) (i : Nat) : Option (Nat × Nat) := fs[i]?.bind fun f => (tsize P f.type).map fun s => (f.offset, s)
def elemT (P : Program) (t : TypeId) : Option TypeId := match P.underlying t with
  | some (.slice e) => some e
  | _ => none
def isNilC : Operand → Bool
  | .const (.slice none 0 0) => true
  | _ => false
def cOptOpd : Option Operand → Option (Option Opd)
  | none => some none
  | some x => (cOpd x).map some
def isZeroC : Option Operand → Bool
  | some (.const (.int _ 0)) => true
  | _ => false
def posN (n : Nat) : Option Nat := if n = 0 then none else some n

def cBin (P : Program) (op : BinOp) (t : TypeId) (x y : Operand) : Option AOp :=
  match P.underlying t with
  | some (.int _) | some (.float _) => (cOpd x).bind fun a => (cOpd y).map fun b => .bin op a b
  | some .bool => (cOpd x).bind fun a => (cOpd y).bind fun b => if op = .eql then some (.beq false a b) else if op = .neq then some (.beq true a b) else none
  | some (.slice _) => if isNilC y then (cOpd x).bind fun a => if op = .eql then some (.isNil false a) else if op = .neq then some (.isNil true a) else none else none
  | _ => none
def cBuild (P : Program) (t : TypeId) (parts : List (Nat × Operand)) : Option AOp :=
  (tzero P t).bind fun z => match P.underlying t with
  | some (.struct fs) => if fs.all (fun f => (tsize P f.type).isSome) then (cParts (fplace P fs) parts).map (.build z) else none
  | some (.array _ e) => (tsize P e).bind fun s => (cParts (fun i => some (i * s, s)) parts).map (.build z)
  | _ => none
def cCall (P : Program) (c : Call) : Option AOp :=
  match c.callee with
  | .value f => (cOpd f).bind fun g => (cOpds c.args.toList).map (.call g)
  | .builtin .len => match c.args.toList, c.argTypes.toList with
    | [x], [t] => match P.underlying t with
      | some (.slice _) => (cOpd x).map (.len false)
      | some .string => (cOpd x).map (.len true)
      | some (.map _ _) => (cOpd x).map .mlen
      | _ => none
    | _, _ => none
  | .builtin .max => match c.args.toList with
    | [x, y] => (cOpd x).bind fun a => (cOpd y).map fun b => .minmax true a b
    | _ => none
  | .builtin .min => match c.args.toList with
    | [x, y] => (cOpd x).bind fun a => (cOpd y).map fun b => .minmax false a b
    | _ => none
  | .builtin .append => match c.args.toList, c.argTypes.toList with
    | [s, x], [t, t'] => if t = t' then (elemT P t).bind fun e => (tzero P e).bind fun _ => (tsize P e).bind fun sz => (posN sz).bind fun _ => (tbytes P e).bind fun by_ => (cOpd s).bind fun a => (cOpd x).map fun b => .append e sz by_ a b else none
    | _, _ => none
  | .builtin .copy => match c.args.toList, c.argTypes.toList with
    | [d, s], [t, t'] => (elemT P t).bind fun e => (tsize P e).bind fun sz => (cOpd d).bind fun a => (cOpd s).map fun b => .copy sz a b
    | _, _ => none
  | _ => none

def keyKind (P : Program) (t : TypeId) : Option Bool := match P.underlying t with
  | some (.int _) => some false
  | some .string => some true
  | _ => none

/-- The zero element of a map, of one cell. -/
def cLook (P : Program) (et : TypeId) : Option AC := (P.info? et).bind fun i => i.zero.bind cCell

/-- The abstract operation of one of the model's. -/
def cOp (P : Program) : Op → Option AOp
  | .move x | .assign x => (cOpd x).map .mv
  | .pick c a b => (cOpd c).bind fun c => (cOpd a).bind fun a => (cOpd b).map fun b => .pick c a b
  | .alloc t => (tzero P t).map (.alloc t)
  | .box t x => (cOpd x).map (.box t)
  | .build t parts => cBuild P t parts.toList
  | .buildSlice t len parts => (elemT P t).bind fun e => (tzero P e).bind fun z => (tsize P e).bind fun s => (posN s).bind fun _ => if len * s ≤ 16777216 then (cParts (fun i => some (i * s, s)) parts.toList).map (.buildS e s len z) else none
  | .load t a => (tagg P t).bind fun g => (tsize P t).bind fun s => (cOpd a).map (.load g s)
  | .store t a v => (tsize P t).bind fun s => (cOpd a).bind fun a => (cOpd v).map (.store s a)
  | .nilCheck x => (cOpd x).map .nilChk
  | .binOp op t x y _ => cBin P op t x y
  | .unOp op _ x => (cOpd x).map (.un op)
  | .convert s d x => match P.underlying s, P.underlying d with
    | some (.int _), some (.int k) => (cOpd x).map (.conv k)
    | some (.int _), some (.float k) | some (.float _), some (.float k) => (cOpd x).map (.convF k)
    | some (.slice e), some .string => match P.underlying e with
      | some (.int .u8) => (cOpd x).map .bstr
      | _ => none
    | _, _ => none
  | .makeFunc (.func f) first caps => if first.isEmpty then (cOpds caps.toList).map (.mkFn f) else if caps.isEmpty then (cOpds first.toList).map (.mkBound f) else none
  | .makeMap t none => match P.underlying t with
    | some (.map _ _) => some .mkMap
    | _ => none
  | .makeSlice t l c => (elemT P t).bind fun e => (tzero P e).bind fun z => (tsize P e).bind fun s => (posN s).bind fun _ => (tbytes P e).bind fun b => (cOpd l).bind fun x => (cOpd c).map (.makeS e s b z x)
  | .slice t x lo hi mx => (elemT P t).bind fun e => (tsize P e).bind fun s => (posN s).bind fun _ => match mx with
    | none => (cOpd x).bind fun a => (cOptOpd lo).bind fun l => (cOptOpd hi).map (.slice s a l)
    | some m => if isZeroC (some m) && isZeroC hi && lo.isNone then (cOpd x).map .slice00 else none
  | .fieldAddr t x i => match P.underlying t with
    | some (.struct fs) => (fs[i]?).bind fun f => (tsize P f.type).bind fun s => (posN s).bind fun _ => (cOpd x).map (.fieldA f.offset)
    | _ => none
  | .indexAddr t x i => match P.underlying t with
    | some (.slice e) => (tsize P e).bind fun s => (cOpd x).bind fun a => (cOpd i).map (.idxA s a)
    | some (.array n e) => (tsize P e).bind fun s => (cOpd x).bind fun a => (cOpd i).map (.idxArr n s a)
    | _ => none
  | .index t x i => match P.underlying t with
    | some (.array n e) => (tsize P e).bind fun s => (tagg P e).bind fun g => (cOpd x).bind fun a => (cOpd i).map (.idxV n s g a)
    | _ => none
  | .lookup t x k ok => match P.underlying t with
    | some (.map kt et) => (keyKind P kt).bind fun ks => (cLook P et).bind fun z0 => (cOpd x).bind fun a => (cOpd k).map (.lookup ks ok z0 a)
    | _ => none
  | .mapUpdate t x k v => match P.underlying t with
    | some (.map kt _) => (keyKind P kt).bind fun ks => (cOpd x).bind fun a => (cOpd k).bind fun b => (cOpd v).map (.mapSet ks a b)
    | _ => none
  | .extract x i => (cOpd x).map fun a => .ext a i
  | .call c => cCall P c
  | _ => none

end Go.Proofs.Ytlmbgaoeplffkaa

/- What the model's operations do, told of the abstract ones: those that need no memory. -/
namespace Go.Proofs.Ytlmbgaoeplffkaa
open Go Go.RowKit
set_option linter.unusedVariables false
set_option linter.unusedSimpArgs false

theorem cCell_rel {ρ : Rho} {v : Value} {x : AC} (h : cCell v = some x) : CRel ρ x v := by
  unfold cCell at h
  split at h <;> first | (obtain rfl := Option.some.inj h; constructor) | cases h
theorem cCells_rel {ρ : Rho} : ∀ {vs : List Value} {xs : List AC}, cCells vs = some xs → All2 (CRel ρ) xs vs
  | [], xs, h => by simp [cCells] at h; subst h; exact .nil
  | v :: r, xs, h => by
    simp only [cCells, Option.bind_eq_some_iff, Option.map_eq_some_iff] at h
    obtain ⟨x, hx, ys, hy, rfl⟩ := h
    exact .cons (cCell_rel hx) (cCells_rel hy)
theorem cConst_rel {ρ : Rho} {v : Value} {a : AV} (h : cConst v = some a) : VRel ρ a v := by
  unfold cConst at h
  split at h
  · rename_i cs
    obtain ⟨xs, hx, rfl⟩ := Option.map_eq_some_iff.1 h
    have := cCells_rel (ρ := ρ) hx
    exact .p (by simpa using PRel.agg this)
  · obtain ⟨x, hx, rfl⟩ := Option.map_eq_some_iff.1 h
    exact .p (.c (cCell_rel hx))

/-- The operands read as the frame tells. -/
structure OpsIn (ρ : Rho) (g : Opd → Option AV) (e : Operand → Value) : Prop where
  rel : ∀ x ax v, cOpd x = some ax → g ax = some v → VRel ρ v (e x)
  const : ∀ v, e (.const v) = v

section
variable {P : Program} {ρ : Rho} {g : Opd → Option AV} {e : Operand → Value} {w : World}

theorem run_isAgg {t : TypeId} {b : Bool} (h : tagg P t = some b) : (isAgg t).run P w = .ok b w := by
  unfold tagg at h
  obtain ⟨d, hd, hb⟩ := Option.map_eq_some_iff.1 h
  unfold isAgg
  simp only [Sem.run_bind, run_underlying hd, Result.andThen_ok]
  cases d <;> simp at hb <;> subst hb <;> rfl
theorem run_sizeOf {t : TypeId} {s : Nat} (h : tsize P t = some s) : (sizeOf t).run P w = .ok s w := by
  unfold tsize at h
  obtain ⟨i, hi, rfl⟩ := Option.map_eq_some_iff.1 h
  simp [sizeOf, typeInfo, hi]
theorem tinfo {t : TypeId} {z : List AC} (h : tzero P t = some z) : ∃ i v, P.info? t = some i ∧ i.zero = some v ∧ v.cells.size = i.size ∧ All2 (CRel ρ) z v.cells.toList := by
  unfold tzero at h
  obtain ⟨i, hi, h⟩ := Option.bind_eq_some_iff.1 h
  obtain ⟨v, hv, h⟩ := Option.bind_eq_some_iff.1 h
  split at h
  · rename_i hs; exact ⟨i, v, hi, hv, hs, cCells_rel h⟩
  · cases h
theorem elemT_eq {t e : TypeId} (h : elemT P t = some e) : P.underlying t = some (.slice e) := by
  unfold elemT at h
  split at h
  · obtain rfl := Option.some.inj h; assumption
  · cases h
theorem posN_pos {n m : Nat} (h : posN n = some m) : 0 < n := by
  unfold posN at h; split at h
  · cases h
  · omega

theorem VRel.asB {v : AV} {x : Value} {b : Bool} (h : VRel ρ v x) (hb : Proofs.Ytlmbgaoeplffkaa.asB v = some b) : x = .bool b := by
  unfold Proofs.Ytlmbgaoeplffkaa.asB at hb
  split at hb
  · obtain rfl := Option.some.inj hb
    cases h with | p h => cases h with | c h => cases h; rfl
  · cases hb
theorem VRel.asI {v : AV} {x : Value} {n : Int} (h : VRel ρ v x) (hb : Proofs.Ytlmbgaoeplffkaa.asI v = some n) : ∃ k, x = .int k n := by
  unfold Proofs.Ytlmbgaoeplffkaa.asI at hb
  split at hb
  · obtain rfl := Option.some.inj hb
    cases h with | p h => cases h with | c h => cases h; exact ⟨_, rfl⟩
  · cases hb
theorem VRel.asP {v : AV} {x : Value} {p : AP} (h : VRel ρ v x) (hb : Proofs.Ytlmbgaoeplffkaa.asP v = some p) : PRel ρ p x := by
  unfold Proofs.Ytlmbgaoeplffkaa.asP at hb
  split at hb
  · obtain rfl := Option.some.inj hb
    cases h with | p h => exact h
  · cases hb
theorem VRel.asPtr {v : AV} {x : Value} {q : Nat × Nat} (h : VRel ρ v x) (hb : Proofs.Ytlmbgaoeplffkaa.asPtr v = some q) : ∃ L, ρ q.1 = some L ∧ x = .pointer (some ⟨L.b, L.o + q.2, none⟩) := by
  unfold Proofs.Ytlmbgaoeplffkaa.asPtr at hb
  split at hb
  · obtain rfl := Option.some.inj hb
    cases h with | p h => cases h with | c h => cases h with | ptr h => exact ⟨_, h, rfl⟩
  · cases hb
theorem VRel.asC {v : AV} {x : Value} {q : AC} (h : VRel ρ v x) (hb : Proofs.Ytlmbgaoeplffkaa.asC v = some q) : CRel ρ q x := by
  unfold Proofs.Ytlmbgaoeplffkaa.asC at hb
  split at hb
  · obtain rfl := Option.some.inj hb
    cases h with | p h => cases h with | c h => exact h
  · cases hb
theorem VRel.asMp {v : AV} {x : Value} {id : Nat} (h : VRel ρ v x) (hb : Proofs.Ytlmbgaoeplffkaa.asMp v = some id) : ∃ L, ρ id = some L ∧ x = .map (some L.b) := by
  unfold Proofs.Ytlmbgaoeplffkaa.asMp at hb
  split at hb
  · obtain rfl := Option.some.inj hb
    cases h with | p h => cases h with | c h => cases h with | mp h => exact ⟨_, h, rfl⟩
  · cases hb
theorem VRel.c_inv {x : AC} {v : Value} (h : VRel ρ (.p (.c x)) v) : CRel ρ x v := by
  cases h with | p h => cases h with | c h => exact h
/-- A slice's value. -/
inductive SlRel (ρ : Rho) : Nat → Nat → Nat → Value → Prop
  | nilS : SlRel ρ 0 0 0 (.slice none 0 0)
  | emp (ad : Addr) : SlRel ρ 1 0 0 (.slice (some ad) 0 0)
  | sl {id off len cap : Nat} {L : Loc} : 2 ≤ id → ρ id = some L → len ≤ cap → (off = 0 → cap = L.cap) → SlRel ρ id off len (.slice (some ⟨L.b, L.o + off, none⟩) len cap)
theorem CRel.sl' {id off len : Nat} {x : Value} (h : CRel ρ (.sl id off len) x) : SlRel ρ id off len x := by
  cases h with
  | nilS => exact .nilS
  | emp => exact .emp _
  | sl a b c d => exact .sl a b c d
theorem VRel.asSl {v : AV} {x : Value} {q : Nat × Nat × Nat} (h : VRel ρ v x) (hb : Proofs.Ytlmbgaoeplffkaa.asSl v = some q) : SlRel ρ q.1 q.2.1 q.2.2 x := by
  unfold Proofs.Ytlmbgaoeplffkaa.asSl at hb
  split at hb
  · obtain rfl := Option.some.inj hb
    cases h with | p h => cases h with | c h => exact h.sl'
  · cases hb

theorem add_lit (b o n : Nat) : (⟨b, o, none⟩ : Addr).add n = ⟨b, o + n, none⟩ := by unfold Addr.add; split <;> simp_all

theorem run_binV {op : BinOp} {t : TypeId} {x y : AV} {a b : Value} {v : AV} (h : binV op x y = some v) (hx : VRel ρ x a) (hy : VRel ρ y b) :
    ∃ r, (binOp op t a b).run P w = .ok r w ∧ VRel ρ v r := by
  unfold binV at h
  split at h
  · rename_i k n k' m
    cases hx.c_inv
    cases hy.c_inv
    obtain ⟨c, hc, rfl⟩ := Option.map_eq_some_iff.1 h
    unfold intBin at hc
    split at hc
    · split at hc
      · cases hc
      · rename_i hm; obtain rfl := Option.some.inj hc
        exact ⟨_, by simp [binOp, Op.shift, hm], .p (.c (.int _ _))⟩
    · split at hc
      · cases hc
      · rename_i hm; obtain rfl := Option.some.inj hc
        exact ⟨_, by simp [binOp, Op.shift, hm], .p (.c (.int _ _))⟩
    · rename_i h1 h2
      split at hc
      · rename_i hk; subst hk
        cases op with
        | add => simp at hc; subst hc; exact ⟨_, by simp [binOp, Op.intArith], .p (.c (.int _ _))⟩
        | sub => simp at hc; subst hc; exact ⟨_, by simp [binOp, Op.intArith], .p (.c (.int _ _))⟩
        | mul => simp at hc; subst hc; exact ⟨_, by simp [binOp, Op.intArith], .p (.c (.int _ _))⟩
        | quo => simp at hc; obtain ⟨hm, rfl⟩ := hc; exact ⟨_, by simp [binOp, Op.intDiv, hm], .p (.c (.int _ _))⟩
        | rem => simp at hc; obtain ⟨hm, rfl⟩ := hc; exact ⟨_, by simp [binOp, Op.intDiv, hm], .p (.c (.int _ _))⟩
        | and => simp at hc; subst hc; exact ⟨_, by simp [binOp, Op.intBits], .p (.c (.int _ _))⟩
        | or => simp at hc; subst hc; exact ⟨_, by simp [binOp, Op.intBits], .p (.c (.int _ _))⟩
        | xor => simp at hc
        | andNot => simp at hc
        | shl => simp at h1 h2
        | shr => simp at h1 h2
        | eql => simp at hc; subst hc; exact ⟨_, by simp [binOp, Op.intCmp], .p (.c (.bool _))⟩
        | neq => simp at hc; subst hc; exact ⟨_, by simp [binOp, Op.intCmp], .p (.c (.bool _))⟩
        | lss => simp at hc; subst hc; exact ⟨_, by simp [binOp, Op.intCmp], .p (.c (.bool _))⟩
        | leq => simp at hc; subst hc; exact ⟨_, by simp [binOp, Op.intCmp], .p (.c (.bool _))⟩
        | gtr => simp at hc; subst hc; exact ⟨_, by simp [binOp, Op.intCmp], .p (.c (.bool _))⟩
        | geq => simp at hc; subst hc; exact ⟨_, by simp [binOp, Op.intCmp], .p (.c (.bool _))⟩
      · cases hc
  · rename_i k n k' m
    cases hx.c_inv
    cases hy.c_inv
    split at h
    · rename_i hk; subst hk
      obtain ⟨c, hc, rfl⟩ := Option.map_eq_some_iff.1 h
      cases op with
      | add => simp [floatBin] at hc; obtain ⟨r, hr, rfl⟩ := hc; exact ⟨_, by simp [binOp, Op.floatArith, hr], .p (.c (.float _ _))⟩
      | sub => simp [floatBin] at hc; obtain ⟨r, hr, rfl⟩ := hc; exact ⟨_, by simp [binOp, Op.floatArith, hr], .p (.c (.float _ _))⟩
      | mul => simp [floatBin] at hc; obtain ⟨r, hr, rfl⟩ := hc; exact ⟨_, by simp [binOp, Op.floatArith, hr], .p (.c (.float _ _))⟩
      | quo => simp [floatBin] at hc; obtain ⟨r, hr, rfl⟩ := hc; exact ⟨_, by simp [binOp, Op.floatArith, hr], .p (.c (.float _ _))⟩
      | eql => simp [floatBin] at hc; subst hc; exact ⟨_, by simp [binOp, Op.floatCmp], .p (.c (.bool _))⟩
      | neq => simp [floatBin] at hc; subst hc; exact ⟨_, by simp [binOp, Op.floatCmp], .p (.c (.bool _))⟩
      | lss => simp [floatBin] at hc; subst hc; exact ⟨_, by simp [binOp, Op.floatCmp], .p (.c (.bool _))⟩
      | leq => simp [floatBin] at hc; subst hc; exact ⟨_, by simp [binOp, Op.floatCmp], .p (.c (.bool _))⟩
      | gtr => simp [floatBin] at hc; subst hc; exact ⟨_, by simp [binOp, Op.floatCmp], .p (.c (.bool _))⟩
      | geq => simp [floatBin] at hc; subst hc; exact ⟨_, by simp [binOp, Op.floatCmp], .p (.c (.bool _))⟩
      | rem => simp [floatBin] at hc
      | and => simp [floatBin] at hc
      | or => simp [floatBin] at hc
      | xor => simp [floatBin] at hc
      | andNot => simp [floatBin] at hc
      | shl => simp [floatBin] at hc
      | shr => simp [floatBin] at hc
    · cases h
  · cases h

theorem eqGuard_scalar {op : BinOp} {t : TypeId} {x y : Operand} {a b : Value} (ha : a.oneCell' = true) (hn : a ≠ .nilIface) : (eqGuard op t x y a b).run P w = .ok () w := by
  unfold eqGuard
  cases op <;> first
    | rfl
    | (cases a <;> first
      | (simp [Value.oneCell'] at ha; done)
      | (exact absurd rfl hn)
      | (cases b <;> rfl))

theorem not_nilIface {x : AC} {v : Value} (h : CRel ρ x v) : v ≠ .nilIface := by cases h <;> simp
theorem binV_one {op : BinOp} {x y v : AV} {a : Value} (h : binV op x y = some v) (hx : VRel ρ x a) : a.oneCell' = true ∧ a ≠ .nilIface := by
  unfold binV at h
  split at h
  · exact ⟨hx.c_inv.one, not_nilIface hx.c_inv⟩
  · exact ⟨hx.c_inv.one, not_nilIface hx.c_inv⟩
  · cases h

theorem fill_parts {place : Nat → Option (Nat × Nat)} (hop : OpsIn ρ g e) : ∀ {ps : List (Nat × Operand)} {qs : List (Nat × Nat × Opd)} {cs r : List AC} {vs : Array Value},
    cParts place ps = some qs → fillV g cs qs = some r → All2 (CRel ρ) cs vs.toList →
    ∃ us : Array Value, Instr.fill place vs (ps.map fun p => (p.1, e p.2)) = some us ∧ All2 (CRel ρ) r us.toList
  | [], qs, cs, r, vs, hc, hf, ha => by
    simp [cParts] at hc; subst hc
    simp [fillV] at hf; subst hf
    exact ⟨vs, rfl, ha⟩
  | (i, x) :: ps, qs, cs, r, vs, hc, hf, ha => by
    simp only [cParts, Option.bind_eq_some_iff, Option.map_eq_some_iff] at hc
    obtain ⟨⟨off, size⟩, hp, y, hy, qs', hq, rfl⟩ := hc
    simp only [fillV, Option.bind_eq_some_iff] at hf
    obtain ⟨v, hv, p, hp2, hf⟩ := hf
    have hr := (hop.rel x y v hy hv).asP hp2
    have hcells := hr.cells
    split at hf
    · rename_i hsz
      have hl : (e x).cells.size = p.cells.length := by rw [hcells.len, Array.length_toList]
      have key : ∀ (us : List Value) (cur : Array Value) (o : Nat), o + us.length ≤ cur.size →
          ((us.zipIdx).foldl (fun cs (c, j) => cs.setIfInBounds (o + j) c) cur).toList = cur.toList.take o ++ us ++ cur.toList.drop (o + us.length) := by
        have aux : ∀ (us : List Value) (k : Nat) (cur : Array Value) (o : Nat), o + k + us.length ≤ cur.size →
          ((us.zipIdx k).foldl (fun cs (c, j) => cs.setIfInBounds (o + j) c) cur).toList = cur.toList.take (o + k) ++ us ++ cur.toList.drop (o + k + us.length) := by
          intro us
          induction us with
          | nil => intro k cur o _; simp
          | cons u us ih =>
            intro k cur o hle
            simp only [List.zipIdx_cons, List.foldl_cons]
            rw [ih (k + 1) (cur.setIfInBounds (o + k) u) o (by simp at hle ⊢; omega)]
            have e1 := list_seg_step cur.toList (o + k) u us (by simp at hle ⊢; omega)
            simpa [Array.toList_setIfInBounds, Nat.add_assoc, Nat.add_comm, Nat.add_left_comm] using e1
        intro us cur o hle
        simpa using aux us 0 cur o (by simpa using hle)
      have hcl : cs.length = vs.size := by rw [ha.len, Array.length_toList]
      have hk := key (e x).cells.toList vs off (by rw [Array.length_toList, hl]; omega)
      have hrel : All2 (CRel ρ) (splice cs off p.cells) (((e x).cells.zipIdx).foldl (fun cs (c, j) => cs.setIfInBounds (off + j) c) vs).toList := by
        have e2 : ((e x).cells.zipIdx).foldl (fun cs (c, j) => cs.setIfInBounds (off + j) c) vs = ((e x).cells.toList.zipIdx).foldl (fun cs (c, j) => cs.setIfInBounds (off + j) c) vs := by
          rw [← Array.foldl_toList]; simp
        rw [e2, hk]
        unfold splice
        have := ((ha.take off).append hcells).append (ha.drop (off + p.cells.length))
        rw [hcells.len] at this ⊢
        exact this
      obtain ⟨us, hu, hrr⟩ := fill_parts hop hq hf hrel
      refine ⟨us, ?_, hrr⟩
      have hnot : ¬ ((e x).cells.size ≠ size ∨ off + (e x).cells.size > vs.size) := by omega
      simp only [List.map_cons, Instr.fill, hp]
      rw [if_neg (by simpa using hnot)]
      exact hu
    · cases hf

theorem ptrs_rel (hop : OpsIn ρ g e) : ∀ {xs : List Operand} {ys : List Opd} {l : List (Nat × Nat)}, cOpds xs = some ys → ptrsV g ys = some l →
    All2 (fun p v => ∃ L, ρ p.1 = some L ∧ v = .pointer (some ⟨L.b, L.o + p.2, none⟩)) l (xs.map e)
  | [], ys, l, hc, hp => by simp [cOpds] at hc; subst hc; simp [ptrsV] at hp; subst hp; exact .nil
  | x :: xs, ys, l, hc, hp => by
    simp only [cOpds, Option.bind_eq_some_iff, Option.map_eq_some_iff] at hc
    obtain ⟨y, hy, ys', hq, rfl⟩ := hc
    simp only [ptrsV, Option.bind_eq_some_iff, Option.map_eq_some_iff] at hp
    obtain ⟨v, hv, q, hq2, l', hl, rfl⟩ := hp
    exact .cons ((hop.rel x y v hy hv).asPtr hq2) (ptrs_rel hop hq hl)
theorem first_rel (hop : OpsIn ρ g e) : ∀ {xs : List Operand} {ys : List Opd} {l : List AP}, cOpds xs = some ys → firstV g ys = some l → All2 (PRel ρ) l (xs.map e)
  | [], ys, l, hc, hp => by simp [cOpds] at hc; subst hc; simp [firstV] at hp; subst hp; exact .nil
  | x :: xs, ys, l, hc, hp => by
    simp only [cOpds, Option.bind_eq_some_iff, Option.map_eq_some_iff] at hc
    obtain ⟨y, hy, ys', hq, rfl⟩ := hc
    simp only [firstV, Option.bind_eq_some_iff, Option.map_eq_some_iff] at hp
    obtain ⟨v, hv, q, hq2, l', hl, rfl⟩ := hp
    exact .cons ((hop.rel x y v hy hv).asP hq2) (first_rel hop hq hl)

theorem run_part {t : TypeId} {agg : Bool} {size off : Nat} {xs : List AC} {vs : List Value} {v : AV} (hg : tagg P t = some agg) (hs : tsize P t = some size) (hr : All2 (CRel ρ) xs vs)
    (h : partV agg xs off size = some v) : ∃ r, (part t vs.toArray off).run P w = .ok r w ∧ VRel ρ v r := by
  unfold partV at h
  unfold part
  simp only [Sem.run_bind, run_isAgg hg, Result.andThen_ok]
  cases agg with
  | true =>
    simp at h
    obtain ⟨cs, hc, rfl⟩ := h
    unfold cut at hc
    split at hc
    · rename_i hle
      obtain rfl := Option.some.inj hc
      refine ⟨.agg ((vs.drop off).take size).toArray, ?_, .p (.agg ((hr.drop off).take size))⟩
      simp [run_sizeOf hs, List.extract_eq_take_drop]
    · cases hc
  | false =>
    simp at h
    obtain ⟨x, hx, rfl⟩ := h
    obtain ⟨u, hu, hcr⟩ := hr.get off x hx
    exact ⟨u, by simp [hu], .p (.c hcr)⟩

end
end Go.Proofs.Ytlmbgaoeplffkaa

/- Operations that need no memory: the model's does what the abstract one tells. -/
namespace Go.Proofs.Ytlmbgaoeplffkaa
open Go Go.RowKit
set_option linter.unusedVariables false
set_option linter.unusedSimpArgs false
section
variable {P : Program} {ρ : Rho} {g : Opd → Option AV} {e : Operand → Value} {w : World}

theorem VRel.int_inv {k : IntKind} {n : Int} {x : Value} (h : VRel ρ (.p (.c (.int k n))) x) : x = .int k n := by cases h.c_inv; rfl
theorem VRel.float_inv {k : FloatKind} {n : Nat} {x : Value} (h : VRel ρ (.p (.c (.float k n))) x) : x = .float k n := by cases h.c_inv; rfl
theorem VRel.agg_inv {xs : List AC} {x : Value} (h : VRel ρ (.p (.agg xs)) x) : ∃ vs, x = .agg (List.toArray vs) ∧ All2 (CRel ρ) xs vs := by
  cases h with | p h => cases h with | agg h => exact ⟨_, rfl, h⟩
theorem VRel.tup_inv {xs : List AP} {x : Value} (h : VRel ρ (.tup xs) x) : ∃ vs, x = .tuple (List.toArray vs) ∧ All2 (PRel ρ) xs vs := by
  cases h with | tup h => exact ⟨_, rfl, h⟩
theorem VRel.str_inv {s : ByteArray} {x : Value} (h : VRel ρ (.p (.c (.str s))) x) : x = .string s := by cases h.c_inv; rfl
theorem run_unV {op : UnOp} {x v : AV} {a : Value} (h : unV op x = some v) (hx : VRel ρ x a) : ∃ r, (Op.unary op a).run P w = .ok r w ∧ VRel ρ v r := by
  unfold unV at h
  split at h
  · cases hx.c_inv
    split at h
    · rename_i ho; subst ho; obtain rfl := Option.some.inj h
      exact ⟨_, by simp [Op.unary], .p (.c (.bool _))⟩
    · cases h
  · cases hx.c_inv
    split at h
    · rename_i ho; subst ho; obtain rfl := Option.some.inj h
      exact ⟨_, by simp [Op.unary, Op.intArith], .p (.c (.int _ _))⟩
    · cases h
  · cases hx.c_inv
    split at h
    · rename_i ho; subst ho; obtain rfl := Option.some.inj h
      exact ⟨_, by simp [Op.unary], .p (.c (.float _ _))⟩
    · cases h
  · cases h

theorem run_eq_bool {t : TypeId} {x y : Bool} (ht : P.underlying t = some .bool) : (Op.equal t (.bool x) (.bool y)).run P w = .ok (x == y) w := by
  unfold Op.equal
  rw [show Op.maxDepth = 9999 + 1 from rfl, Op.equalIn]
  simp only [Sem.run_bind, run_underlying ht, Result.andThen_ok, Sem.run_pure]
theorem run_eq_nil {t el : TypeId} {A : Option Addr} {n c : Nat} (ht : P.underlying t = some (.slice el)) : (Op.equal t (.slice A n c) (.slice none 0 0)).run P w = .ok A.isNone w := by
  unfold Op.equal
  rw [show Op.maxDepth = 9999 + 1 from rfl, Op.equalIn]
  simp only [Sem.run_bind, run_underlying ht, Result.andThen_ok, Sem.run_pure]
  cases A <;> simp
theorem run_beqV {neg : Bool} {t : TypeId} {x y v : AV} {a b : Value} (ht : P.underlying t = some .bool) (h : beqV neg x y = some v) (hx : VRel ρ x a) (hy : VRel ρ y b) :
    ∃ r, (binOp (if neg then .neq else .eql) t a b).run P w = .ok r w ∧ VRel ρ v r := by
  unfold beqV at h
  split at h
  · cases hx.c_inv
    cases hy.c_inv
    obtain rfl := Option.some.inj h
    cases neg
    · exact ⟨_, by simp [binOp, run_eq_bool ht], .p (.c (.bool _))⟩
    · exact ⟨_, by simp [binOp, run_eq_bool ht], .p (.c (.bool _))⟩
  · cases h

theorem run_isNilV {neg : Bool} {t el : TypeId} {x v : AV} {a : Value} (ht : P.underlying t = some (.slice el)) (h : isNilV neg x = some v) (hx : VRel ρ x a) :
    ∃ r, (binOp (if neg then .neq else .eql) t a (.slice none 0 0)).run P w = .ok r w ∧ VRel ρ v r := by
  unfold isNilV at h
  split at h
  · obtain rfl := Option.some.inj h
    have h0 := hx.c_inv.sl'
    cases h0 with
    | nilS => cases neg <;> exact ⟨_, by simp [binOp, run_eq_nil ht], .p (.c (.bool _))⟩
    | emp => cases neg <;> exact ⟨_, by simp [binOp, run_eq_nil ht], .p (.c (.bool _))⟩
    | sl h2 h3 h4 h5 =>
      have e1 : (‹Nat› == 0) = (‹Nat› == 0) := rfl
      cases neg
      · refine ⟨.bool false, by simp [binOp, run_eq_nil ht], ?_⟩
        have : ∀ n : Nat, 2 ≤ n → (n == 0) = false := fun n hn => by simp; omega
        simp only [this _ h2]; exact .p (.c (.bool _))
      · refine ⟨.bool true, by simp [binOp, run_eq_nil ht], ?_⟩
        have : ∀ n : Nat, 2 ≤ n → (n == 0) = false := fun n hn => by simp; omega
        simp only [this _ h2]; exact .p (.c (.bool _))
  · cases h

theorem run_minmax {m : Bool} {t : TypeId} {ts : Array TypeId} {x y v : AV} {a b : Value} (h : minmaxV m x y = some v) (hx : VRel ρ x a) (hy : VRel ρ y b) :
    ∃ r, (if m then Builtin.max_ ts t #[a, b] else Builtin.min_ ts t #[a, b]).run P w = .ok r w ∧ VRel ρ v r := by
  unfold minmaxV at h
  split at h
  · cases hx.c_inv
    cases hy.c_inv
    obtain rfl := Option.some.inj h
    cases m
    · refine ⟨_, by simp [Builtin.min_, Builtin.min2]; rfl, ?_⟩
      simp only [Bool.false_eq_true, if_false]; exact .p (.c (.int _ _))
    · refine ⟨_, by simp [Builtin.max_, Builtin.max2]; rfl, ?_⟩
      simp only [if_true]; exact .p (.c (.int _ _))
  · cases hx.c_inv
    cases hy.c_inv
    split at h
    · rename_i hk; subst hk
      split at h
      · cases h
      all_goals
        rename_i ho
        obtain rfl := Option.some.inj h
        cases m
        · refine ⟨_, by simp [Builtin.min_, Builtin.min2, ho]; rfl, ?_⟩
          first | (simp only [Bool.false_eq_true, if_false]; exact .p (.c (.float _ _))) | exact .p (.c (.float _ _))
        · refine ⟨_, by simp [Builtin.max_, Builtin.max2, ho]; rfl, ?_⟩
          first | (simp only [if_true]; exact .p (.c (.float _ _))) | exact .p (.c (.float _ _))
    · cases h
  · cases h

theorem optI_rel (hop : OpsIn ρ g e) {x : Option Operand} {ax : Option Opd} {l : Option Int} (hc : cOptOpd x = some ax) (hl : optI g ax = some l) :
    (x = none ∧ l = none) ∨ ∃ y k n, x = some y ∧ l = some n ∧ e y = .int k n := by
  cases x with
  | none => simp [cOptOpd] at hc; subst hc; simp [optI] at hl; subst hl; exact .inl ⟨rfl, rfl⟩
  | some y =>
    simp only [cOptOpd, Option.map_eq_some_iff] at hc
    obtain ⟨ay, hy, rfl⟩ := hc
    simp only [optI, Option.map_eq_some_iff, Option.bind_eq_some_iff] at hl
    obtain ⟨n, ⟨v, hv, hn⟩, rfl⟩ := hl
    obtain ⟨k, hk⟩ := (hop.rel y ay v hy hv).asI hn
    exact .inr ⟨y, k, n, rfl, rfl, hk⟩

theorem run_bounds {lo hi : Option Operand} {alo ahi : Option Opd} {l h : Option Int} {len cap : Nat} (hop : OpsIn ρ g e) (h1 : cOptOpd lo = some alo) (h2 : optI g alo = some l)
    (h3 : cOptOpd hi = some ahi) (h4 : optI g ahi = some h) (hle : len ≤ cap) (b1 : 0 ≤ l.getD 0) (b2 : l.getD 0 ≤ h.getD len) (b3 : h.getD len ≤ len) :
    (Instr.sliceBounds true len cap (lo.map e) (hi.map e) none).run P w = .ok ((l.getD 0).toNat, (h.getD len).toNat, cap) w := by
  unfold Instr.sliceBounds
  rcases optI_rel hop h1 h2 with ⟨rfl, rfl⟩ | ⟨x, k, n, rfl, rfl, hx⟩ <;> rcases optI_rel hop h3 h4 with ⟨rfl, rfl⟩ | ⟨y, k', m, rfl, rfl, hy⟩
  · simp
  · simp at b1 b2 b3
    have : 0 ≤ m ∧ m ≤ (cap : Int) := ⟨b2, by omega⟩
    simp [Instr.sliceBound, hy, asIntOf, this]
  · simp at b1 b2 b3
    have : 0 ≤ n ∧ n ≤ (len : Int) := ⟨b1, by omega⟩
    simp [Instr.sliceBound, hx, asIntOf, this]
  · simp at b1 b2 b3
    have e1 : 0 ≤ m ∧ m ≤ (cap : Int) := ⟨by omega, by omega⟩
    have e2 : 0 ≤ n ∧ n ≤ ((m.toNat : Nat) : Int) := ⟨b1, by omega⟩
    simp only [Option.map_some, Sem.run_bind, Instr.sliceBound, hx, hy, asIntOf, Sem.run_pure, Result.andThen_ok, Sem.run_ite, if_pos e1, if_pos e2, Option.isSome_none, Bool.false_eq_true, if_false, Option.getD_some]

theorem run_sliceV {t el : TypeId} {s : Nat} {x v : AV} {a : Value} {lo hi : Option Operand} {alo ahi : Option Opd} {l h : Option Int} (ht : P.underlying t = some (.slice el)) (hs : tsize P el = some s) (hs0 : 0 < s)
    (hop : OpsIn ρ g e) (h1 : cOptOpd lo = some alo) (h2 : optI g alo = some l)
    (h3 : cOptOpd hi = some ahi) (h4 : optI g ahi = some h) (hv : sliceV s x l h = some v) (hx : VRel ρ x a) :
    ∃ r, (Instr.sliceAt t a (lo.map e) (hi.map e) none).run P w = .ok r w ∧ VRel ρ v r := by
  unfold sliceV at hv
  split at hv
  · rename_i id off len
    simp only at hv
    split at hv
    · rename_i hb
      obtain ⟨b1, b2, b3, b4⟩ := hb
      obtain rfl := Option.some.inj hv
      have h0 := hx.c_inv.sl'
      have run : ∀ (A : Option Addr) (c : Nat), len ≤ c → (Instr.sliceAt t (.slice A len c) (lo.map e) (hi.map e) none).run P w =
          .ok (.slice (if c = (l.getD 0).toNat then A else A.map (·.add ((l.getD 0).toNat * s))) ((h.getD len).toNat - (l.getD 0).toNat) (c - (l.getD 0).toNat)) w := fun A c hc => by
        simp only [Instr.sliceAt, Sem.run_bind, run_underlying ht, Result.andThen_ok, Instr.slice, run_bounds hop h1 h2 h3 h4 hc b1 b2 b3, run_sizeOf hs, Sem.run_pure]
      have hlen : ((h.getD len) - (l.getD 0)).toNat = (h.getD len).toNat - (l.getD 0).toNat := by omega
      cases h0 with
      | nilS =>
        refine ⟨_, run _ _ (Nat.le_refl _), ?_⟩
        have hl0 : (l.getD 0).toNat = 0 := by omega
        have hh0 : (h.getD (0 : Nat)).toNat = 0 := by omega
        rw [hlen, hl0, hh0]
        simp; exact .p (.c .nilS)
      | emp ad =>
        refine ⟨_, run _ _ (Nat.le_refl _), ?_⟩
        have hl0 : (l.getD 0).toNat = 0 := by omega
        have hh0 : (h.getD (0 : Nat)).toNat = 0 := by omega
        rw [hlen, hl0, hh0]
        simp; exact .p (.c (.emp ad))
      | @sl _ _ _ cap L k2 k3 k4 k5 =>
        refine ⟨_, run _ _ k4, ?_⟩
        rw [hlen]
        have hcell : ∀ q : Nat, q = (l.getD 0).toNat → (q < len ∨ q = 0) → (if cap = q then (some ⟨L.b, L.o + off, none⟩ : Option Addr) else (some ⟨L.b, L.o + off, none⟩ : Option Addr).map (·.add (q * s))) = some ⟨L.b, L.o + (off + q * s), none⟩ := fun q _ hq => by
          by_cases hz : q = 0
          · subst hz; simp [Addr.add]
          · rw [if_neg (by omega)]; simp [add_lit, Nat.add_assoc]
        rw [hcell _ rfl (by omega)]
        refine .p (.c (.sl k2 k3 (by omega) (fun hz => ?_)))
        have : off = 0 ∧ (l.getD 0).toNat * s = 0 := by omega
        have hl0 : (l.getD 0).toNat = 0 := by
          rcases Nat.mul_eq_zero.1 this.2 with h | h
          · exact h
          · omega
        rw [hl0, k5 this.1]; omega
    · cases hv
  · cases hv

end
end Go.Proofs.Ytlmbgaoeplffkaa

/- Every operation: the model's does what the abstract one tells. -/
namespace Go.Proofs.Ytlmbgaoeplffkaa
open Go Go.RowKit
set_option linter.unusedVariables false
set_option linter.unusedSimpArgs false
section
variable {P : Program} {B : Nat} {ρ : Rho} {g : Opd → Option AV} {e : Operand → Value} {w : World} {h : Heap}

theorem lmap_toArray (xs : Array Operand) (e : Operand → Value) : (xs.toList.map e).toArray = xs.map e := by rw [← Array.toList_map]
theorem opds_map (xs : List Operand) (e : Operand → Value) : (xs.toArray.map e) = (xs.map e).toArray := by simp

set_option maxHeartbeats 1000000 in
theorem evP_sound (hop : OpsIn ρ g e) {o : Oper} {ao : AOp} {v : AV} (hc : cOp P o.op = some ao) (hv : evP g ao = some v) :
    ∃ r, (execOp e o).run P w = .ok (.value r) w ∧ VRel ρ v r := by
  have fin : ∀ (s : Sem Value), (∃ r, s.run P w = .ok r w ∧ VRel ρ v r) → ∃ r, (do pure (Next.value (← s)) : Sem Next).run P w = .ok (.value r) w ∧ VRel ρ v r := fun s ⟨r, h1, h2⟩ => ⟨r, by simp [h1], h2⟩
  unfold execOp
  cases ho : o.op <;> rw [ho] at hc <;> simp only [cOp] at hc
  case move x =>
    obtain ⟨ax, hx, rfl⟩ := Option.map_eq_some_iff.1 hc
    exact ⟨_, rfl, hop.rel _ _ _ hx hv⟩
  case assign x =>
    obtain ⟨ax, hx, rfl⟩ := Option.map_eq_some_iff.1 hc
    exact ⟨_, rfl, hop.rel _ _ _ hx hv⟩
  case pick c a b =>
    simp only [Option.bind_eq_some_iff, Option.map_eq_some_iff] at hc
    obtain ⟨ac, h1, aa, h2, ab, h3, rfl⟩ := hc
    simp only [evP, Option.bind_eq_some_iff] at hv
    obtain ⟨vc, h4, t, h5, h6⟩ := hv
    have := (hop.rel _ _ _ h1 h4).asB h5
    cases t
    · exact ⟨e b, by simp [this, asBool], hop.rel _ _ _ h3 (by simpa using h6)⟩
    · exact ⟨e a, by simp [this, asBool], hop.rel _ _ _ h2 (by simpa using h6)⟩
  case alloc t =>
    obtain ⟨z, _, rfl⟩ := Option.map_eq_some_iff.1 hc
    simp [evP] at hv
  case box t x =>
    obtain ⟨z, _, rfl⟩ := Option.map_eq_some_iff.1 hc
    simp [evP] at hv
  case build t parts =>
    unfold cBuild at hc
    obtain ⟨z, hz, hc⟩ := Option.bind_eq_some_iff.1 hc
    obtain ⟨i, u, hi, hu, hus, hzr⟩ := tinfo (ρ := ρ) hz
    have hzero : (zeroValue t).run P w = .ok u w := by simp [zeroValue, typeInfo, hi, hu]
    have hmp : ∀ ps : Array (Nat × Operand), (ps.map fun (x : Nat × Operand) => (x.1, e x.2)).toList = ps.toList.map fun p => (p.1, e p.2) := fun ps => by simp
    split at hc
    · rename_i fs hfs
      split at hc
      · rename_i hall
        obtain ⟨qs, hq, rfl⟩ := Option.map_eq_some_iff.1 hc
        simp only [evP, Option.map_eq_some_iff] at hv
        obtain ⟨cs, hcs, rfl⟩ := hv
        obtain ⟨us, h1, h2⟩ := fill_parts hop hq hcs hzr
        refine fin _ ⟨.agg us, ?_, .p (by simpa using PRel.agg h2)⟩
        have hpl : ∃ ps : Array (Nat × Nat), (fs.mapM fun f => (do pure (f.offset, ← sizeOf f.type) : Sem (Nat × Nat))).run P w = .ok ps w ∧ ∀ i, ps[i]? = fplace P fs i := by
          have key : ∀ (l : List Field), (∀ f ∈ l, (tsize P f.type).isSome = true) → ∃ ps : List (Nat × Nat), (l.mapM fun f => (do pure (f.offset, ← sizeOf f.type) : Sem (Nat × Nat))).run P w = .ok ps w ∧ ∀ i : Nat, ps[i]? = (l[i]?).bind fun (f : Field) => (tsize P f.type).map fun s => (f.offset, s) := by
            intro l
            induction l with
            | nil => intro _; exact ⟨[], by simp, by simp⟩
            | cons f l ih =>
              intro hl
              obtain ⟨s, hs⟩ := Option.isSome_iff_exists.1 (hl f (by simp))
              obtain ⟨ps, h1, h2⟩ := ih fun f' hf' => hl f' (by simp [hf'])
              refine ⟨(f.offset, s) :: ps, by simp only [List.mapM_cons, Sem.run_bind, run_sizeOf hs, h1, Result.andThen_ok, Sem.run_pure], fun i => ?_⟩
              cases i with
              | zero => simp [hs]
              | succ i => simpa using h2 i
          obtain ⟨ps, h1, h2⟩ := key fs.toList (fun f hf => by
            have := hall; rw [Array.all_eq_true_iff_forall_mem] at this; exact this f (by simpa using hf))
          refine ⟨ps.toArray, ?_, fun i => ?_⟩
          · rw [Array.mapM_eq_mapM_toList]
            simp only [Sem.run_map, h1, Result.andThen_ok]
          · have := h2 i
            simpa [fplace] using this
        obtain ⟨ps, hp1, hp2⟩ := hpl
        have hfun : (fun i => ps[i]?) = fplace P fs := funext hp2
        simp only [Instr.build, Sem.run_bind, hzero, Result.andThen_ok, run_underlying hfs, hp1, hfun]
        rw [show (Array.map (fun x => match x with | (i, x) => (i, e x)) parts).toList = parts.toList.map fun p => (p.1, e p.2) from by simp]
        rw [show u.cells = u.cells from rfl] at h1
        simp [h1]
      · cases hc
    · rename_i n el hfs
      obtain ⟨s, hs, hc⟩ := Option.bind_eq_some_iff.1 hc
      obtain ⟨qs, hq, rfl⟩ := Option.map_eq_some_iff.1 hc
      simp only [evP, Option.map_eq_some_iff] at hv
      obtain ⟨cs, hcs, rfl⟩ := hv
      obtain ⟨us, h1, h2⟩ := fill_parts hop hq hcs hzr
      refine fin _ ⟨.agg us, ?_, .p (by simpa using PRel.agg h2)⟩
      simp only [Instr.build, Sem.run_bind, hzero, Result.andThen_ok, run_underlying hfs, run_sizeOf hs]
      rw [show (Array.map (fun x => match x with | (i, x) => (i, e x)) parts).toList = parts.toList.map fun p => (p.1, e p.2) from by simp]
      simp [h1]
    · cases hc
  case buildSlice t len parts =>
    simp only [Option.bind_eq_some_iff] at hc
    obtain ⟨_, _, _, _, _, _, _, _, hc⟩ := hc
    split at hc
    · obtain ⟨_, _, rfl⟩ := Option.map_eq_some_iff.1 hc
      simp [evP] at hv
    · cases hc
  case load t a =>
    simp only [Option.bind_eq_some_iff, Option.map_eq_some_iff] at hc
    obtain ⟨_, _, _, _, _, _, rfl⟩ := hc
    simp [evP] at hv
  case store t a x =>
    simp only [Option.bind_eq_some_iff, Option.map_eq_some_iff] at hc
    obtain ⟨_, _, _, _, _, _, rfl⟩ := hc
    simp [evP] at hv
  case nilCheck x =>
    obtain ⟨ax, hx, rfl⟩ := Option.map_eq_some_iff.1 hc
    simp only [evP, Option.bind_eq_some_iff] at hv
    obtain ⟨u, h1, h2⟩ := hv
    have hr := hop.rel _ _ _ hx h1
    unfold nilChkV at h2
    split at h2
    · rename_i id off
      obtain rfl := Option.some.inj h2
      obtain ⟨L, hL, hx⟩ := hr.asPtr (q := (id, off)) rfl
      exact ⟨e x, by simp [hx], hr⟩
    · cases h2
  case binOp op t x y yt =>
    unfold cBin at hc
    split at hc
    · simp only [Option.bind_eq_some_iff, Option.map_eq_some_iff] at hc
      obtain ⟨ax, h1, ay, h2, rfl⟩ := hc
      simp only [evP, Option.bind_eq_some_iff] at hv
      obtain ⟨vx, h3, vy, h4, h5⟩ := hv
      have hb := binV_one h5 (hop.rel _ _ _ h1 h3)
      obtain ⟨r, h6, h7⟩ := run_binV (P := P) (w := w) (t := t) h5 (hop.rel _ _ _ h1 h3) (hop.rel _ _ _ h2 h4)
      exact fin _ ⟨r, by simp [eqGuard_scalar hb.1 hb.2, h6], h7⟩
    · simp only [Option.bind_eq_some_iff, Option.map_eq_some_iff] at hc
      obtain ⟨ax, h1, ay, h2, rfl⟩ := hc
      simp only [evP, Option.bind_eq_some_iff] at hv
      obtain ⟨vx, h3, vy, h4, h5⟩ := hv
      have hb := binV_one h5 (hop.rel _ _ _ h1 h3)
      obtain ⟨r, h6, h7⟩ := run_binV (P := P) (w := w) (t := t) h5 (hop.rel _ _ _ h1 h3) (hop.rel _ _ _ h2 h4)
      exact fin _ ⟨r, by simp [eqGuard_scalar hb.1 hb.2, h6], h7⟩
    · rename_i ht
      simp only [Option.bind_eq_some_iff] at hc
      obtain ⟨ax, h1, ay, h2, hc⟩ := hc
      have go : ∀ neg : Bool, op = (if neg then .neq else .eql) → evP g (.beq neg ax ay) = some v → ∃ r, (do pure (Next.value (← (do eqGuard op t x y (e x) (e y); binOp op t (e x) (e y)))) : Sem Next).run P w = .ok (.value r) w ∧ VRel ρ v r := by
        intro neg hop' hv
        simp only [evP, Option.bind_eq_some_iff] at hv
        obtain ⟨vx, h3, vy, h4, h5⟩ := hv
        obtain ⟨r, h6, h7⟩ := run_beqV (P := P) (w := w) ht h5 (hop.rel _ _ _ h1 h3) (hop.rel _ _ _ h2 h4)
        have hb : (e x).oneCell' = true ∧ e x ≠ .nilIface := by
          have hx := hop.rel _ _ _ h1 h3
          unfold beqV at h5
          split at h5
          · exact ⟨hx.c_inv.one, not_nilIface hx.c_inv⟩
          · cases h5
        rw [← hop'] at h6
        exact fin _ ⟨r, by simp [eqGuard_scalar hb.1 hb.2, h6], h7⟩
      split at hc
      · rename_i h0; obtain rfl := Option.some.inj hc; exact go false h0 hv
      · split at hc
        · rename_i h0; obtain rfl := Option.some.inj hc; exact go true h0 hv
        · cases hc
    · rename_i el ht
      split at hc
      · rename_i hnil
        have hy : e y = .slice none 0 0 := by
          unfold isNilC at hnil
          split at hnil
          · exact hop.const _
          · cases hnil
        obtain ⟨ax, h1, hc⟩ := Option.bind_eq_some_iff.1 hc
        have go : ∀ neg : Bool, op = (if neg then .neq else .eql) → evP g (.isNil neg ax) = some v → ∃ r, (do pure (Next.value (← (do eqGuard op t x y (e x) (e y); binOp op t (e x) (e y)))) : Sem Next).run P w = .ok (.value r) w ∧ VRel ρ v r := by
          intro neg hop' hv
          simp only [evP, Option.bind_eq_some_iff] at hv
          obtain ⟨vx, h3, h5⟩ := hv
          have hx := hop.rel _ _ _ h1 h3
          obtain ⟨r, h6, h7⟩ := run_isNilV (P := P) (w := w) ht h5 hx
          have hb : (e x).oneCell' = true ∧ e x ≠ .nilIface := by
            unfold isNilV at h5
            split at h5
            · exact ⟨hx.c_inv.one, not_nilIface hx.c_inv⟩
            · cases h5
          rw [← hop', ← hy] at h6
          exact fin _ ⟨r, by simp [eqGuard_scalar hb.1 hb.2, h6], h7⟩
        split at hc
        · rename_i h0; obtain rfl := Option.some.inj hc; exact go false h0 hv
        · split at hc
          · rename_i h0; obtain rfl := Option.some.inj hc; exact go true h0 hv
          · cases hc
      · cases hc
    · cases hc
  case unOp op t x =>
    obtain ⟨ax, hx, rfl⟩ := Option.map_eq_some_iff.1 hc
    simp only [evP, Option.bind_eq_some_iff] at hv
    obtain ⟨u, h1, h2⟩ := hv
    exact fin _ (run_unV h2 (hop.rel _ _ _ hx h1))
  case convert s d x =>
    split at hc
    · rename_i k0 k hs hd
      obtain ⟨ax, hx, rfl⟩ := Option.map_eq_some_iff.1 hc
      simp only [evP, Option.bind_eq_some_iff] at hv
      obtain ⟨u, h1, h2⟩ := hv
      have hr := hop.rel _ _ _ hx h1
      unfold convV at h2
      split at h2
      · obtain rfl := Option.some.inj h2
        exact fin _ ⟨_, by simp [convert, run_underlying hs, run_underlying hd, hr.int_inv, Conv.intToInt], .p (.c (.int _ _))⟩
      · cases h2
    all_goals try (cases hc; done)
    all_goals try (
      split at hc
      · obtain ⟨ax, hx, rfl⟩ := Option.map_eq_some_iff.1 hc
        simp [evP] at hv
      · cases hc
      done)
    all_goals
      rename_i k0 k hs hd
      obtain ⟨ax, hx, rfl⟩ := Option.map_eq_some_iff.1 hc
      simp only [evP, Option.bind_eq_some_iff] at hv
      obtain ⟨u, h1, h2⟩ := hv
      have hr := hop.rel _ _ _ hx h1
      unfold convFV at h2
      split at h2
      · obtain rfl := Option.some.inj h2
        exact fin _ ⟨_, by simp [convert, run_underlying hs, run_underlying hd, hr.int_inv, Conv.intToFloat], .p (.c (.float _ _))⟩
      · split at h2
        · rename_i hk
          obtain rfl := Option.some.inj h2
          exact fin _ ⟨_, by simp [convert, run_underlying hs, run_underlying hd, hr.float_inv, Conv.floatToFloat, hk], .p (.c (.float _ _))⟩
        · rename_i hk
          split at h2
          · rename_i sg m ee hdec
            split at h2
            · cases h2
            · rename_i hinf
              obtain rfl := Option.some.inj h2
              exact fin _ ⟨_, by simp [convert, run_underlying hs, run_underlying hd, hr.float_inv, Conv.floatToFloat, hk, hdec, hinf], .p (.c (.float _ _))⟩
          · cases h2
      · cases h2
  case makeFunc fn first caps =>
    cases fn <;> simp only at hc
    case func f =>
      split at hc
      · rename_i hf
        obtain ⟨ys, hy, rfl⟩ := Option.map_eq_some_iff.1 hc
        simp only [evP, Option.map_eq_some_iff] at hv
        obtain ⟨l, hl, rfl⟩ := hv
        have hr := ptrs_rel hop hy hl
        have hf' : first = #[] := by simpa using hf
        subst hf'
        refine fin _ ⟨_, rfl, .p (.c ?_)⟩
        have := CRel.fn (f := f) hr
        rw [lmap_toArray] at this
        simpa using this
      · split at hc
        · rename_i hf
          obtain ⟨ys, hy, rfl⟩ := Option.map_eq_some_iff.1 hc
          simp only [evP, Option.map_eq_some_iff] at hv
          obtain ⟨l, hl, rfl⟩ := hv
          have hr := first_rel hop hy hl
          have hf' : caps = #[] := by simpa using hf
          subst hf'
          refine fin _ ⟨_, rfl, ?_⟩
          have := VRel.bfn (f := f) hr
          rw [lmap_toArray] at this
          simpa using this
        · cases hc
    all_goals cases hc
  case makeMap t r =>
    cases r <;> simp only at hc
    · split at hc
      · obtain rfl := Option.some.inj hc; simp [evP] at hv
      · cases hc
    · cases hc
  case makeSlice t l c =>
    simp only [Option.bind_eq_some_iff, Option.map_eq_some_iff] at hc
    obtain ⟨_, _, _, _, _, _, _, _, _, _, _, _, _, _, rfl⟩ := hc
    simp [evP] at hv
  case slice t x lo hi mx =>
    simp only [Option.bind_eq_some_iff] at hc
    obtain ⟨el, hel, s, hs, _, hp, hc⟩ := hc
    split at hc
    · simp only [Option.bind_eq_some_iff, Option.map_eq_some_iff] at hc
      obtain ⟨ax, h1, al, h2, ah, h3, rfl⟩ := hc
      simp only [evP, Option.bind_eq_some_iff] at hv
      obtain ⟨u, h4, l, h5, h, h6, h7⟩ := hv
      exact fin _ (run_sliceV (elemT_eq hel) hs (posN_pos hp) hop h2 h5 h3 h6 h7 (hop.rel _ _ _ h1 h4))
    · rename_i m
      split at hc
      · rename_i hz
        simp only [Bool.and_eq_true] at hz
        obtain ⟨⟨z1, z2⟩, z3⟩ := hz
        obtain ⟨ax, h1, rfl⟩ := Option.map_eq_some_iff.1 hc
        simp only [evP, Option.bind_eq_some_iff] at hv
        obtain ⟨u, h4, h5⟩ := hv
        have hr := hop.rel _ _ _ h1 h4
        have hzero : ∀ y : Option Operand, isZeroC y = true → ∃ k, y.map e = some (.int k 0) := fun y hy => by
          unfold isZeroC at hy
          split at hy
          · exact ⟨_, by simp only [Option.map_some, hop.const]; rfl⟩
          · cases hy
        obtain ⟨k1, e1⟩ := hzero _ z1
        obtain ⟨k2, e2⟩ := hzero _ z2
        have hlo : lo = none := by cases lo <;> simp at z3; rfl
        subst hlo
        have run : ∀ (A : Option Addr) (n c : Nat), (Instr.sliceAt t (.slice A n c) (Option.map e none) (hi.map e) (Option.map e (some m))).run P w = .ok (.slice A 0 0) w := fun A n c => by
          rw [e1, e2]
          simp only [Instr.sliceAt, Sem.run_bind, run_underlying (elemT_eq hel), Result.andThen_ok, Instr.slice, Instr.sliceBounds, Option.map_none, Sem.run_pure, Instr.sliceBound, asIntOf, Sem.run_ite, run_sizeOf hs]
          have c1 : (0 : Int) ≤ 0 ∧ (0 : Int) ≤ (c : Int) := by omega
          simp [c1]
        unfold slice00V at h5
        split at h5
        · rename_i id off len
          obtain rfl := Option.some.inj h5
          have h0 := hr.c_inv.sl'
          generalize he : e x = ex at h0
          cases h0 with
          | nilS => exact fin _ ⟨_, by rw [he, run], .p (.c .nilS)⟩
          | emp ad => exact fin _ ⟨_, by rw [he, run], .p (.c (.emp ad))⟩
          | sl k2 k3 k4 k5 =>
            have hne : (if id = 0 then 0 else 1) = 1 := if_neg (by omega)
            refine fin _ ⟨_, (by rw [he]; exact run _ _ _), ?_⟩
            rw [hne]; exact .p (.c (.emp _))
        · cases h5
      · cases hc
  case fieldAddr t x i =>
    split at hc
    · rename_i fs hfs
      simp only [Option.bind_eq_some_iff, Option.map_eq_some_iff] at hc
      obtain ⟨f, hf, s, hs, _, hp, ax, hx, rfl⟩ := hc
      simp only [evP, Option.bind_eq_some_iff] at hv
      obtain ⟨u, h4, h5⟩ := hv
      have hr := hop.rel _ _ _ hx h4
      unfold fieldV at h5
      split at h5
      · rename_i id off
        obtain rfl := Option.some.inj h5
        obtain ⟨L, hL, hx⟩ := hr.asPtr (q := (id, off)) rfl
        have hs0 := posN_pos hp
        refine fin _ ⟨_, ?_, .p (.c (.ptr hL))⟩
        have hs0' : ¬ s = 0 := by omega
        simp [Instr.fieldAt, run_underlying hfs, hf, hx, Instr.sureAddr, fieldPlace, run_sizeOf hs, hs0', add_lit, Nat.add_assoc]
      · cases h5
    · cases hc
  case field t x i => cases hc
  case indexAddr t x ix =>
    split at hc
    · rename_i el hel
      simp only [Option.bind_eq_some_iff, Option.map_eq_some_iff] at hc
      obtain ⟨s, hs, ax, hx, ai, hi, rfl⟩ := hc
      simp only [evP, Option.bind_eq_some_iff] at hv
      obtain ⟨u, h3, v2, h4, h5⟩ := hv
      have hr := hop.rel _ _ _ hx h3
      have hr2 := hop.rel _ _ _ hi h4
      unfold idxV at h5
      split at h5
      · rename_i id off len k n
        split at h5
        · rename_i hb
          obtain rfl := Option.some.inj h5
          have h0 := hr.c_inv.sl'
          generalize he : e x = ex at h0
          cases h0 with
          | nilS => omega
          | emp ad => omega
          | sl k2 k3 k4 k5 =>
            refine fin _ ⟨_, ?_, .p (.c (.ptr k3))⟩
            rw [he] at *
            simp [Instr.indexAt, hr2.int_inv, asIntOf, run_underlying hel, hb, run_sizeOf hs, add_lit, Nat.add_assoc]
        · cases h5
      · cases h5
    · rename_i n el hel
      simp only [Option.bind_eq_some_iff, Option.map_eq_some_iff] at hc
      obtain ⟨s, hs, ax, hx, ai, hi, rfl⟩ := hc
      simp only [evP, Option.bind_eq_some_iff] at hv
      obtain ⟨u, h3, v2, h4, h5⟩ := hv
      have hr := hop.rel _ _ _ hx h3
      have hr2 := hop.rel _ _ _ hi h4
      unfold idxArrV at h5
      split at h5
      · rename_i id off k m
        split at h5
        · rename_i hb
          obtain rfl := Option.some.inj h5
          obtain ⟨L, hL, hx⟩ := hr.asPtr (q := (id, off)) rfl
          refine fin _ ⟨_, ?_, .p (.c (.ptr hL))⟩
          simp [Instr.indexAt, hr2.int_inv, asIntOf, run_underlying hel, hb, run_sizeOf hs, hx, Instr.sureAddr, add_lit, Nat.add_assoc]
        · cases h5
      · cases h5
    · cases hc
  case index t x ix =>
    split at hc
    · rename_i n el hel
      simp only [Option.bind_eq_some_iff, Option.map_eq_some_iff] at hc
      obtain ⟨s, hs, ag, hg, ax, hx, ai, hi, rfl⟩ := hc
      simp only [evP, Option.bind_eq_some_iff] at hv
      obtain ⟨u, h3, v2, h4, h5⟩ := hv
      have hr := hop.rel _ _ _ hx h3
      have hr2 := hop.rel _ _ _ hi h4
      unfold idxVV at h5
      split at h5
      · rename_i xs k m
        split at h5
        · rename_i hb
          obtain ⟨vs, hvs, hall⟩ := hr.agg_inv
          obtain ⟨r, h6, h7⟩ := run_part (P := P) (w := w) hg hs hall h5
          refine fin _ ⟨r, ?_, h7⟩
          simp [Instr.index, hr2.int_inv, asIntOf, run_underlying hel, hvs, hb, run_sizeOf hs, h6]
        · cases h5
      · cases h5
    · cases hc
  case lookup t x k ok =>
    split at hc
    · simp only [Option.bind_eq_some_iff, Option.map_eq_some_iff] at hc
      obtain ⟨_, _, _, _, _, _, _, _, rfl⟩ := hc
      simp [evP] at hv
    · cases hc
  case mapUpdate t x k u =>
    split at hc
    · simp only [Option.bind_eq_some_iff, Option.map_eq_some_iff] at hc
      obtain ⟨_, _, _, _, _, _, _, _, rfl⟩ := hc
      simp [evP] at hv
    · cases hc
  case extract x i =>
    obtain ⟨ax, hx, rfl⟩ := Option.map_eq_some_iff.1 hc
    simp only [evP, Option.bind_eq_some_iff] at hv
    obtain ⟨u, h1, h2⟩ := hv
    have hr := hop.rel _ _ _ hx h1
    unfold extV at h2
    split at h2
    · rename_i xs
      obtain ⟨p, hp, rfl⟩ := Option.map_eq_some_iff.1 h2
      obtain ⟨vs, hvs, hall⟩ := hr.tup_inv
      obtain ⟨r, hr1, hr2⟩ := hall.get _ _ hp
      exact fin _ ⟨r, by simp [hvs, Instr.extract, hr1], .p hr2⟩
    · cases h2
  case call c =>
    unfold cCall at hc
    split at hc
    · simp only [Option.bind_eq_some_iff, Option.map_eq_some_iff] at hc
      obtain ⟨_, _, _, _, rfl⟩ := hc
      simp [evP] at hv
    · rename_i hcal
      split at hc
      · rename_i x t hargs htys
        have ha : c.args = #[x] := by rw [← Array.toArray_toList (xs := c.args), hargs]
        have ht : c.argTypes = #[t] := by rw [← Array.toArray_toList (xs := c.argTypes), htys]
        have run : ∀ r, (Builtin.len_ #[t] o.type #[e x]).run P w = .ok r w → (do let d ← resolve e c o.type; invoke d.target d.args : Sem Next).run P w = .ok (.value r) w := fun r hr => by
          simp [resolve, hcal, ha, ht, invoke, builtin, hr]
        split at hc
        · rename_i q hu
          obtain ⟨ax, hx, rfl⟩ := Option.map_eq_some_iff.1 hc
          simp only [evP, Option.bind_eq_some_iff] at hv
          obtain ⟨u, h1, h2⟩ := hv
          have hr := hop.rel _ _ _ hx h1
          unfold lenV at h2
          split at h2 <;> try contradiction
          · rename_i id off n _
            obtain rfl := Option.some.inj h2
            have hsl : ∃ A c, e x = .slice A n c := by
              have h0 := hr.c_inv.sl'
              generalize e x = ex at h0
              cases h0 <;> exact ⟨_, _, rfl⟩
            obtain ⟨A, cp, hA⟩ := hsl
            exact ⟨_, run (.int .i64 n) (by simp [Builtin.len_, run_underlying hu, hA, goInt]), .p (.c (.int _ _))⟩
        · rename_i hu
          obtain ⟨ax, hx, rfl⟩ := Option.map_eq_some_iff.1 hc
          simp only [evP, Option.bind_eq_some_iff] at hv
          obtain ⟨u, h1, h2⟩ := hv
          have hr := hop.rel _ _ _ hx h1
          unfold lenV at h2
          split at h2 <;> try contradiction
          · rename_i s _
            obtain rfl := Option.some.inj h2
            exact ⟨_, run (.int .i64 s.size) (by simp [Builtin.len_, run_underlying hu, hr.str_inv, goInt]), .p (.c (.int _ _))⟩
        · obtain ⟨ax, hx, rfl⟩ := Option.map_eq_some_iff.1 hc
          simp [evP] at hv
        · cases hc
      · cases hc
    · rename_i hcal
      split at hc
      · rename_i x y hargs
        have ha : c.args = #[x, y] := by rw [← Array.toArray_toList (xs := c.args), hargs]
        simp only [Option.bind_eq_some_iff, Option.map_eq_some_iff] at hc
        obtain ⟨ax, hx, ay, hy, rfl⟩ := hc
        simp only [evP, Option.bind_eq_some_iff] at hv
        obtain ⟨u, h3, v2, h4, h5⟩ := hv
        obtain ⟨r, h6, h7⟩ := run_minmax (P := P) (w := w) (t := o.type) (ts := c.argTypes) h5 (hop.rel _ _ _ hx h3) (hop.rel _ _ _ hy h4)
        simp only [if_true] at h6
        exact ⟨r, by simp [resolve, hcal, ha, invoke, builtin, h6], h7⟩
      · cases hc
    · rename_i hcal
      split at hc
      · rename_i x y hargs
        have ha : c.args = #[x, y] := by rw [← Array.toArray_toList (xs := c.args), hargs]
        simp only [Option.bind_eq_some_iff, Option.map_eq_some_iff] at hc
        obtain ⟨ax, hx, ay, hy, rfl⟩ := hc
        simp only [evP, Option.bind_eq_some_iff] at hv
        obtain ⟨u, h3, v2, h4, h5⟩ := hv
        obtain ⟨r, h6, h7⟩ := run_minmax (P := P) (w := w) (t := o.type) (ts := c.argTypes) h5 (hop.rel _ _ _ hx h3) (hop.rel _ _ _ hy h4)
        simp only [Bool.false_eq_true, if_false] at h6
        exact ⟨r, by simp [resolve, hcal, ha, invoke, builtin, h6], h7⟩
      · cases hc
    · split at hc
      · split at hc
        · simp only [Option.bind_eq_some_iff, Option.map_eq_some_iff] at hc
          obtain ⟨_, _, _, _, _, _, _, _, _, _, _, _, _, _, rfl⟩ := hc
          simp [evP] at hv
        · cases hc
      · cases hc
    · split at hc
      · simp only [Option.bind_eq_some_iff, Option.map_eq_some_iff] at hc
        obtain ⟨_, _, _, _, _, _, _, _, rfl⟩ := hc
        simp [evP] at hv
      · cases hc
    · cases hc
  all_goals (first | (cases hc; done) | skip)
end
end Go.Proofs.Ytlmbgaoeplffkaa

/- Which of the model's operations an abstract one stands for. -/
namespace Go.Proofs.Ytlmbgaoeplffkaa
open Go Go.RowKit
set_option linter.unusedVariables false
set_option linter.unusedSimpArgs false
variable {P : Program} {o : Op}
theorem inv_load {ag : Bool} {s : Nat} {x : Opd} (h : cOp P o = some (.load ag s x)) : ∃ t a, o = .load t a ∧ tagg P t = some ag ∧ tsize P t = some s ∧ cOpd a = some x := by
  cases o
  case load t a =>
    simp only [cOp, Option.bind_eq_some_iff, Option.map_eq_some_iff, AOp.load.injEq] at h
    obtain ⟨g, hg, z, hz, y, hy, rfl, rfl, rfl⟩ := h
    exact ⟨t, a, rfl, hg, hz, hy⟩
  all_goals (exfalso; simp only [cOp, cBin, cBuild, cCall] at h; (repeat' split at h) <;> simp_all [Option.bind_eq_some_iff, Option.map_eq_some_iff])
theorem inv_store {s : Nat} {x y : Opd} (h : cOp P o = some (.store s x y)) : ∃ t a b, o = .store t a b ∧ tsize P t = some s ∧ cOpd a = some x ∧ cOpd b = some y := by
  cases o
  case store t a b =>
    simp only [cOp, Option.bind_eq_some_iff, Option.map_eq_some_iff, AOp.store.injEq] at h
    obtain ⟨z, hz, u, hu, y, hy, rfl, rfl, rfl⟩ := h
    exact ⟨t, a, b, rfl, hz, hu, hy⟩
  all_goals (exfalso; simp only [cOp, cBin, cBuild, cCall] at h; (repeat' split at h) <;> simp_all [Option.bind_eq_some_iff, Option.map_eq_some_iff])
theorem inv_mlen {x : Opd} (h : cOp P o = some (.mlen x)) : ∃ c a t k q, o = .call c ∧ c.callee = .builtin .len ∧ c.args = #[a] ∧ c.argTypes = #[t] ∧ P.underlying t = some (.map k q) ∧ cOpd a = some x := by
  cases o
  case call c =>
    simp only [cOp, cCall] at h
    split at h
    case h_2 hcal =>
      split at h
      · rename_i a t ha ht
        split at h <;> simp [Option.map_eq_some_iff] at h
        rename_i k q hu
        exact ⟨c, a, t, k, q, rfl, hcal, by rw [← Array.toArray_toList (xs := c.args), ha], by rw [← Array.toArray_toList (xs := c.argTypes), ht], hu, h⟩
      · cases h
    all_goals (exfalso; (repeat' split at h) <;> simp_all [Option.bind_eq_some_iff, Option.map_eq_some_iff])
  all_goals (exfalso; simp only [cOp, cBin, cBuild, cCall] at h; (repeat' split at h) <;> simp_all [Option.bind_eq_some_iff, Option.map_eq_some_iff])
theorem inv_bstr {x : Opd} (h : cOp P o = some (.bstr x)) : ∃ s d a e, o = .convert s d a ∧ P.underlying s = some (.slice e) ∧ P.underlying d = some .string ∧ P.underlying e = some (.int .u8) ∧ cOpd a = some x := by
  cases o
  case convert s d a =>
    simp only [cOp] at h
    split at h
    case h_4 e hs hd =>
      split at h
      · rename_i he
        simp only [Option.map_eq_some_iff, AOp.bstr.injEq] at h
        obtain ⟨y, hy, rfl⟩ := h
        exact ⟨s, d, a, e, rfl, hs, hd, he, hy⟩
      · cases h
    all_goals (exfalso; simp [Option.map_eq_some_iff] at h)
  all_goals (exfalso; simp only [cOp, cBin, cBuild, cCall] at h; (repeat' split at h) <;> simp_all [Option.bind_eq_some_iff, Option.map_eq_some_iff])
theorem inv_lookup {ks ok : Bool} {z : AC} {x k : Opd} (h : cOp P o = some (.lookup ks ok z x k)) : ∃ t a b kt et, o = .lookup t a b ok ∧ P.underlying t = some (.map kt et) ∧ keyKind P kt = some ks ∧ cLook P et = some z ∧ cOpd a = some x ∧ cOpd b = some k := by
  cases o
  case lookup t a b ok' =>
    simp only [cOp] at h
    split at h
    · rename_i kt et hu
      simp only [Option.bind_eq_some_iff, Option.map_eq_some_iff, AOp.lookup.injEq] at h
      obtain ⟨ks', hk, z0, hz, u, hu', y, hy, rfl, rfl, rfl, rfl, rfl⟩ := h
      exact ⟨t, a, b, kt, et, rfl, hu, hk, hz, hu', hy⟩
    · cases h
  all_goals (exfalso; simp only [cOp, cBin, cBuild, cCall] at h; (repeat' split at h) <;> simp_all [Option.bind_eq_some_iff, Option.map_eq_some_iff])
theorem inv_mapSet {ks : Bool} {x k v : Opd} (h : cOp P o = some (.mapSet ks x k v)) : ∃ t a b d kt et, o = .mapUpdate t a b d ∧ P.underlying t = some (.map kt et) ∧ keyKind P kt = some ks ∧ cOpd a = some x ∧ cOpd b = some k ∧ cOpd d = some v := by
  cases o
  case mapUpdate t a b d =>
    simp only [cOp] at h
    split at h
    · rename_i kt et hu
      simp only [Option.bind_eq_some_iff, Option.map_eq_some_iff, AOp.mapSet.injEq] at h
      obtain ⟨ks', hk, u, hu', y, hy, z, hz, rfl, rfl, rfl, rfl⟩ := h
      exact ⟨t, a, b, d, kt, et, rfl, hu, hk, hu', hy, hz⟩
    · cases h
  all_goals (exfalso; simp only [cOp, cBin, cBuild, cCall] at h; (repeat' split at h) <;> simp_all [Option.bind_eq_some_iff, Option.map_eq_some_iff])
theorem inv_alloc {t : Nat} {z : List AC} (h : cOp P o = some (.alloc t z)) : o = .alloc t ∧ tzero P t = some z := by
  cases o
  case alloc t =>
    simp only [cOp, Option.map_eq_some_iff, AOp.alloc.injEq] at h
    obtain ⟨z, hz, rfl, rfl⟩ := h
    exact ⟨rfl, hz⟩
  all_goals (exfalso; simp only [cOp, cBin, cBuild, cCall] at h; (repeat' split at h) <;> simp_all [Option.bind_eq_some_iff, Option.map_eq_some_iff])
theorem inv_box {t : Nat} {x : Opd} (h : cOp P o = some (.box t x)) : ∃ a, o = .box t a ∧ cOpd a = some x := by
  cases o
  case box t a =>
    simp only [cOp, Option.map_eq_some_iff, AOp.box.injEq] at h
    obtain ⟨z, hz, rfl, rfl⟩ := h
    exact ⟨a, rfl, hz⟩
  all_goals (exfalso; simp only [cOp, cBin, cBuild, cCall] at h; (repeat' split at h) <;> simp_all [Option.bind_eq_some_iff, Option.map_eq_some_iff])
theorem inv_buildS {e s len : Nat} {z : List AC} {ps : List (Nat × Nat × Opd)} (h : cOp P o = some (.buildS e s len z ps)) :
    ∃ t qs, o = .buildSlice t len qs ∧ elemT P t = some e ∧ tzero P e = some z ∧ tsize P e = some s ∧ 0 < s ∧ len * s ≤ 16777216 ∧ cParts (fun i => some (i * s, s)) qs.toList = some ps := by
  cases o
  case buildSlice t len' qs =>
    simp only [cOp, Option.bind_eq_some_iff] at h
    obtain ⟨e', he, z', hz, s', hs, _, hp, h⟩ := h
    split at h
    · rename_i hle
      simp only [Option.map_eq_some_iff, AOp.buildS.injEq] at h
      obtain ⟨ps', hps, rfl, rfl, rfl, rfl, rfl⟩ := h
      exact ⟨t, qs, rfl, he, hz, hs, posN_pos hp, hle, hps⟩
    · cases h
  all_goals (exfalso; simp only [cOp, cBin, cBuild, cCall] at h; (repeat' split at h) <;> simp_all [Option.bind_eq_some_iff, Option.map_eq_some_iff])
theorem inv_makeS {e s b : Nat} {z : List AC} {x y : Opd} (h : cOp P o = some (.makeS e s b z x y)) :
    ∃ t l c, o = .makeSlice t l c ∧ elemT P t = some e ∧ tzero P e = some z ∧ tsize P e = some s ∧ 0 < s ∧ tbytes P e = some b ∧ cOpd l = some x ∧ cOpd c = some y := by
  cases o
  case makeSlice t l c =>
    simp only [cOp, Option.bind_eq_some_iff, Option.map_eq_some_iff, AOp.makeS.injEq] at h
    obtain ⟨e', he, z', hz, s', hs, _, hp, b', hb, x', hx, y', hy, rfl, rfl, rfl, rfl, rfl, rfl⟩ := h
    exact ⟨t, l, c, rfl, he, hz, hs, posN_pos hp, hb, hx, hy⟩
  all_goals (exfalso; simp only [cOp, cBin, cBuild, cCall] at h; (repeat' split at h) <;> simp_all [Option.bind_eq_some_iff, Option.map_eq_some_iff])
theorem inv_mkMap (h : cOp P o = some .mkMap) : ∃ t k q, o = .makeMap t none ∧ P.underlying t = some (.map k q) := by
  cases o
  case makeMap t r =>
    cases r <;> simp only [cOp] at h
    · split at h
      · rename_i k q hu; exact ⟨t, k, q, rfl, hu⟩
      · cases h
    · cases h
  all_goals (exfalso; simp only [cOp, cBin, cBuild, cCall] at h; (repeat' split at h) <;> simp_all [Option.bind_eq_some_iff, Option.map_eq_some_iff])
theorem inv_append {e s b : Nat} {x y : Opd} (h : cOp P o = some (.append e s b x y)) : ∃ c t u v z, o = .call c ∧ c.callee = .builtin .append ∧ c.args = #[u, v] ∧ c.argTypes = #[t, t] ∧
    elemT P t = some e ∧ tzero P e = some z ∧ tsize P e = some s ∧ 0 < s ∧ tbytes P e = some b ∧ cOpd u = some x ∧ cOpd v = some y := by
  cases o
  case call c =>
    simp only [cOp, cCall] at h
    split at h
    case h_5 hcal =>
      split at h
      · rename_i u v t t' ha ht
        split at h
        · rename_i htt; subst htt
          simp only [Option.bind_eq_some_iff, Option.map_eq_some_iff, AOp.append.injEq] at h
          obtain ⟨e', he, z, hz, s', hs, _, hp, b', hb, u', hu, v', hv, rfl, rfl, rfl, rfl, rfl⟩ := h
          exact ⟨c, t, u, v, z, rfl, hcal, by rw [← Array.toArray_toList (xs := c.args), ha], by rw [← Array.toArray_toList (xs := c.argTypes), ht], he, hz, hs, posN_pos hp, hb, hu, hv⟩
        · cases h
      · cases h
    all_goals (exfalso; (repeat' split at h) <;> simp_all [Option.bind_eq_some_iff, Option.map_eq_some_iff])
  all_goals (exfalso; simp only [cOp, cBin, cBuild, cCall] at h; (repeat' split at h) <;> simp_all [Option.bind_eq_some_iff, Option.map_eq_some_iff])
theorem inv_copy {s : Nat} {x y : Opd} (h : cOp P o = some (.copy s x y)) : ∃ c t t' e u v, o = .call c ∧ c.callee = .builtin .copy ∧ c.args = #[u, v] ∧ c.argTypes = #[t, t'] ∧
    elemT P t = some e ∧ tsize P e = some s ∧ cOpd u = some x ∧ cOpd v = some y := by
  cases o
  case call c =>
    simp only [cOp, cCall] at h
    split at h
    case h_6 hcal =>
      split at h
      · rename_i u v t t' ha ht
        simp only [Option.bind_eq_some_iff, Option.map_eq_some_iff, AOp.copy.injEq] at h
        obtain ⟨e', he, s', hs, u', hu, v', hv, rfl, rfl, rfl⟩ := h
        exact ⟨c, t, t', e', u, v, rfl, hcal, by rw [← Array.toArray_toList (xs := c.args), ha], by rw [← Array.toArray_toList (xs := c.argTypes), ht], he, hs, hu, hv⟩
      · cases h
    all_goals (exfalso; (repeat' split at h) <;> simp_all [Option.bind_eq_some_iff, Option.map_eq_some_iff])
  all_goals (exfalso; simp only [cOp, cBin, cBuild, cCall] at h; (repeat' split at h) <;> simp_all [Option.bind_eq_some_iff, Option.map_eq_some_iff])
theorem inv_call {f : Opd} {xs : List Opd} (h : cOp P o = some (.call f xs)) : ∃ c u, o = .call c ∧ c.callee = .value u ∧ cOpd u = some f ∧ cOpds c.args.toList = some xs := by
  cases o
  case call c =>
    simp only [cOp, cCall] at h
    split at h
    case h_1 u hcal =>
      simp only [Option.bind_eq_some_iff, Option.map_eq_some_iff, AOp.call.injEq] at h
      obtain ⟨f', hf, ys, hy, rfl, rfl⟩ := h
      exact ⟨c, u, rfl, hcal, hf, hy⟩
    all_goals (exfalso; (repeat' split at h) <;> simp_all [Option.bind_eq_some_iff, Option.map_eq_some_iff])
  all_goals (exfalso; simp only [cOp, cBin, cBuild, cCall] at h; (repeat' split at h) <;> simp_all [Option.bind_eq_some_iff, Option.map_eq_some_iff])
end Go.Proofs.Ytlmbgaoeplffkaa

/- Operations that read, make or write memory: the model's does what the abstract one tells. -/
namespace Go.Proofs.Ytlmbgaoeplffkaa
open Go Go.RowKit
set_option linter.unusedVariables false
set_option linter.unusedSimpArgs false
section
variable {P : Program} {B : Nat} {ρ : Rho} {g : Opd → Option AV} {e : Operand → Value} {w : World} {h : Heap}

theorem cellsAt_one {id off : Nat} {cs : List AC} {x : AC} (hc : cellsOf h id = some cs) (hx : cs[off]? = some x) : cellsAt h id off 1 = some [x] := by
  have hlt := (List.getElem?_eq_some_iff.1 hx).1
  have hle : off + 1 ≤ cs.length := hlt
  have he : (cs.drop off).take 1 = [x] := by
    rw [List.take_one, List.head?_drop, hx]; rfl
  simp only [cellsAt, hc, Option.bind_some, cut, if_pos hle, he]

theorem map_obj (hs : Sim B ρ h w) {id : Nat} {L : Loc} (hL : ρ id = some L) {kv : List (AC × AC)} (hk : h id = some (.map kv)) :
    ∃ es clk, w.heap[L.b]? = some (.map es clk) ∧ All2 (fun p e => CRel ρ p.1 e.key ∧ CRel ρ p.2 e.val) kv es.toList := by
  obtain ⟨M, hM, hr⟩ := hs.obj id _ hk
  rw [hL] at hM; obtain rfl := Option.some.inj hM
  exact hr.2
theorem run_getMap {r : Nat} {es : Array MapEntry} {clk : Nat} (hr : w.heap[r]? = some (.map es clk)) : (getObj r).run P w = .ok (.map es clk) w := by
  simp [getObj, Sem.run, hr]

theorem CRel.int_eq {k : IntKind} {n : Int} {x : Value} (h : CRel ρ (.int k n) x) : x = .int k n := by cases h; rfl
theorem CRel.str_eq {s : ByteArray} {x : Value} (h : CRel ρ (.str s) x) : x = .string s := by cases h; rfl

theorem sameKey_rel {kt : TypeDesc} {ks : Bool} {k a : AC} {key u : Value} {b : Bool} (hkt : (ks = false ∧ ∃ q, kt = .int q) ∨ (ks = true ∧ kt = .string)) (hk : CRel ρ k key) (ha : CRel ρ a u)
    (h : sameKey ks k a = some b) : Instr.sameNow kt key u = some b := by
  unfold sameKey at h
  split at h
  · rename_i q m q' n
    rcases hkt with ⟨_, q0, rfl⟩ | ⟨h0, _⟩
    · split at h
      · rename_i hq; subst hq
        obtain rfl := Option.some.inj h
        simp [Instr.sameNow, hk.int_eq, ha.int_eq]
      · cases h
    · cases h0
  · rename_i q m
    rcases hkt with ⟨h0, _⟩ | ⟨_, rfl⟩
    · cases h0
    · obtain rfl := Option.some.inj h
      simp [Instr.sameNow, hk.str_eq, ha.str_eq]
  · cases h

theorem findNow_rel {kt : TypeDesc} {ks : Bool} {k : AC} {key : Value} (hkt : (ks = false ∧ ∃ q, kt = .int q) ∨ (ks = true ∧ kt = .string)) (hkey : CRel ρ k key) :
    ∀ {kv : List (AC × AC)} {es : List MapEntry}, All2 (fun p e => CRel ρ p.1 e.key ∧ CRel ρ p.2 e.val) kv es →
    ∀ (i : Nat) (r : Option AC), scanKV ks k kv = some r →
    ∃ u, Instr.findNow kt key es i = some u ∧ (r = none → u = none) ∧ (∀ x, r = some x → ∃ j y, u = some (j, y) ∧ CRel ρ x y) := by
  intro kv es hall
  induction hall with
  | nil =>
    intro i r hr
    simp [scanKV] at hr; subst hr
    exact ⟨none, rfl, fun _ => rfl, fun x hx => by cases hx⟩
  | @cons p e kv es hp _ ih =>
    intro i r hr
    obtain ⟨pk, pv⟩ := p
    obtain ⟨h1, h2⟩ := hp
    simp only [scanKV] at hr
    split at hr
    · rename_i hsame
      have := sameKey_rel hkt hkey h1 hsame
      obtain rfl := Option.some.inj hr
      exact ⟨some (i, e.val), by simp [Instr.findNow, this], fun hx => (by cases hx), fun x hx => ⟨i, e.val, rfl, by obtain rfl := Option.some.inj hx; exact h2⟩⟩
    · rename_i hsame
      have := sameKey_rel hkt hkey h1 hsame
      obtain ⟨u, hu, hrest⟩ := ih (i + 1) r hr
      exact ⟨u, by simp [Instr.findNow, this, hu], hrest⟩
    · cases hr

theorem keyKind_or {kt : TypeId} {ks : Bool} (h : keyKind P kt = some ks) : ∃ d, P.underlying kt = some d ∧ ((ks = false ∧ ∃ q, d = .int q) ∨ (ks = true ∧ d = .string)) := by
  unfold keyKind at h
  split at h
  · rename_i q hq; obtain rfl := Option.some.inj h; exact ⟨_, hq, .inl ⟨rfl, q, rfl⟩⟩
  · rename_i hq; obtain rfl := Option.some.inj h; exact ⟨_, hq, .inr ⟨rfl, rfl⟩⟩
  · cases h
theorem run_checkKey {kt : TypeId} {d : TypeDesc} {ks : Bool} {key : Value} {b : Bool} (hd : P.underlying kt = some d) (hor : (ks = false ∧ ∃ q, d = .int q) ∨ (ks = true ∧ d = .string)) :
    (Instr.checkKey b 10000 kt key).run P w = .ok () w := by
  rw [show 10000 = 9999 + 1 from rfl, Instr.checkKey]
  simp only [Sem.run_bind, run_underlying hd, Result.andThen_ok]
  rcases hor with ⟨_, q, rfl⟩ | ⟨_, rfl⟩ <;> rfl
theorem run_findKey {kt : TypeId} {d : TypeDesc} {key : Value} {es : List MapEntry} {u : Option (Nat × Value)} (hd : P.underlying kt = some d) (hu : Instr.findNow d key es 0 = some u) :
    (Instr.findKey kt key es).run P w = .ok u w := by
  simp [Instr.findKey, run_underlying hd, hu]
theorem cLook_zero {et : TypeId} {z : AC} (h : cLook P et = some z) : ∃ v, (zeroValue et).run P w = .ok v w ∧ CRel ρ z v := by
  unfold cLook at h
  simp only [Option.bind_eq_some_iff] at h
  obtain ⟨i, hi, v, hv, hz⟩ := h
  exact ⟨v, by simp [zeroValue, typeInfo, hi, hv], cCell_rel hz⟩

theorem numsOf_rel {cs : List AC} {vs : List Value} (h : All2 (CRel ρ) cs vs) : ∀ {xs : List Int}, numsOf cs = some xs → vs = xs.map (Value.int .u8) := by
  induction h with
  | nil => intro xs h; obtain rfl := Option.some.inj h; rfl
  | @cons a v cs vs h1 _ ih =>
    intro xs h
    cases h1 with
    | int k n =>
      cases k <;> simp [numsOf] at h
      obtain ⟨ys, h2, rfl⟩ := h
      rw [ih h2]; rfl
    | _ => simp [numsOf] at h
theorem evR_sound (hop : OpsIn ρ g e) (hs : Sim B ρ h w) {o : Oper} {ao : AOp} {v : AV} (hc : cOp P o.op = some ao) (hv : evR g h ao = some v) :
    ∃ r, (execOp e o).run P w = .ok (.value r) w ∧ VRel ρ v r := by
  have fin : ∀ (s : Sem Value), (∃ r, s.run P w = .ok r w ∧ VRel ρ v r) → ∃ r, (do pure (Next.value (← s)) : Sem Next).run P w = .ok (.value r) w ∧ VRel ρ v r := fun s ⟨r, h1, h2⟩ => ⟨r, by simp [h1], h2⟩
  cases ao with
  | load ag s x =>
    obtain ⟨t, a, ho, hg, hs', hx⟩ := inv_load hc
    simp only [evR, Option.bind_eq_some_iff] at hv
    obtain ⟨u, h1, ⟨id, off⟩, h2, h3⟩ := hv
    obtain ⟨L, hL, hp⟩ := (hop.rel _ _ _ hx h1).asPtr h2
    simp only at hL hp h3
    simp only [execOp, ho]
    refine fin _ ?_
    simp only [Instr.loadAt, hp, Instr.sureAddr, Sem.run_bind, Sem.run_pure, Result.andThen_ok, loadVar, run_isAgg hg]
    cases ag with
    | true =>
      simp only [if_true, Option.map_eq_some_iff] at h3
      obtain ⟨cs, h4, rfl⟩ := h3
      obtain ⟨vs, h5, h6⟩ := cellsAt_read hs hL h4
      have hl : vs.length = s := by
        rw [← h5.len]
        unfold cellsAt cut at h4
        obtain ⟨all, _, h7⟩ := Option.bind_eq_some_iff.1 h4
        split at h7
        · obtain rfl := Option.some.inj h7; simp; omega
        · cases h7
      have := run_loadCells_list (P := P) w ⟨L.b, L.o + off, none⟩ vs (fun j v hv => by rw [add_lit]; exact h6 j v hv)
      rw [hl] at this
      exact ⟨_, by simp [run_sizeOf hs', this], .p (.agg h5)⟩
    | false =>
      simp only [Bool.false_eq_true, if_false, Option.bind_eq_some_iff, Option.map_eq_some_iff] at h3
      obtain ⟨cs, h4, x, h5, rfl⟩ := h3
      obtain ⟨vs, h6, h7⟩ := cellsAt_read hs hL (cellsAt_one h4 h5)
      cases h6 with
      | @cons _ b _ bs h8 h9 =>
        have hb : w.cell? ⟨L.b, L.o + off, none⟩ = some b := by simpa using h7 0 b rfl
        exact ⟨b, by simp [run_load, hb], .p (.c h8)⟩
  | mlen x =>
    obtain ⟨c, a, t, k, q, ho, hcal, ha, ht, hu, hx⟩ := inv_mlen hc
    simp only [evR, Option.bind_eq_some_iff] at hv
    obtain ⟨u, h1, id, h2, h3⟩ := hv
    obtain ⟨L, hL, hp⟩ := (hop.rel _ _ _ hx h1).asMp h2
    split at h3
    · rename_i kv hkv
      obtain rfl := Option.some.inj h3
      obtain ⟨es, clk, h4, h5⟩ := map_obj hs hL hkv
      refine ⟨.int .i64 kv.length, ?_, .p (.c (.int _ _))⟩
      have hlen : kv.length = es.size := by rw [h5.len, Array.length_toList]
      simp only [execOp, ho]
      simp [resolve, hcal, ha, ht, invoke, builtin, Builtin.len_, run_underlying hu, hp, run_getMap h4, goInt, hlen]
    · cases h3
  | bstr x =>
    obtain ⟨s, d, a, e', ho, hus, hud, hue, hx⟩ := inv_bstr hc
    simp only [evR, Option.bind_eq_some_iff] at hv
    obtain ⟨u, h1, ⟨id, off, len⟩, h2, h3⟩ := hv
    have hsl := (hop.rel _ _ _ hx h1).asSl h2
    simp only at hsl h3
    split at h3
    · cases h3
    rename_i hid
    simp only [Option.bind_eq_some_iff, Option.map_eq_some_iff] at h3
    obtain ⟨cs, h4, b, h5, rfl⟩ := h3
    generalize hxa : e a = xv at hsl
    cases hsl with
    | nilS => exact absurd (Nat.zero_le 1) hid
    | emp => exact absurd (Nat.le_refl 1) hid
    | @sl _ _ _ cap L g1 hL g3 g4 =>
      obtain ⟨vs, h6, h7⟩ := cellsAt_read hs hL h4
      have hl : vs.length = len := by
        rw [← h6.len]
        unfold cellsAt cut at h4
        obtain ⟨all, _, h8⟩ := Option.bind_eq_some_iff.1 h4
        split at h8
        · obtain rfl := Option.some.inj h8; simp; omega
        · cases h8
      have hld := run_loadCells_list (P := P) w ⟨L.b, L.o + off, none⟩ vs (fun j v hv => by rw [add_lit]; exact h7 j v hv)
      rw [hl] at hld
      simp only [execOp, ho]
      refine fin _ ⟨.string (strN b), ?_, .p (.c (.str _))⟩
      rw [hxa]
      obtain rfl := numsOf_rel h6 h5
      rw [run_convert_bytes_string w s d e' _ len cap hus hue hud, run_bytesToString w _ len cap b hld]
      rfl
  | lookup ks ok z x k =>
    obtain ⟨t, a, b, kt, et, ho, hu, hkk, hz, hx, hk⟩ := inv_lookup hc
    simp only [evR, Option.bind_eq_some_iff] at hv
    obtain ⟨u, h1, id, h2, u2, h3, key, h4, h5⟩ := hv
    obtain ⟨L, hL, hp⟩ := (hop.rel _ _ _ hx h1).asMp h2
    have hkey := (hop.rel _ _ _ hk h3).asC h4
    split at h5
    · rename_i kv hkv
      obtain ⟨r, hr, rfl⟩ := Option.map_eq_some_iff.1 h5
      obtain ⟨es, clk, h6, h7⟩ := map_obj hs hL hkv
      obtain ⟨d, hd, hor⟩ := keyKind_or hkk
      obtain ⟨f, h8, h9, h10⟩ := findNow_rel hor hkey h7 0 r hr
      obtain ⟨zv, hzv, hzr⟩ := cLook_zero (ρ := ρ) (w := w) hz
      simp only [execOp, ho]
      refine fin _ ?_
      simp only [Instr.lookup, Sem.run_bind, run_underlying hu, Result.andThen_ok, hp, run_getMap h6, Sem.run_pure, run_checkKey hd hor, run_findKey hd h8]
      cases r with
      | none =>
        rw [h9 rfl]
        simp only [Sem.run_bind, hzv, Result.andThen_ok, Sem.run_pure]
        cases ok
        · exact ⟨zv, by simp, .p (.c hzr)⟩
        · exact ⟨_, by simp, .tup (.cons (.c hzr) (.cons (.c (.bool _)) .nil))⟩
      | some y =>
        obtain ⟨j, yv, hf, hy⟩ := h10 y rfl
        rw [hf]
        simp only [Sem.run_pure, Result.andThen_ok]
        cases ok
        · exact ⟨yv, by simp, .p (.c hy)⟩
        · exact ⟨_, by simp, .tup (.cons (.c hy) (.cons (.c (.bool _)) .nil))⟩
    · cases h5
  | _ => simp [evR] at hv
end
end Go.Proofs.Ytlmbgaoeplffkaa

/- Operations that make memory. -/
namespace Go.Proofs.Ytlmbgaoeplffkaa
open Go Go.RowKit
set_option linter.unusedVariables false
set_option linter.unusedSimpArgs false
section
variable {P : Program} {B : Nat} {ρ : Rho} {g : Opd → Option AV} {e : Operand → Value} {w : World} {h : Heap}

/-- A new block. -/
theorem new_obj (hs : Sim B ρ h w) {n : Nat} (hn : h n = none) {xs : List AC} {vs : List Value} (hx : All2 (CRel ρ) xs vs) (t esz cap : Nat) (hcap : vs.length = cap * esz) (hm : cap ≤ maxLen) :
    Ext ρ (rset ρ n ⟨w.heap.size, 0, cap, esz⟩) ∧ Below B w (w.alloc (.cells vs.toArray t)) ∧ Sim B (rset ρ n ⟨w.heap.size, 0, cap, esz⟩) (upd h n (.rw t esz xs)) (w.alloc (.cells vs.toArray t)) := by
  have hext := rset_ext (L := ⟨w.heap.size, 0, cap, esz⟩) (hs.none_of hn)
  refine ⟨hext, (Below.refl B w).alloc hs.base _, hs.new hn (by simp) (fun k hk => heap_alloc_old w _ k hk) (Nat.le_refl _) ?_⟩
  refine ⟨rfl, hs.base, rfl, vs.toArray, heap_alloc_new w _, by simpa using hcap, hm, ?_⟩
  have : vs.take xs.length = vs := by rw [hx.len]; simp
  simpa [this] using hx.mono fun _ _ k => k.mono hext

theorem flat_get {α : Type} (z : List α) : ∀ (n i : Nat), (List.flatten (List.replicate n z))[i]? = if i < n * z.length then z[i % z.length]? else none
  | 0, i => by simp
  | n + 1, i => by
    simp only [List.replicate_succ, List.flatten_cons]
    by_cases hi : i < z.length
    · rw [List.getElem?_append_left hi, if_pos (by rw [Nat.add_mul]; omega), Nat.mod_eq_of_lt hi]
    · rw [List.getElem?_append_right (by omega), flat_get z n]
      by_cases h2 : i - z.length < n * z.length
      · have e1 : i < (n + 1) * z.length := by rw [Nat.add_mul]; omega
        rw [if_pos h2, if_pos e1, Nat.mod_eq_sub_mod (by omega : i ≥ z.length)]
      · have e1 : ¬ i < (n + 1) * z.length := by rw [Nat.add_mul]; omega
        rw [if_neg h2, if_neg e1]
theorem madeCells_rel {z : List AC} {v : Value} (hz : All2 (CRel ρ) z v.cells.toList) (n : Nat) (hpos : 0 < z.length) : All2 (CRel ρ) (List.flatten (List.replicate n z)) (madeCells v.cells (n * z.length)).toList := by
  refine All2.of_get (by simp [madeCells]) fun i x hx => ?_
  rw [flat_get] at hx
  split at hx
  · rename_i hi
    obtain ⟨u, hu, hr⟩ := hz.get _ x hx
    refine ⟨u, ?_, hr⟩
    have hsz : v.cells.size = z.length := by rw [hz.len, Array.length_toList]
    have hu' : v.cells[i % v.cells.size]? = some u := by rw [hsz]; simpa using hu
    have hlt : i % v.cells.size < v.cells.size := (Array.getElem?_eq_some_iff.1 hu').1
    have hval := (Array.getElem?_eq_some_iff.1 hu').2
    simp only [madeCells, Array.toList_map, Array.toList_range, List.getElem?_map, List.getElem?_range hi, Option.map_some]
    rw [getElem!_pos v.cells _ hlt, hval]
  · cases hx

theorem splice_len {cs xs : List AC} {off : Nat} (h : off + xs.length ≤ cs.length) : (splice cs off xs).length = cs.length := by
  unfold splice; simp; omega
theorem fillV_len : ∀ {qs : List (Nat × Nat × Opd)} {cs r : List AC}, fillV g cs qs = some r → r.length = cs.length
  | [], cs, r, h => by simp [fillV] at h; rw [h]
  | (off, size, x) :: qs, cs, r, h => by
    simp only [fillV, Option.bind_eq_some_iff] at h
    obtain ⟨v, _, p, _, h⟩ := h
    split at h
    · rename_i hb
      rw [fillV_len h, splice_len (by omega)]
    · cases h
theorem flat_len {α : Type} (z : List α) (n : Nat) : (List.flatten (List.replicate n z)).length = n * z.length := by
  induction n with
  | zero => simp
  | succ n ih => rw [List.replicate_succ, List.flatten_cons, List.length_append, ih, Nat.add_mul]; omega

theorem evA_sound (hop : OpsIn ρ g e) (hs : Sim B ρ h w) {n : Nat} (hn : h n = none) (h2n : 2 ≤ n) {o : Oper} {ao : AOp} {v : AV} {oo : Option AObj} (hc : cOp P o.op = some ao) (hv : evA g n ao = some (v, oo)) :
    ∃ r w' ρ', (execOp e o).run P w = .ok (.value r) w' ∧ Ext ρ ρ' ∧ Below B w w' ∧ VRel ρ' v r ∧ Sim B ρ' (match oo with | none => h | some ob => upd h n ob) w' := by
  cases ao with
  | alloc t z =>
    obtain ⟨ho, hz⟩ := inv_alloc hc
    simp only [evA, Option.some.injEq, Prod.mk.injEq] at hv
    obtain ⟨rfl, rfl⟩ := hv
    obtain ⟨i, u, hi, hu, hsz, hr⟩ := tinfo (ρ := ρ) hz
    obtain ⟨h1, h2, h3⟩ := new_obj hs hn hr t z.length 1 (by rw [← hr.len]; omega) (by simp [maxLen])
    refine ⟨.pointer (some ⟨w.heap.size, 0, none⟩), _, _, ?_, h1, h2, .p (.c (.ptr (L := ⟨w.heap.size, 0, 1, z.length⟩) (by simp [rset]))), h3⟩
    simp only [execOp, ho, Instr.alloc, Sem.run_bind, zeroValue, typeInfo, run_program, Result.andThen_ok, hi, Sem.run_pure, hu]
    simp [newVar, newRow]
  | box t x =>
    obtain ⟨a, ho, hx⟩ := inv_box hc
    simp only [evA, Option.bind_eq_some_iff, Option.map_eq_some_iff] at hv
    obtain ⟨u, h4, p, h5, h6⟩ := hv
    obtain ⟨rfl, rfl⟩ := Prod.mk.inj h6
    have hr := ((hop.rel _ _ _ hx h4).asP h5).cells
    obtain ⟨h1, h2, h3⟩ := new_obj hs hn hr t p.cells.length 1 (by rw [← hr.len]; omega) (by simp [maxLen])
    refine ⟨.pointer (some ⟨w.heap.size, 0, none⟩), _, _, ?_, h1, h2, .p (.c (.ptr (L := ⟨w.heap.size, 0, 1, p.cells.length⟩) (by simp [rset]))), h3⟩
    simp only [execOp, ho, Instr.box]
    simp [newVar, newRow]
  | buildS el s len z ps =>
    obtain ⟨t, qs, ho, hel, hz, hsz, hpos, hle, hps⟩ := inv_buildS hc
    obtain ⟨i, u, hi, hu, hus, hr⟩ := tinfo (ρ := ρ) hz
    have hsi : i.size = s := by
      unfold tsize at hsz; rw [hi] at hsz; simpa using hsz
    have hzl : z.length = s := by rw [hr.len, Array.length_toList, hus, hsi]
    have hparts : (Array.map (fun x => match x with | (i, x) => (i, e x)) qs).toList = qs.toList.map fun p => (p.1, e p.2) := by simp
    simp only [evA] at hv
    by_cases hl : len = 0
    · subst hl
      simp only [if_true] at hv
      split at hv
      · rename_i hem
        simp only [Option.some.injEq, Prod.mk.injEq] at hv
        obtain ⟨rfl, rfl⟩ := hv
        have hq : qs = #[] := by
          have h0 : qs.toList = [] := by
            cases hq : qs.toList with
            | nil => rfl
            | cons p r =>
              obtain ⟨i, x⟩ := p
              rw [hq] at hps
              simp only [cParts, Option.bind_eq_some_iff, Option.map_eq_some_iff] at hps
              obtain ⟨_, _, _, _, _, _, rfl⟩ := hps
              simp at hem
          rw [← Array.toArray_toList (xs := qs), h0]
        refine ⟨.slice (some ⟨w.heap.size, 0, none⟩) 0 0, w.alloc (.cells #[] el), ρ, ?_, Ext.refl ρ, (Below.refl B w).alloc hs.base _, .p (.c (.emp _)), hs.grow (by simp) (fun k hk => heap_alloc_old w _ k hk)⟩
        simp [execOp, ho, Instr.buildSlice, run_underlying (elemT_eq hel), run_sizeOf hsz, hq, Instr.fill, newRow, Array.range_zero']
      · cases hv
    · rw [if_neg hl] at hv
      simp only [Option.map_eq_some_iff] at hv
      obtain ⟨cs, hf, h6⟩ := hv
      obtain ⟨rfl, rfl⟩ := Prod.mk.inj h6
      have hmade := madeCells_rel hr len (by omega)
      rw [hzl] at hmade
      obtain ⟨us, h7, h8⟩ := fill_parts hop hps hf hmade
      have hul : us.toList.length = len * s := by rw [← h8.len, fillV_len hf, flat_len, hzl]
      obtain ⟨h1, h2, h3⟩ := new_obj hs hn h8 el s len hul (by have : len * 1 ≤ len * s := Nat.mul_le_mul_left _ hpos; simp [maxLen]; omega)
      refine ⟨.slice (some ⟨w.heap.size, 0, none⟩) len len, _, _, ?_, h1, h2, .p (.c (.sl (L := ⟨w.heap.size, 0, len, s⟩) h2n (by simp [rset]) (Nat.le_refl _) (fun _ => rfl))), h3⟩
      have hne : ¬ len * s = 0 := by
        intro h0; rcases Nat.mul_eq_zero.1 h0 with h0 | h0 <;> omega
      have hgt : ¬ (len * s > 2 ^ 24) := by simpa using hle
      simp only [execOp, ho, Instr.buildSlice, Sem.run_bind, run_underlying (elemT_eq hel), Result.andThen_ok, run_sizeOf hsz, if_neg hgt, if_neg hne, zeroValue, typeInfo, run_program, hi, hu, Sem.run_pure, hparts]
      simp only [madeCells] at h7
      simp [h7, newRow]
  | makeS el s b z x c =>
    obtain ⟨t, lx, lc, ho, hel, hz, hsz, hpos, hb, hx, hcx⟩ := inv_makeS hc
    obtain ⟨i, u, hi, hu, hus, hr⟩ := tinfo (ρ := ρ) hz
    have hsi : i.size = s := by
      unfold tsize at hsz; rw [hi] at hsz; simpa using hsz
    have hbi : i.bytes = b := by
      unfold tbytes at hb; rw [hi] at hb; simpa using hb
    have hzl : z.length = s := by rw [hr.len, Array.length_toList, hus, hsi]
    simp only [evA, Option.bind_eq_some_iff] at hv
    obtain ⟨v1, h1, l, h2, v2, h3, l', h4, hv⟩ := hv
    split at hv
    · rename_i hb4
      obtain ⟨b1, rfl, b3, b4⟩ := hb4
      simp only [Option.some.injEq, Prod.mk.injEq] at hv
      obtain ⟨rfl, rfl⟩ := hv
      obtain ⟨k1, e1⟩ := (hop.rel _ _ _ hx h1).asI h2
      obtain ⟨k2, e2⟩ := (hop.rel _ _ _ hcx h3).asI h4
      have hmade := madeCells_rel hr l'.toNat (by omega)
      rw [hzl] at hmade
      have hm := run_make (P := P) w t el i u (elemT_eq hel) hi hu k1 k2 l' l' b1 (Int.le_refl _) (by rw [hbi]; omega) (by omega)
      obtain ⟨q1, q2, q3⟩ := new_obj hs hn hmade el s l'.toNat (by simp [madeCells]) (by simp [maxLen]; omega)
      refine ⟨_, _, _, ?_, q1, q2, .p (.c (.sl (L := ⟨w.heap.size, 0, l'.toNat, s⟩) h2n (by simp [rset]) (Nat.le_refl _) (fun _ => rfl))), q3⟩
      rw [hsi] at hm
      simp [execOp, ho, e1, e2, hm]
    · cases hv
  | mkMap =>
    obtain ⟨t, k, q, ho, hu⟩ := inv_mkMap hc
    simp only [evA, Option.some.injEq, Prod.mk.injEq] at hv
    obtain ⟨rfl, rfl⟩ := hv
    have hext := rset_ext (L := ⟨w.heap.size, 0, 0, 0⟩) (hs.none_of hn)
    refine ⟨.map (some w.heap.size), w.alloc (.map #[] 0), rset ρ n ⟨w.heap.size, 0, 0, 0⟩, ?_, hext, (Below.refl B w).alloc hs.base _, .p (.c (.mp (L := ⟨w.heap.size, 0, 0, 0⟩) (by simp [rset]))),
      hs.new hn (by simp) (fun k hk => heap_alloc_old w _ k hk) (Nat.le_refl _) ⟨hs.base, #[], 0, heap_alloc_new w _, .nil⟩⟩
    simp [execOp, ho, Instr.makeMap]
  | _ => simp [evA] at hv
end
end Go.Proofs.Ytlmbgaoeplffkaa

/- Operations that write memory. -/
namespace Go.Proofs.Ytlmbgaoeplffkaa
open Go Go.RowKit
set_option linter.unusedVariables false
set_option linter.unusedSimpArgs false
section
variable {P : Program} {B : Nat} {ρ : Rho} {g : Opd → Option AV} {e : Operand → Value} {w : World} {h : Heap}

theorem splice_rel {cs xs : List AC} {l vs : List Value} {off : Nat} (hc : All2 (CRel ρ) cs (l.take cs.length)) (hx : All2 (CRel ρ) xs vs) (hle : off + xs.length ≤ cs.length) (hl : cs.length ≤ l.length) :
    All2 (CRel ρ) (splice cs off xs) ((l.take off ++ vs ++ l.drop (off + vs.length)).take (splice cs off xs).length) := by
  rw [splice_len hle]
  have e1 : (l.take off ++ vs ++ l.drop (off + vs.length)).take cs.length = (l.take cs.length).take off ++ vs ++ (l.take cs.length).drop (off + vs.length) := by
    have hv := hx.len
    apply List.ext_getElem?
    intro i
    simp only [List.getElem?_take, List.getElem?_append, List.length_append, List.length_take, List.getElem?_drop]
    repeat' split
    all_goals first | rfl | omega | (congr 1; omega) | skip
  rw [e1]
  unfold splice
  have hv := hx.len
  rw [hv]
  exact ((hc.take off).append hx).append (hc.drop (off + vs.length))

theorem below_setRow {g0 : Nat} {t : TypeId} {old cs : Array Value} (hg : w.heap[g0]? = some (.cells old t (0, 0))) (hB : B ≤ g0) : Below B w (w.setRow g0 cs) :=
  ⟨rfl, rfl, rfl, by simp [World.setRow], fun k hk => setRow_other w g0 k cs (by omega)⟩

/-- What a store into one of our blocks does. -/
theorem store_rel (hs : Sim B ρ h w) {id t esz : Nat} {cs xs : List AC} {L : Loc} {vs : List Value} {off : Nat} (hid : h id = some (.rw t esz cs)) (hL : ρ id = some L) (hx : All2 (CRel ρ) xs vs) (hle : off + xs.length ≤ cs.length) :
    ∃ w', (storeCells ⟨L.b, L.o + off, none⟩ vs).run P w = .ok () w' ∧ Below B w w' ∧ Sim B ρ (upd h id (.rw t esz (splice cs off xs))) w' := by
  obtain ⟨M, hM, hr⟩ := hs.obj id _ hid
  rw [hL] at hM; obtain rfl := Option.some.inj hM
  obtain ⟨h1, h2, h3, cur, h4, h5, h6, h7⟩ := hr
  have hlen : cs.length ≤ cur.size := by
    have := h7.len; simp only [List.length_take, Array.length_toList] at this; omega
  have hv := hx.len
  have hst := run_storeCells_at P L.b (L.o + off) t vs 0 cur w h4 (by rw [h3]; omega) (all_one hx)
  simp only [h3, Nat.zero_add, Nat.add_zero] at hst ⊢
  refine ⟨_, hst, below_setRow h4 h2, ?_⟩
  refine hs.write hid hL rfl (by simp [World.setRow]) (fun k hk => setRow_other w L.b k _ hk) (fun _ => trivial) ?_
  refine ⟨h1, h2, h3, _, setRow_heap w L.b cur _ t (0, 0) h4, ?_, h6, ?_⟩
  · rw [← h5]; simp; omega
  · simpa using splice_rel h7 hx hle (by simpa using hlen)

theorem srcCells_read (hs : Sim B ρ h w) {q : Nat × Nat × Nat} {x : Value} {esz : Nat} {news : List AC} (hq : SlRel ρ q.1 q.2.1 q.2.2 x) (hc : srcCells h esz q = some news) :
    ∃ (A : Option Addr) (c : Nat) (vs : List Value), x = .slice A q.2.2 c ∧ All2 (CRel ρ) news vs ∧ vs.length = q.2.2 * esz ∧ (A = none → q.2.2 = 0 ∧ c = 0) ∧ (∀ ad, A = some ad → ∀ j v, vs[j]? = some v → w.cell? (ad.add j) = some v) := by
  obtain ⟨id, off, len⟩ := q
  unfold srcCells at hc
  simp only at hc hq ⊢
  cases hq with
  | nilS => simp at hc; subst hc; exact ⟨none, 0, [], rfl, .nil, by simp, fun _ => ⟨rfl, rfl⟩, fun ad h => (by cases h)⟩
  | emp ad => simp at hc; subst hc; exact ⟨some ad, 0, [], rfl, .nil, by simp, fun h => (by cases h), fun ad _ j v hv => (by simp at hv)⟩
  | sl h2 h3 h4 h5 =>
    rw [if_neg (by omega)] at hc
    obtain ⟨vs, h6, h7⟩ := cellsAt_read hs h3 hc
    refine ⟨_, _, vs, rfl, h6, ?_, fun h => (by cases h), fun ad ha j v hv => ?_⟩
    · rw [← h6.len]
      unfold cellsAt cut at hc
      obtain ⟨all, _, h8⟩ := Option.bind_eq_some_iff.1 hc
      split at h8
      · obtain rfl := Option.some.inj h8; simp; omega
      · cases h8
    · obtain rfl := Option.some.inj ha
      rw [add_lit]; exact h7 j v hv

/-- One row may have been written or moved; it is told anew under a new number. -/
theorem Sim.regrow (hs : Sim B ρ h w) {w' : World} {row : Option Nat} (hg : w.grownBy w' row) (hrow : ∀ k, row = some k → B ≤ k ∧ ∀ id o L, h id = some o → ρ id = some L → o.owned = true → L.b ≠ k)
    {n : Nat} (hn : h n = none) {L' : Loc} (hL' : row = some L'.b ∨ L'.b = w.heap.size) {ob : AObj} (ho : ORel B (rset ρ n L') w' L' ob) : Sim B (rset ρ n L') (upd h n ob) w' ∧ Below B w w' := by
  have hx := rset_ext (L := L') (hs.none_of hn)
  have hb : Below B w w' := ⟨hg.os, hg.tape, hg.output, hg.size, fun k hk => hg.block k (Nat.lt_of_lt_of_le hk hs.base) (fun e => by have := (hrow k e.symm).1; omega)⟩
  have hkeep : ∀ id o L, h id = some o → ρ id = some L → ORel B ρ w L o → ORel B ρ w' L o := by
    intro id o L e1 e2 hr
    cases o with
    | ro esz cs => exact hr.keep (hb.block _ hr.2.1)
    | rw t esz cs => exact hr.keep (hg.block _ (hr.lt rfl).2 fun e => (hrow _ e.symm).2 id _ L e1 e2 rfl rfl)
    | map kv => exact hr.keep (hg.block _ (hr.lt rfl).2 fun e => (hrow _ e.symm).2 id _ L e1 e2 rfl rfl)
    | dead => trivial
  refine ⟨⟨fun x M e => ?_, fun x o' e => ?_, fun x x' o1 o2 L1 L2 e1 e2 r1 r2 q1 q2 hbb => ?_, Nat.le_trans hs.base hg.size⟩, hb⟩
  · unfold upd; split
    · simp
    · rename_i hne; exact hs.dom x M (by simpa [rset, hne] using e)
  · unfold upd at e; split at e
    · rename_i hxe; subst hxe; obtain rfl := Option.some.inj e; exact ⟨L', by simp [rset], ho⟩
    · obtain ⟨M, hM, hr⟩ := hs.obj x o' e
      exact ⟨M, hx _ _ hM, (hkeep x o' M e hM hr).ext hx⟩
  · have key : ∀ y oy M, h y = some oy → ρ y = some M → oy.owned = true → M.b ≠ L'.b := fun y oy M h1 h2 h3 => by
      obtain ⟨M', hM', hr⟩ := hs.obj y oy h1
      rw [h2] at hM'; obtain rfl := Option.some.inj hM'
      rcases hL' with hL' | hL'
      · exact (hrow _ hL').2 y oy M h1 h2 h3
      · have := (hr.lt h3).2; omega
    by_cases hx1 : x = n <;> by_cases hx2 : x' = n
    · rw [hx1, hx2]
    · exfalso
      simp [rset, hx1] at r1; simp [rset, hx2] at r2; simp [upd, hx2] at e2
      subst r1; exact key x' o2 L2 e2 r2 q2 hbb.symm
    · exfalso
      simp [rset, hx1] at r1; simp [rset, hx2] at r2; simp [upd, hx1] at e1
      subst r2; exact key x o1 L1 e1 r1 q1 hbb
    · simp [rset, hx1] at r1; simp [rset, hx2] at r2; simp [upd, hx1] at e1; simp [upd, hx2] at e2
      exact hs.inj x x' o1 o2 L1 L2 e1 e2 r1 r2 q1 q2 hbb

/-- What append's law leaves, told of the abstract memory. -/
theorem own_done (hs : Sim B ρ h w) {w' : World} {row : Option Nat} (hg : w.grownBy w' row) (hrow : ∀ k, row = some k → B ≤ k ∧ ∀ id o L, h id = some o → ρ id = some L → o.owned = true → L.b ≠ k)
    {n : Nat} (hn : h n = none) (h2n : 2 ≤ n) {el s m : Nat} {r : Value} {xs : List AC} {vs : List Value} (hx : All2 (CRel ρ) xs vs) (hown : w'.ownsRow B el s r m vs) (hne : r ≠ .slice none 0 0)
    (hat : r.ownBlock = row ∨ r.ownBlock = some w.heap.size) :
    ∃ ρ', Ext ρ ρ' ∧ Below B w w' ∧ VRel ρ' (.c (.sl n 0 m)) r ∧ Sim B ρ' (upd h n (.rw el s xs)) w' := by
  obtain ⟨hlen, hor⟩ := hown
  rcases hor with ⟨h1, _⟩ | ⟨g0, cap, cur, rfl, hB, hh, hc, hm, hsz, htk⟩
  · exact absurd h1 hne
  have hx' := rset_ext (L := ⟨g0, 0, cap, s⟩) (hs.none_of hn)
  obtain ⟨q1, q2⟩ := hs.regrow (L' := ⟨g0, 0, cap, s⟩) (ob := .rw el s xs) hg hrow hn (by rcases hat with h | h <;> simp [Value.ownBlock] at h; exact .inl h.symm; exact .inr h) ⟨rfl, hB, rfl, cur, hh, hsz, hm, by
    have : xs.length = m * s := by rw [hx.len, hlen]
    rw [this, htk]; exact hx.mono fun _ _ k => k.mono hx'⟩
  exact ⟨_, hx', q2, .p (.c (.sl (L := ⟨g0, 0, cap, s⟩) h2n (by simp [rset]) hc (fun _ => rfl))), q1⟩

/-- append, as the model does it. -/
theorem append_rel (hs : Sim B ρ h w) {n : Nat} (hn : h n = none) (h2n : 2 ≤ n) {t ty el s b : Nat} {z : List AC} {p q : Nat × Nat × Nat} {x y : Value} {news : List AC}
    (hel : elemT P t = some el) (hz : tzero P el = some z) (hsz : tsize P el = some s) (hpos : 0 < s) (hb : tbytes P el = some b)
    (hp : SlRel ρ p.1 p.2.1 p.2.2 x) (hq : SlRel ρ q.1 q.2.1 q.2.2 y) (hc : srcCells h s q = some news)
    (hbytes : (p.2.2 + q.2.2) * b ≤ 140737488355328) (hmax : p.2.2 + q.2.2 ≤ 4611686018427387904) {h1 : Heap} {cs : List AC}
    (hmine : ((p.1 = 0 ∨ p.1 = 1) ∧ h1 = h ∧ cs = [] ∧ q.2.2 ≠ 0) ∨ (2 ≤ p.1 ∧ h1 = upd h p.1 .dead ∧ p.2.1 = 0 ∧ ∃ all, h p.1 = some (.rw el s all) ∧ p.2.2 * s ≤ all.length ∧ cs = all.take (p.2.2 * s))) :
    ∃ r w' ρ', (Builtin.append_ #[t, t] ty #[x, y]).run P w = .ok r w' ∧ Ext ρ ρ' ∧ Below B w w' ∧ VRel ρ' (.c (.sl n 0 (p.2.2 + q.2.2))) r ∧
      Sim B ρ' (upd h1 n (.rw el s (cs ++ news))) w' := by
  obtain ⟨i, u, hi, hu, hus, hr⟩ := tinfo (ρ := ρ) hz
  have hsi : i.size = s := by
    unfold tsize at hsz; rw [hi] at hsz; simpa using hsz
  have hbi : i.bytes = b := by
    unfold tbytes at hb; rw [hi] at hb; simpa using hb
  have ht := elemT_eq hel
  have hmx : p.2.2 + q.2.2 ≤ maxLen := by simp [maxLen]; omega
  obtain ⟨A, c, vs, rfl, hvs, hvl, hA0, hcell⟩ := srcCells_read hs hq hc
  rcases hmine with ⟨h01, rfl, rfl, hm0⟩ | ⟨hp2, rfl, hoff, all, hall, hle, rfl⟩
  · -- nothing was there
    have hAs : ∃ ad, A = some ad := by
      cases A with
      | none => exact absurd (hA0 rfl).1 hm0
      | some ad => exact ⟨ad, rfl⟩
    obtain ⟨ad, rfl⟩ := hAs
    obtain ⟨p1, p2, p3⟩ := p
    simp only at hp h01 hbytes hmax hmx ⊢
    cases hp with
    | nilS =>
      obtain ⟨r, w', hrun, hown, hgr, hnil, hat⟩ := run_append_own_at (P := P) w B t ty el i u s b ht hi hu hsi hbi (by rw [hus, hsi]) hpos (.slice none 0 0) 0 [] ⟨by simp, .inl ⟨rfl, rfl⟩⟩ ad q.2.2 c vs hvl (hcell ad rfl) (all_one hvs) hmx hbytes hs.base
      obtain ⟨ρ', k1, k2, k3, k4⟩ := own_done hs hgr (fun k hk => by simp [Value.ownBlock] at hk) hn h2n (by simpa using hvs) (by simpa using hown) (fun h => by have := hnil.1 h; omega) (by simpa [Value.ownBlock] using hat)
      exact ⟨r, w', ρ', hrun, k1, k2, by simpa using k3, by simpa using k4⟩
    | emp ad0 =>
      have hrun := run_append_grow (P := P) w t ty el i u ht hi hu ad0 0 0 [] (by simp) (by simp) ad q.2.2 c vs (by rw [hsi]; exact hvl) (hcell ad rfl) (by omega) (by omega) (growslice_fits (by omega) (by rw [hbi]; exact hbytes))
      have hge := grownCap_ge w (0 + q.2.2) 0 el
      have hcm := grownCap_le_maxLen w (0 + q.2.2) 0 el hmx
      generalize grownCap w (0 + q.2.2) 0 el = G at hrun hge hcm
      obtain ⟨ρ', k1, k2, k3, k4⟩ := own_done (row := none) hs (w' := w.drew.alloc (.cells (([] : List Value).toArray ++ vs.toArray ++ Builtin.zeroCells u.cells (G - (0 + q.2.2))) el)) ⟨rfl, rfl, rfl, by simp, fun k hk _ => heap_alloc_old w.drew _ k hk⟩ (fun k hk => by cases hk) hn h2n hvs
        (m := 0 + q.2.2) (el := el) (s := s) (r := .slice (some ⟨w.heap.size, 0, none⟩) (0 + q.2.2) G) ⟨by rw [hvl]; simp, .inr ⟨_, _, _, rfl, hs.base, heap_alloc_new w.drew _, hge, hcm, by
          simp only [Array.size_append, List.size_toArray, size_zeroCells, hus, hsi, hvl, List.length_nil, Nat.zero_add, ← Nat.add_mul]
          congr 1
          omega, by simp [hvl]⟩⟩ (by simp) (.inr rfl)
      exact ⟨_, _, ρ', hrun, k1, k2, by simpa using k3, by simpa using k4⟩
    | sl k2 _ _ _ => omega
  · -- a row of ours
    obtain ⟨p1, p2, p3⟩ := p
    simp only at hp hp2 hoff hall hle hbytes hmax hmx ⊢
    subst hoff
    cases hp with
    | nilS => omega
    | emp => omega
    | @sl _ _ _ cap L k2 k3 k4 k5 =>
      have hcap := k5 rfl
      subst hcap
      obtain ⟨M, hM, hor⟩ := hs.obj _ _ hall
      rw [k3] at hM; obtain rfl := Option.some.inj hM
      obtain ⟨o1, o2, o3, cur, o4, o5, o6, o7⟩ := hor
      have hlen : all.length ≤ cur.size := by
        have := o7.len; simp only [List.length_take, Array.length_toList] at this; omega
      have hold : All2 (CRel ρ) (all.take (p3 * s)) (cur.toList.take (p3 * s)) := by
        have := o7.take (p3 * s)
        rwa [List.take_take, Nat.min_eq_left hle] at this
      have hown : w.ownsRow B el s (.slice (some ⟨L.b, L.o + 0, none⟩) p3 L.cap) p3 (cur.toList.take (p3 * s)) :=
        ⟨by simp; omega, .inr ⟨L.b, L.cap, cur, by simp [o3], o2, o4, k4, o6, o5, rfl⟩⟩
      have hkill := hs.kill p1 (by rw [hall]; simp)
      have hrow : ∀ k, (Value.slice (some ⟨L.b, L.o + 0, none⟩) p3 L.cap).ownBlock = some k → B ≤ k ∧ ∀ id o L', upd h p1 .dead id = some o → ρ id = some L' → o.owned = true → L'.b ≠ k := by
        intro k hk
        simp [Value.ownBlock] at hk
        subst hk
        refine ⟨o2, fun id o L' e1 e2 e3 hbb => ?_⟩
        unfold upd at e1; split at e1
        · obtain rfl := Option.some.inj e1; cases e3
        · rename_i hne
          exact hne (hs.inj id p1 o _ L' L e1 hall e2 k3 e3 rfl hbb)
      have hnd : upd h p1 .dead n = none := by
        unfold upd; split
        · rename_i hx; subst hx; rw [hn] at hall; cases hall
        · exact hn
      cases A with
      | none =>
        have hm0 := (hA0 rfl).1
        have hc0 := (hA0 rfl).2
        have hvnil : vs = [] := List.eq_nil_of_length_eq_zero (by rw [hvl, hm0]; simp)
        have hnews : news = [] := List.eq_nil_of_length_eq_zero (by rw [hvs.len, hvnil]; rfl)
        rw [hm0, hc0, hnews]
        have hrun := run_append_owned_none (P := P) w B t ty el i s ht hi _ p3 _ hown
        obtain ⟨ρ', q1, q2, q3, q4⟩ := own_done hkill ⟨rfl, rfl, rfl, Nat.le_refl _, fun _ _ _ => rfl⟩ hrow hnd h2n hold hown (by simp) (.inl rfl)
        exact ⟨_, _, ρ', hrun, q1, q2, by simpa using q3, by simpa using q4⟩
      | some ad =>
        obtain ⟨r, w', hrun, hown', hgr, hnil, hat⟩ := run_append_own_at (P := P) w B t ty el i u s b ht hi hu hsi hbi (by rw [hus, hsi]) hpos _ p3 _ hown ad q.2.2 c vs hvl (hcell ad rfl) (all_one hvs) hmx hbytes hs.base
        obtain ⟨ρ', q1, q2, q3, q4⟩ := own_done hkill hgr hrow hnd h2n (hold.append hvs) hown' (fun h => by have := (hnil.1 h).1; simp at this) hat
        exact ⟨r, w', ρ', hrun, q1, q2, q3, q4⟩
end
end Go.Proofs.Ytlmbgaoeplffkaa

/- Operations that write memory, all of them. -/
namespace Go.Proofs.Ytlmbgaoeplffkaa
open Go Go.RowKit
set_option linter.unusedVariables false
set_option linter.unusedSimpArgs false
section
variable {P : Program} {B : Nat} {ρ : Rho} {g : Opd → Option AV} {e : Operand → Value} {w : World} {h : Heap}

theorem bytes_eq {a b : ByteArray} (h : (a == b) = true) : a = b := by
  cases a with | mk x => cases b with | mk y =>
    have h' : (x == y) = true := h
    rw [eq_of_beq h']
theorem sameNow_eq {kt : TypeDesc} {ks : Bool} {k a : AC} {key u : Value} (hk : CRel ρ k key) (ha : CRel ρ a u) (h : sameKey ks k a = some true) : u = key ∧ Instr.sameBits 10000 u key = true := by
  unfold sameKey at h
  split at h
  · split at h
    · rename_i hq; subst hq
      have := Option.some.inj h
      rw [hk.int_eq, ha.int_eq]
      simp at this; subst this
      exact ⟨rfl, by simp [Instr.sameBits]⟩
    · cases h
  · have h0 := Option.some.inj h
    rw [hk.str_eq, ha.str_eq]
    have := bytes_eq h0; subst this
    exact ⟨rfl, by simpa [Instr.sameBits] using h0⟩
  · cases h

theorem setKV_rel {kt : TypeDesc} {ks : Bool} {k v : AC} {key val : Value} {clk : Nat} (hkt : (ks = false ∧ ∃ q, kt = .int q) ∨ (ks = true ∧ kt = .string)) (hkey : CRel ρ k key) (hval : CRel ρ v val) :
    ∀ {kv : List (AC × AC)} {es : List MapEntry}, All2 (fun p e => CRel ρ p.1 e.key ∧ CRel ρ p.2 e.val) kv es → ∀ (i : Nat) (kv' : List (AC × AC)), setKV ks k v kv = some kv' →
    (∃ j y old, Instr.findNow kt key es i = some (some (i + j, y)) ∧ es[j]? = some old ∧ old.key = key ∧ Instr.sameBits 10000 old.key key = true ∧
      All2 (fun p e => CRel ρ p.1 e.key ∧ CRel ρ p.2 e.val) kv' (es.modify j fun e => { e with key := key, val := val })) ∨
    (Instr.findNow kt key es i = some none ∧ All2 (fun p e => CRel ρ p.1 e.key ∧ CRel ρ p.2 e.val) kv' (es ++ [{ key := key, val := val, born := clk }])) := by
  intro kv es hall
  induction hall with
  | nil =>
    intro i kv' hr
    simp [setKV] at hr; subst hr
    exact .inr ⟨rfl, .cons ⟨hkey, hval⟩ .nil⟩
  | @cons p e kv es hp hrest ih =>
    intro i kv' hr
    obtain ⟨pk, pv⟩ := p
    obtain ⟨h1, h2⟩ := hp
    simp only [setKV] at hr
    split at hr
    · rename_i hsame
      have hn := sameKey_rel hkt hkey h1 hsame
      have he := sameNow_eq (kt := kt) hkey h1 hsame
      obtain rfl := Option.some.inj hr
      exact .inl ⟨0, e.val, e, by simp [Instr.findNow, hn], rfl, he.1, he.2, by simpa using All2.cons ⟨hkey, hval⟩ hrest⟩
    · rename_i hsame
      have hn := sameKey_rel hkt hkey h1 hsame
      obtain ⟨kv1, hkv, rfl⟩ := Option.map_eq_some_iff.1 hr
      rcases ih (i + 1) kv1 hkv with ⟨j, y, old, k1, k2, k3, k4, k5⟩ | ⟨k1, k2⟩
      · exact .inl ⟨j + 1, y, old, by simp [Instr.findNow, hn, k1]; omega, by simpa using k2, k3, k4, by simpa using All2.cons ⟨h1, h2⟩ k5⟩
      · exact .inr ⟨by simp [Instr.findNow, hn, k1], .cons ⟨h1, h2⟩ k2⟩
    · cases hr

theorem evH_sound (hop : OpsIn ρ g e) (hs : Sim B ρ h w) {n n' : Nat} {h' : Heap} (hn : h n = none) (h2n : 2 ≤ n) {o : Oper} {ao : AOp} {ov : Option AV} (hc : cOp P o.op = some ao) (hv : evH g h n ao = some (ov, h', n')) :
    ∃ x w' ρ', (execOp e o).run P w = .ok x w' ∧ (match ov with | some v => ∃ r, x = Next.value r ∧ VRel ρ' v r | none => x = Next.skip) ∧ Ext ρ ρ' ∧ Below B w w' ∧ Sim B ρ' h' w' := by
  cases ao with
  | store size x v =>
    obtain ⟨t, a, b, ho, hsz, hx, hv'⟩ := inv_store hc
    simp only [evH, Option.bind_eq_some_iff] at hv
    obtain ⟨u, h1, ⟨id, off⟩, h2, u2, h3, q, h4, hv⟩ := hv
    obtain ⟨L, hL, hp⟩ := (hop.rel _ _ _ hx h1).asPtr h2
    have hq := ((hop.rel _ _ _ hv' h3).asP h4).cells
    simp only at hL hp hv
    split at hv
    · rename_i t' esz cs hid
      split at hv
      · rename_i hb
        simp only [Option.some.injEq, Prod.mk.injEq] at hv
        obtain ⟨rfl, rfl, rfl⟩ := hv
        obtain ⟨w', k1, k2, k3⟩ := store_rel (P := P) hs hid hL hq (by omega : off + q.cells.length ≤ cs.length)
        refine ⟨.skip, w', ρ, ?_, rfl, Ext.refl ρ, k2, k3⟩
        have hsize : (e b).cells.size = size := by have := hq.len; simp only [Array.length_toList] at this; omega
        have hne : ¬ ((e b).cells.size ≠ size) := by simp [hsize]
        simp only [execOp, ho, Instr.storeAt, hp, Instr.sureAddr, Sem.run_bind, Sem.run_pure, Result.andThen_ok, storeVar, run_sizeOf hsz]
        simp [hsize, k1]
      · cases hv
    · cases hv
  | append el s b x y =>
    obtain ⟨c, t, ux, uy, z, ho, hcal, hargs, htys, hel, hz, hsz, hpos, hb, hx, hy⟩ := inv_append hc
    simp only [evH, Option.bind_eq_some_iff] at hv
    obtain ⟨va, h1, p, h2, vb, h3, q, h4, news, h5, hv⟩ := hv
    have hp := (hop.rel _ _ _ hx h1).asSl h2
    have hq := (hop.rel _ _ _ hy h3).asSl h4
    have run : ∀ r w', (Builtin.append_ #[t, t] o.type #[e ux, e uy]).run P w = .ok r w' → (execOp e o).run P w = .ok (.value r) w' := fun r w' hr => by
      simp [execOp, ho, resolve, hcal, hargs, htys, invoke, builtin, hr]
    split at hv
    · rename_i hbd
      split at hv
      · rename_i h01
        split at hv
        · rename_i hp0
          split at hv
          · rename_i hq0
            simp only [Option.some.injEq, Prod.mk.injEq] at hv
            obtain ⟨rfl, rfl, rfl⟩ := hv
            obtain ⟨A, cc, vs, hyv, hvs, hvl, hA0, hcell⟩ := srcCells_read hs hq h5
            obtain ⟨i, u, hi, hu, hus, hr⟩ := tinfo (ρ := ρ) hz
            have hsi : i.size = s := by
              unfold tsize at hsz; rw [hi] at hsz; simpa using hsz
            have hvnil : vs = [] := List.eq_nil_of_length_eq_zero (by rw [hvl, hq0]; simp)
            have hfc : (Builtin.firstCells i.size 0 (Value.slice A 0 cc)).run P w = .ok #[] w := by
              cases A with
              | none => simp [Builtin.firstCells]
              | some ad => simp [Builtin.firstCells, loadCells, loadCellsFrom]
            have hrun : (Builtin.append_ #[t, t] o.type #[e ux, e uy]).run P w = .ok (e ux) w := by
              rw [hyv, hq0]
              obtain ⟨p1, p2, p3⟩ := p
              simp only at hp hp0 h01
              subst hp0
              generalize e ux = ex at hp
              cases hp with
              | nilS => simp [Builtin.append_, run_underlying (elemT_eq hel), sizeOf, typeInfo, hi, Builtin.lenOf, hfc]
              | emp ad => simp [Builtin.append_, run_underlying (elemT_eq hel), sizeOf, typeInfo, hi, Builtin.lenOf, hfc, storeCells]
              | sl k2 _ _ _ => omega
            exact ⟨_, w, ρ, run _ _ hrun, ⟨_, rfl, hop.rel _ _ _ hx h1⟩, Ext.refl ρ, Below.refl B w, hs⟩
          · rename_i hq0
            simp only [Option.some.injEq, Prod.mk.injEq] at hv
            obtain ⟨rfl, rfl, rfl⟩ := hv
            obtain ⟨r, w', ρ', k1, k2, k3, k4, k5⟩ := append_rel (P := P) (ty := o.type) hs hn h2n hel hz hsz hpos hb hp hq h5 hbd.1 hbd.2 (.inl ⟨h01, rfl, rfl, hq0⟩)
            rw [hp0] at k4
            exact ⟨_, w', ρ', run _ _ k1, ⟨r, rfl, by simpa using k4⟩, k2, k3, by simpa using k5⟩
        · cases hv
      · rename_i h01
        split at hv
        · rename_i t' esz' all hid
          split at hv
          · rename_i hcd
            obtain ⟨rfl, rfl, hoff, hle⟩ := hcd
            simp only [Option.some.injEq, Prod.mk.injEq] at hv
            obtain ⟨rfl, rfl, rfl⟩ := hv
            obtain ⟨r, w', ρ', k1, k2, k3, k4, k5⟩ := append_rel (P := P) (ty := o.type) hs hn h2n hel hz hsz hpos hb hp hq h5 hbd.1 hbd.2 (.inr ⟨by omega, rfl, hoff, all, hid, hle, rfl⟩)
            exact ⟨_, w', ρ', run _ _ k1, ⟨r, rfl, k4⟩, k2, k3, k5⟩
          · cases hv
        · cases hv
    · cases hv
  | copy s d x =>
    obtain ⟨c, t, t', el, ud, ux, ho, hcal, hargs, htys, hel, hsz, hd, hx⟩ := inv_copy hc
    simp only [evH, Option.bind_eq_some_iff] at hv
    obtain ⟨va, h1, p, h2, vb, h3, q, h4, hv⟩ := hv
    have hp := (hop.rel _ _ _ hd h1).asSl h2
    have hq := (hop.rel _ _ _ hx h3).asSl h4
    have run : ∀ r w', (Builtin.copy_ #[t, t'] o.type #[e ud, e ux]).run P w = .ok r w' → (execOp e o).run P w = .ok (.value r) w' := fun r w' hr => by
      simp [execOp, ho, resolve, hcal, hargs, htys, invoke, builtin, hr]
    have hi : ∃ i, P.info? el = some i ∧ i.size = s := by
      unfold tsize at hsz; obtain ⟨i, hi, hs⟩ := Option.map_eq_some_iff.1 hsz; exact ⟨i, hi, hs⟩
    obtain ⟨i, hi, hsi⟩ := hi
    have hxs : ∃ A cc, e ux = .slice A q.2.2 cc := by
      obtain ⟨q1, q2, q3⟩ := q
      simp only at hq ⊢
      generalize e ux = ex at hq
      cases hq <;> exact ⟨_, _, rfl⟩
    split at hv
    · rename_i h01
      split at hv
      · rename_i hp0
        simp only [Option.some.injEq, Prod.mk.injEq] at hv
        obtain ⟨rfl, rfl, rfl⟩ := hv
        obtain ⟨A, cc, hA⟩ := hxs
        have hfc : ∀ m, (Builtin.firstCells m 0 (Value.slice A q.2.2 cc)).run P w = .ok #[] w := fun m => by
          cases A with
          | none => simp [Builtin.firstCells]
          | some ad => simp [Builtin.firstCells, loadCells, loadCellsFrom]
        refine ⟨_, w, ρ, run (.int .i64 0) w ?_, ⟨_, rfl, .p (.c (.int _ _))⟩, Ext.refl ρ, Below.refl B w, hs⟩
        rw [hA]
        obtain ⟨p1, p2, p3⟩ := p
        simp only at hp hp0 h01
        subst hp0
        have hmin : Nat.min q.2.2 0 = 0 := Nat.min_eq_right (Nat.zero_le _)
        generalize e ud = ed at hp
        cases hp with
        | nilS => simp only [Builtin.copy_]; simp [run_underlying (elemT_eq hel), sizeOf, typeInfo, hi, Builtin.lenOf, hmin, hfc, goInt]
        | emp ad => simp only [Builtin.copy_]; simp [run_underlying (elemT_eq hel), sizeOf, typeInfo, hi, Builtin.lenOf, hmin, hfc, goInt, storeCells]
        | sl k2 _ _ _ => omega
      · cases hv
    · rename_i h01
      obtain ⟨news, h5, hv⟩ := Option.bind_eq_some_iff.1 hv
      split at hv
      · rename_i t1 esz1 cs hid
        split at hv
        · rename_i hb
          simp only [Option.some.injEq, Prod.mk.injEq] at hv
          obtain ⟨rfl, rfl, rfl⟩ := hv
          have hq' : SlRel ρ q.1 q.2.1 q.2.2 (e ux) := hq
          obtain ⟨p1, p2, p3⟩ := p
          obtain ⟨q1, q2, q3⟩ := q
          simp only at hp hq h01 hid hb h5 ⊢
          generalize hed : e ud = ed at hp
          cases hp with
          | nilS => omega
          | emp ad => omega
          | @sl _ _ _ cap L k2 k3 k4 k5 =>
            have hsrc : ∃ (A : Option Addr) (cc : Nat) (vs : List Value), e ux = .slice A q3 cc ∧ All2 (CRel ρ) news vs ∧ vs.length = min q3 p3 * s ∧ (A = none → min q3 p3 = 0) ∧ (∀ ad, A = some ad → ∀ j v, vs[j]? = some v → w.cell? (ad.add j) = some v) := by
              unfold srcCells at h5
              simp only at h5
              generalize e ux = ex at hq
              cases hq with
              | nilS => simp at h5; subst h5; exact ⟨none, 0, [], rfl, .nil, by simp, fun _ => by simp, fun ad h => (by cases h)⟩
              | emp ad => simp at h5; subst h5; exact ⟨some ad, 0, [], rfl, .nil, by simp, fun h => (by cases h), fun ad _ j v hv => (by simp at hv)⟩
              | sl m2 m3 m4 m5 =>
                rw [if_neg (by omega)] at h5
                obtain ⟨vs, h6, h7⟩ := cellsAt_read hs m3 h5
                refine ⟨_, _, vs, rfl, h6, ?_, fun h => (by cases h), fun ad ha j v hv => ?_⟩
                · rw [← h6.len]; omega
                · obtain rfl := Option.some.inj ha
                  rw [add_lit]; exact h7 j v hv
            obtain ⟨A, cc, vs, hA, hvs, hvl, hA0, hcell⟩ := hsrc
            obtain ⟨w', r1, r2, r3⟩ := store_rel (P := P) hs hid k3 hvs hb.1
            have hfc : (Builtin.firstCells i.size (min q3 p3) (Value.slice A q3 cc)).run P w = .ok vs.toArray w := by
              cases A with
              | none =>
                have := hA0 rfl
                have hvn : vs = [] := List.eq_nil_of_length_eq_zero (by rw [hvl, this]; simp)
                simp [Builtin.firstCells, hvn]
              | some ad =>
                have hlc := run_loadCells_list (P := P) w ad vs (hcell ad rfl)
                rw [hvl] at hlc
                simp [Builtin.firstCells, hsi, hlc]
            refine ⟨_, w', ρ, run (.int .i64 (min q3 p3 : Nat)) w' ?_, ⟨_, rfl, ?_⟩, Ext.refl ρ, r2, r3⟩
            · rw [hA, hed]
              have hmin : Nat.min q3 p3 = min q3 p3 := rfl
              simp only [Builtin.copy_]; simp [run_underlying (elemT_eq hel), sizeOf, typeInfo, hi, Builtin.lenOf, hmin, hfc, goInt, r1]
            · rw [show (min (q3 : Int) (p3 : Int)) = ((min q3 p3 : Nat) : Int) from by omega]
              exact .p (.c (.int _ _))
        · cases hv
      · cases hv
  | mapSet ks x k v =>
    obtain ⟨t, a, b, d, kt, et, ho, hu, hkk, hx, hk, hd⟩ := inv_mapSet hc
    simp only [evH, Option.bind_eq_some_iff] at hv
    obtain ⟨u, h1, id, h2, u2, h3, key, h4, u3, h5, val, h6, hv⟩ := hv
    obtain ⟨L, hL, hp⟩ := (hop.rel _ _ _ hx h1).asMp h2
    have hkey := (hop.rel _ _ _ hk h3).asC h4
    have hval := (hop.rel _ _ _ hd h5).asC h6
    split at hv
    · rename_i kv hkv
      obtain ⟨kv', hkv', h7⟩ := Option.map_eq_some_iff.1 hv
      simp only [Prod.mk.injEq] at h7
      obtain ⟨rfl, rfl, rfl⟩ := h7
      obtain ⟨M, hM, hB, es, clk, h8, h9⟩ : ∃ M, ρ id = some M ∧ B ≤ M.b ∧ ∃ es clk, w.heap[M.b]? = some (.map es clk) ∧ All2 (fun p e => CRel ρ p.1 e.key ∧ CRel ρ p.2 e.val) kv es.toList := by
        obtain ⟨M, hM, hr⟩ := hs.obj id _ hkv; exact ⟨M, hM, hr⟩
      rw [hL] at hM; obtain rfl := Option.some.inj hM
      obtain ⟨dd, hdd, hor⟩ := keyKind_or hkk
      have fin : ∀ (es' : Array MapEntry) (clk' : Nat), All2 (fun p e => CRel ρ p.1 e.key ∧ CRel ρ p.2 e.val) kv' es'.toList →
          (execOp e o).run P w = .ok .skip { w with heap := w.heap.setIfInBounds L.b (.map es' clk') } →
          ∃ x w' ρ', (execOp e o).run P w = .ok x w' ∧ (x = Next.skip) ∧ Ext ρ ρ' ∧ Below B w w' ∧ Sim B ρ' (upd h id (.map kv')) w' := by
        intro es' clk' hall hrun
        have hlt : L.b < w.heap.size := (Array.getElem?_eq_some_iff.1 h8).1
        refine ⟨_, _, ρ, hrun, rfl, Ext.refl ρ, ⟨rfl, rfl, rfl, by simp, fun k hk => by simp only; rw [Array.getElem?_setIfInBounds_ne (by omega)]⟩, hs.write hkv hL rfl (by simp) (fun k hk => by simp only; rw [Array.getElem?_setIfInBounds_ne (Ne.symm hk)]) (fun _ => trivial) ⟨hB, es', clk', by simp [hlt], hall⟩⟩
      have hset : ∀ es' clk', (setObj L.b (.map es' clk')).run P w = .ok () { w with heap := w.heap.setIfInBounds L.b (.map es' clk') } := fun es' clk' => by
        simp [setObj, Sem.run, h8]
      rcases setKV_rel (clk := clk) hor hkey hval h9 0 kv' hkv' with ⟨j, y, old, q1, q2, q3, q4, q5⟩ | ⟨q1, q2⟩
      · refine fin (es.modify j fun en => { en with key := e b, val := e d }) clk (by simpa using q5) ?_
        have hold : es[j]? = some old := by simpa using q2
        simp only [execOp, ho, Instr.mapUpdate, Sem.run_bind, run_underlying hu, Result.andThen_ok, hp, run_getMap h8, run_checkKey hdd hor, run_findKey hdd q1, Nat.zero_add, hold, Option.map_some, Option.getD_some, Instr.keyThatStays, q4, if_true, Sem.run_pure, hset]
      · refine fin (es.push { key := e b, val := e d, born := clk }) (clk + 1) (by simpa using q2) ?_
        simp only [execOp, ho, Instr.mapUpdate, Sem.run_bind, run_underlying hu, Result.andThen_ok, hp, run_getMap h8, run_checkKey hdd hor, run_findKey hdd q1, Sem.run_pure, hset]
    · cases hv
  | _ => simp [evH] at hv
end
end Go.Proofs.Ytlmbgaoeplffkaa

/- Abstract code, what it does ('Ex'), and which code of the model it stands for. -/
namespace Go.Proofs.Ytlmbgaoeplffkaa
open Go Go.RowKit
set_option linter.unusedVariables false
set_option linter.unusedSimpArgs false

abbrev Frm := List (Nat × AV)
def get : Frm → Nat → Option AV
  | [], _ => none
  | (i, v) :: r, x => if x = i then some v else get r x
def del : Frm → Nat → Frm
  | [], _ => []
  | (i, v) :: r, x => if i = x then del r x else (i, v) :: del r x
def restr (fr : Frm) : List Nat → Frm
  | [] => []
  | i :: r => match get fr i with
    | some v => (i, v) :: restr fr r
    | none => restr fr r
def putO (fr : Frm) : Option Nat → Option AV → Frm
  | some d, some v => (d, v) :: fr
  | some d, none => del fr d
  | none, _ => fr
def ev (fr : Frm) : Opd → Option AV
  | .t i => get fr i
  | .k v => some v
  | .f n => some (.c (.fn n []))
def evs (fr : Frm) : List Opd → Option (List AV)
  | [] => some []
  | x :: r => (ev fr x).bind fun v => (evs fr r).map (v :: ·)

structure AStep where
  dst : Option Nat
  op : AOp
  g : Option (Nat × Bool) := none
  chk : List Nat := []

inductive ACode where
  | skip
  | ops (draw : Bool) (l : List AStep)
  | seq (a b : ACode)
  | cond (c : Opd) (a b : ACode)
  | block (id : Nat) (b : ACode)
  | loop (live : List Nat) (b : ACode)
  | exit (id : Nat)
  | ret

inductive ARes where
  | t (i : Nat)
  | cell (agg : Bool) (size i : Nat)

structure AFun where
  nt : Nat
  res : List ARes
  body : ACode

structure St where
  h : Heap
  n : Nat

inductive AOut where
  | normal
  | exit (id : Nat)
  | ret
  deriving DecidableEq

def gon (fr : Frm) : Option (Nat × Bool) → Option Bool
  | none => some true
  | some (i, want) => (get fr i).bind fun v => match v with | .undef => some false | v => (asB v).map (· == want)

def callee (fr : Frm) (f : Opd) (args : List Opd) : Option (Nat × List AV) :=
  (ev fr f).bind fun v => (evs fr args).bind fun vs => match v with
  | .p (.c (.fn n caps)) => some (n, vs ++ caps.map fun p => AV.c (.ptr p.1 p.2))
  | .bfn n first => some (n, first.map AV.p ++ vs)
  | _ => none

def resV (fr : Frm) (h : Heap) : ARes → Option AV
  | .t i => get fr i
  | .cell ag size i => (get fr i).bind fun v => (asPtr v).bind fun p => if ag then (cellsAt h p.1 p.2 size).map AV.agg else (cellsOf h p.1).bind fun cs => (cs[p.2]?).map AV.c
def resPs (fr : Frm) (h : Heap) : List ARes → Option (List AP)
  | [] => some []
  | r :: rs => (resV fr h r).bind fun v => (asP v).bind fun p => (resPs fr h rs).map (p :: ·)
def resultV (fr : Frm) (h : Heap) : List ARes → Option AV
  | [r] => resV fr h r
  | rs => (resPs fr h rs).map .tup

def St.new (s : St) : Option AObj → St
  | none => s
  | some o => ⟨upd s.h s.n o, s.n + 1⟩

def frame0 : Nat → List AV → Frm
  | _, [] => []
  | i, v :: r => (i, v) :: frame0 (i + 1) r

/-! ### the model's code -/
abbrev Hints := Nat → Nat → List Nat      -- function, first region of a loop: the slots that live at its head

def guardSlot (ops : Array Oper) : Option (Nat × Bool) → Option (Option (Nat × Bool))
  | none => some none
  | some (j, want) => ((ops[j]?).bind (·.dst)).map fun d => some (d, want)
def dstOk (nt : Nat) : Option Nat → Bool
  | none => true
  | some d => decide (d < nt)
def cStep (P : Program) (nt : Nat) (ops : Array Oper) (o : Oper) : Option AStep :=
  if dstOk nt o.dst then (guardSlot ops o.guard).map fun g => { dst := o.dst, op := (cOp P o.op).getD .bad, g := g } else none
def cSteps (P : Program) (nt : Nat) (ops : Array Oper) : List Oper → Option (List AStep)
  | [] => some []
  | o :: r => (cStep P nt ops o).bind fun s => (cSteps P nt ops r).map (s :: ·)

def firstRegion : Code → Option Nat
  | .region id _ _ => some id
  | .seq a b => (firstRegion a).or (firstRegion b)
  | .cond _ a b => (firstRegion a).or (firstRegion b)
  | .block _ b => firstRegion b
  | .loop b => firstRegion b
  | _ => none

/-! ### regions whose order is open: one order that will do -/
inductive Kind where
  | p | r | a | h
  deriving DecidableEq
def kindOf : AOp → Kind
  | .store .. | .append .. | .copy .. | .mapSet .. | .call .. | .bad => .h
  | .load .. | .mlen .. | .bstr .. | .lookup .. => .r
  | .alloc .. | .box .. | .buildS .. | .makeS .. | .mkMap => .a
  | _ => .p
def opdSlots : Opd → List Nat
  | .t i => [i]
  | _ => []
def optSlots : Option Opd → List Nat
  | some x => opdSlots x
  | none => []
def opSlots : AOp → List Nat
  | .mv x | .isNil _ x | .un _ x | .conv _ x | .convF _ x | .ext x _ | .fieldA _ x | .nilChk x | .slice00 x | .len _ x | .load _ _ x | .box _ x | .mlen x | .bstr x => opdSlots x
  | .pick c a b => opdSlots c ++ opdSlots a ++ opdSlots b
  | .bin _ x y | .beq _ x y | .idxA _ x y | .idxArr _ _ x y | .idxV _ _ _ x y | .minmax _ x y | .makeS _ _ _ _ x y | .store _ x y | .append _ _ _ x y | .lookup _ _ _ x y | .copy _ x y => opdSlots x ++ opdSlots y
  | .build _ ps | .buildS _ _ _ _ ps => ps.flatMap fun p => opdSlots p.2.2
  | .mkFn _ xs | .mkBound _ xs => xs.flatMap opdSlots
  | .slice _ x l h => opdSlots x ++ optSlots l ++ optSlots h
  | .mapSet _ x k v => opdSlots x ++ opdSlots k ++ opdSlots v
  | .call f xs => opdSlots f ++ xs.flatMap opdSlots
  | .alloc .. | .mkMap | .bad => []
def stSlots (s : AStep) : List Nat := opSlots s.op ++ (match s.g with | some (i, _) => [i] | none => [])

def preds (o : Oper) : List Nat := (o.after.toList.filter (Region.binds .any)).map (·.on)
/-- What comes before an operation, as bits. -/
def ancBits (acc : List Nat) (l : List Nat) : Nat := l.foldl (fun m p => m ||| 2 ^ p ||| acc.getD p 0) 0
def ancGo : List Nat → List Oper → Option (List Nat)
  | acc, [] => some acc
  | acc, o :: r => if (preds o).all (· < acc.length) then ancGo (acc ++ [ancBits acc (preds o)]) r else none
def isBef (anc : List Nat) (i j : Nat) : Bool := (anc.getD j 0).testBit i
def orderGo (anc : List Nat) (N : Nat) : List Nat → List Nat → List Nat
  | [], done => done ++ (List.range N).filter fun i => !done.contains i
  | c :: hs, done => orderGo anc N hs (done ++ ((List.range N).filter fun i => !done.contains i && isBef anc i c) ++ [c])
def stepAt (steps : List AStep) (i : Nat) : AStep := steps.getD i { dst := none, op := .bad }
def apartB (anc : List Nat) (steps : List AStep) (i j : Nat) : Bool :=
  i == j || isBef anc i j || isBef anc j i ||
    (match (stepAt steps i).dst with
     | none => true
     | some d => (stepAt steps j).dst != some d && !(stSlots (stepAt steps j)).contains d)
def orderOk (anc : List Nat) (steps : List AStep) (π : List Nat) : Bool :=
  let N := steps.length
  anc.length == N && π.length == N && π.all (fun i => decide (i < N)) && (List.range N).all (fun i => π.contains i) &&
  (List.range N).all (fun t => (List.range t).all fun t' =>
    π.getD t 0 != π.getD t' 0 && !isBef anc (π.getD t 0) (π.getD t' 0) &&
    (kindOf (stepAt steps (π.getD t 0)).op != .h || isBef anc (π.getD t' 0) (π.getD t 0))) &&
  (List.range N).all (fun i => (List.range N).all fun j => apartB anc steps i j)
/-- For the operation at place t: which of the writers before it are not bound to be so. -/
def chkOf (anc : List Nat) (steps : List AStep) (π : List Nat) (t : Nat) : List Nat :=
  if kindOf (stepAt steps (π.getD t 0)).op = .r then
    let hs := (π.take t).filter fun i => kindOf (stepAt steps i).op == .h
    (List.range hs.length).filter fun k => !isBef anc (hs.getD k 0) (π.getD t 0)
  else []
def cDraw (P : Program) (nt : Nat) (ops : Array Oper) : Option (List AStep) :=
  (cSteps P nt ops ops.toList).bind fun steps => (ancGo [] ops.toList).bind fun anc =>
    let hv := (List.range steps.length).filter fun i => kindOf (stepAt steps i).op == .h
    let π := orderGo anc steps.length hv []
    if orderOk anc steps π then some ((List.range steps.length).map fun t => { stepAt steps (π.getD t 0) with chk := chkOf anc steps π t }) else none

def cCode (P : Program) (live : Nat → List Nat) (nt : Nat) : Code → Option ACode
  | .skip => some .skip
  | .region _ ops draw => if draw then (cDraw P nt ops).map (.ops true) else (cSteps P nt ops ops.toList).map (.ops false)
  | .seq a b => (cCode P live nt a).bind fun x => (cCode P live nt b).map (.seq x)
  | .cond c a b => (cOpd c).bind fun c => (cCode P live nt a).bind fun x => (cCode P live nt b).map (.cond c x)
  | .block id b => (cCode P live nt b).map (.block id)
  | .loop b => (cCode P live nt b).map (.loop (live ((firstRegion b).getD 0)))
  | .exit id => some (.exit id)
  | .ret => some .ret
  | _ => none
def cRes (P : Program) : List ResultVar → Option (List ARes)
  | [] => some []
  | .tmp t :: r => (cRes P r).map (.t t :: ·)
  | .cell a ty :: r => (tagg P ty).bind fun g => (tsize P ty).bind fun s => (cRes P r).map (.cell g s a :: ·)
/-- A function's abstract code. -/
def acode (P : Program) (H : Hints) (f : Nat) : Option AFun :=
  (P.funcs[f]?).bind fun fn => if fn.name == "runtime.NumGoroutine" then none else fn.body.bind fun b => (cCode P (H f) fn.ntmps b).bind fun c => (cRes P fn.results.toList).map fun r => { nt := fn.ntmps, res := r, body := c }

/-! ### what abstract code does -/
inductive Task where
  | code (c : ACode) (fr : Frm) (s : St)
  | ops (l : List AStep) (hist : List Heap) (fr : Frm) (s : St)
  | call (f : Nat) (args : List AV) (s : St)
inductive Res where
  | out (o : AOut) (fr : Frm) (s : St)
  | done (fr : Frm) (s : St)
  | ret (v : AV) (s : St)

inductive Ex (P : Program) (H : Hints) : Task → Res → Prop
  | skip {fr s} : Ex P H (.code .skip fr s) (.out .normal fr s)
  | ops {d l fr s fr' s'} : Ex P H (.ops l [] fr s) (.done fr' s') → Ex P H (.code (.ops d l) fr s) (.out .normal fr' s')
  | seq {a b fr s fr1 s1 o fr2 s2} : Ex P H (.code a fr s) (.out .normal fr1 s1) → Ex P H (.code b fr1 s1) (.out o fr2 s2) → Ex P H (.code (.seq a b) fr s) (.out o fr2 s2)
  | seqX {a b fr s o fr1 s1} : Ex P H (.code a fr s) (.out o fr1 s1) → o ≠ .normal → Ex P H (.code (.seq a b) fr s) (.out o fr1 s1)
  | cond {c a b fr s t o fr1 s1} : (ev fr c).bind asB = some t → Ex P H (.code (if t then a else b) fr s) (.out o fr1 s1) → Ex P H (.code (.cond c a b) fr s) (.out o fr1 s1)
  | block {id b fr s o fr1 s1} : Ex P H (.code b fr s) (.out o fr1 s1) → Ex P H (.code (.block id b) fr s) (.out (if o = .exit id then .normal else o) fr1 s1)
  | loopN {live b fr s fr1 s1 o fr2 s2} : Ex P H (.code b (restr fr live) s) (.out .normal fr1 s1) → Ex P H (.code (.loop live b) fr1 s1) (.out o fr2 s2) → Ex P H (.code (.loop live b) fr s) (.out o fr2 s2)
  | loopX {live b fr s o fr1 s1} : Ex P H (.code b (restr fr live) s) (.out o fr1 s1) → o ≠ .normal → Ex P H (.code (.loop live b) fr s) (.out o fr1 s1)
  | exit {id fr s} : Ex P H (.code (.exit id) fr s) (.out (.exit id) fr s)
  | ret {fr s} : Ex P H (.code .ret fr s) (.out .ret fr s)
  | nil {hist fr s} : Ex P H (.ops [] hist fr s) (.done fr s)
  | off {st l hist fr s fr' s'} : gon fr st.g = some false → Ex P H (.ops l (if kindOf st.op = .h then hist ++ [s.h] else hist) (putO fr st.dst (some .undef)) s) (.done fr' s') → Ex P H (.ops (st :: l) hist fr s) (.done fr' s')
  | pure {st l hist fr s v fr' s'} : gon fr st.g = some true → evP (ev fr) st.op = some v → Ex P H (.ops l hist (putO fr st.dst (some v)) s) (.done fr' s') → Ex P H (.ops (st :: l) hist fr s) (.done fr' s')
  | read {st l hist fr s v fr' s'} : gon fr st.g = some true → evR (ev fr) s.h st.op = some v → (∀ k ∈ st.chk, ∃ hk, hist[k]? = some hk ∧ evR (ev fr) hk st.op = some v) →
      Ex P H (.ops l hist (putO fr st.dst (some v)) s) (.done fr' s') → Ex P H (.ops (st :: l) hist fr s) (.done fr' s')
  | new {st l hist fr s v oo fr' s'} : gon fr st.g = some true → evA (ev fr) s.n st.op = some (v, oo) → Ex P H (.ops l hist (putO fr st.dst (some v)) (s.new oo)) (.done fr' s') → Ex P H (.ops (st :: l) hist fr s) (.done fr' s')
  | write {st l hist fr s ov h' n' fr' s'} : gon fr st.g = some true → evH (ev fr) s.h s.n st.op = some (ov, h', n') → Ex P H (.ops l (hist ++ [s.h]) (putO fr st.dst ov) ⟨h', n'⟩) (.done fr' s') → Ex P H (.ops (st :: l) hist fr s) (.done fr' s')
  | call {st l hist fr s f args fn vs v s1 fr' s'} : gon fr st.g = some true → st.op = .call f args → callee fr f args = some (fn, vs) → Ex P H (.call fn vs s) (.ret v s1) →
      Ex P H (.ops l (hist ++ [s.h]) (putO fr st.dst (some v)) s1) (.done fr' s') → Ex P H (.ops (st :: l) hist fr s) (.done fr' s')
  | fn {f args s af o fr1 s1 v} : acode P H f = some af → Ex P H (.code af.body (frame0 0 args) s) (.out o fr1 s1) → (o = .normal ∨ o = .ret) → resultV fr1 s1.h af.res = some v → Ex P H (.call f args s) (.ret v s1)

def St.WF (s : St) : Prop := (∀ id, s.n ≤ id → s.h id = none) ∧ 2 ≤ s.n

end Go.Proofs.Ytlmbgaoeplffkaa

/- One step of abstract code stands for one operation of the model's. -/
namespace Go.Proofs.Ytlmbgaoeplffkaa
open Go Go.RowKit
set_option linter.unusedVariables false
set_option linter.unusedSimpArgs false

/-! ### frames -/
structure FRel (ρ : Rho) (nt : Nat) (fr : Frm) (a : Act) : Prop where
  defers : a.defers = []
  size : nt ≤ a.tmps.size
  val : ∀ i v, get fr i = some v → ∃ x, a.tmps[i]? = some x ∧ VRel ρ v x

theorem FRel.mono {ρ ρ' : Rho} {nt : Nat} {fr : Frm} {a : Act} (he : Ext ρ ρ') (h : FRel ρ nt fr a) : FRel ρ' nt fr a :=
  ⟨h.defers, h.size, fun i v hv => let ⟨x, h1, h2⟩ := h.val i v hv; ⟨x, h1, h2.mono he⟩⟩

theorem get_del (fr : Frm) (d i : Nat) : get (del fr d) i = if i = d then none else get fr i := by
  induction fr with
  | nil => simp [del, get]
  | cons p r ih =>
    obtain ⟨j, v⟩ := p
    simp only [del]
    split
    · rename_i hj; subst hj; rw [ih]; split
      · rfl
      · rename_i hne; simp [get, hne]
    · rename_i hj
      simp only [get]
      split
      · rename_i hij; subst hij; simp [hj]
      · exact ih
theorem get_restr {fr : Frm} {i : Nat} {v : AV} : ∀ {l : List Nat}, get (restr fr l) i = some v → get fr i = some v
  | [], h => by simp [restr, get] at h
  | j :: r, h => by
    simp only [restr] at h
    split at h
    · rename_i u hu
      simp only [get] at h
      split at h
      · rename_i hij; subst hij; rw [hu]; exact h
      · exact get_restr h
    · exact get_restr h
theorem get_putO_some (fr : Frm) (d : Nat) (v : AV) (i : Nat) : get (putO fr (some d) (some v)) i = if i = d then some v else get fr i := rfl
theorem get_putO_none (fr : Frm) (d : Nat) (i : Nat) : get (putO fr (some d) none) i = if i = d then none else get fr i := get_del fr d i
theorem get_putO (fr : Frm) (d : Option Nat) (ov : Option AV) (i : Nat) : get (putO fr d ov) i = if d = some i then ov else get fr i := by
  cases d with
  | none => simp [putO]
  | some d =>
    cases ov with
    | none =>
      rw [get_putO_none]; simp only [Option.some.injEq]; by_cases h : i = d
      · simp [h]
      · rw [if_neg h, if_neg (fun e => h e.symm)]
    | some v =>
      rw [get_putO_some]; simp only [Option.some.injEq]; by_cases h : i = d
      · simp [h]
      · rw [if_neg h, if_neg (fun e => h e.symm)]

theorem FRel.restr {ρ : Rho} {nt : Nat} {fr : Frm} {a : Act} (h : FRel ρ nt fr a) (l : List Nat) : FRel ρ nt (restr fr l) a :=
  ⟨h.defers, h.size, fun i v hv => h.val i v (get_restr hv)⟩

theorem FRel.put {ρ : Rho} {nt : Nat} {fr : Frm} {a : Act} (h : FRel ρ nt fr a) {dst : Option Nat} (hd : dstOk nt dst = true) {ov : Option AV} {x : Value} (hx : ∀ v, ov = some v → VRel ρ v x) :
    FRel ρ nt (putO fr dst ov) (a.put dst x) := by
  cases dst with
  | none => exact h
  | some d =>
    have hd' : d < nt := by simpa [dstOk] using hd
    have hlt : d < a.tmps.size := Nat.lt_of_lt_of_le hd' h.size
    refine ⟨h.defers, by simpa [Act.put] using h.size, fun i v hv => ?_⟩
    rw [get_putO] at hv
    by_cases hi : i = d
    · subst hi; simp at hv; exact ⟨x, by simp [Act.put, hlt], hx v hv⟩
    · have hne : ¬ (some d : Option Nat) = some i := fun e => hi (Option.some.inj e).symm
      simp only [if_neg hne] at hv
      obtain ⟨y, h1, h2⟩ := h.val i v hv
      exact ⟨y, by simp [Act.put, Array.getElem?_setIfInBounds_ne (Ne.symm hi), h1], h2⟩

theorem FRel.ops {ρ : Rho} {nt : Nat} {fr : Frm} {a : Act} (h : FRel ρ nt fr a) : OpsIn ρ (ev fr) a.eval := by
  refine ⟨fun x ax v hc hv => ?_, fun v => rfl⟩
  cases x with
  | tmp t =>
    simp only [cOpd, Option.some.injEq] at hc; subst hc
    obtain ⟨y, h1, h2⟩ := h.val t v hv
    have : a.tmps.getD t undef = y := by simp [Array.getD_eq_getD_getElem?, h1]
    simpa [Act.eval, this] using h2
  | const c =>
    simp only [cOpd] at hc
    obtain ⟨k, hk, rfl⟩ := Option.map_eq_some_iff.1 hc
    simp only [ev, Option.some.injEq] at hv; subst hv
    exact cConst_rel hk
  | func f =>
    simp only [cOpd, Option.some.injEq] at hc; subst hc
    simp only [ev, Option.some.injEq] at hv; subst hv
    exact .p (.c (.fn .nil))
  | global g => simp [cOpd] at hc

/-! ### calls -/
/-- What a call does, told of heaps. -/
def CallK (P : Program) (B f : Nat) (args : List AV) (k : Heap) (v : AV) (k' : Heap) : Prop :=
  (∃ fn, P.funcs[f]? = some fn ∧ (fn.name == "runtime.NumGoroutine") = false ∧ fn.body.isNone = false) ∧
  ∀ ρ w xs, Sim B ρ k w → All2 (VRel ρ) args xs →
    Calls P f xs.toArray w fun e w' => ∃ x ρ', e = .returned x ∧ VRel ρ' v x ∧ Ext ρ ρ' ∧ Below B w w' ∧ Sim B ρ' k' w'

inductive Step1 (P : Program) (B : Nat) (st : AStep) : Frm → Heap → Frm → Heap → Prop
  | off {fr k} : gon fr st.g = some false → Step1 P B st fr k (putO fr st.dst (some .undef)) k
  | pure {fr k v} : gon fr st.g = some true → evP (ev fr) st.op = some v → Step1 P B st fr k (putO fr st.dst (some v)) k
  | read {fr k v} : gon fr st.g = some true → evR (ev fr) k st.op = some v → Step1 P B st fr k (putO fr st.dst (some v)) k
  | new {fr k n v oo} : gon fr st.g = some true → k n = none → 2 ≤ n → evA (ev fr) n st.op = some (v, oo) → Step1 P B st fr k (putO fr st.dst (some v)) (match oo with | none => k | some o => upd k n o)
  | write {fr k n ov k' n'} : gon fr st.g = some true → k n = none → 2 ≤ n → evH (ev fr) k n st.op = some (ov, k', n') → Step1 P B st fr k (putO fr st.dst ov) k'
  | call {fr k f args fn vs v k'} : gon fr st.g = some true → st.op = .call f args → callee fr f args = some (fn, vs) → CallK P B fn vs k v k' → Step1 P B st fr k (putO fr st.dst (some v)) k'

theorem evs_rel {ρ : Rho} {fr : Frm} {e : Operand → Value} (hop : OpsIn ρ (ev fr) e) : ∀ {xs : List Operand} {ys : List Opd} {vs : List AV}, cOpds xs = some ys → evs fr ys = some vs → All2 (VRel ρ) vs (xs.map e)
  | [], ys, vs, h1, h2 => by simp only [cOpds, Option.some.injEq] at h1; subst h1; simp only [evs, Option.some.injEq] at h2; subst h2; exact .nil
  | x :: r, ys, vs, h1, h2 => by
    simp only [cOpds, Option.bind_eq_some_iff, Option.map_eq_some_iff] at h1
    obtain ⟨y, hy, l, hl, rfl⟩ := h1
    simp only [evs, Option.bind_eq_some_iff, Option.map_eq_some_iff] at h2
    obtain ⟨v, hv, m, hm, rfl⟩ := h2
    exact .cons (hop.rel _ _ _ hy hv) (evs_rel hop hl hm)

theorem run_callFunc {P : Program} {w : World} {f : Nat} {fn : Func} {args : Array Value} (h1 : P.funcs[f]? = some fn) (h2 : (fn.name == "runtime.NumGoroutine") = false) (h3 : fn.body.isNone = false) :
    (callFunc f args).run P w = .ok (.enter f args) w := by
  have h3' : fn.body ≠ none := by cases hb : fn.body <;> simp [hb] at h3 ⊢
  have h2' : fn.name ≠ "runtime.NumGoroutine" := by simpa using h2
  simp [callFunc, h1, h2', h3']

theorem call_vals {P : Program} {ρ : Rho} {fr : Frm} {a : Act} (hop : OpsIn ρ (ev fr) a.eval) {o : Oper} {f : Opd} {args : List Opd} {n : Nat} {vs : List AV} {w : World}
    (hc : cOp P o.op = some (.call f args)) (hv : callee fr f args = some (n, vs)) {fn : Func} (h1 : P.funcs[n]? = some fn) (h2 : (fn.name == "runtime.NumGoroutine") = false) (h3 : fn.body.isNone = false) :
    ∃ xs : List Value, All2 (VRel ρ) vs xs ∧ (execOp a.eval o).run P w = .ok (.enter n xs.toArray) w := by
  obtain ⟨c, u, ho, hcal, hu, hargs⟩ := inv_call hc
  unfold callee at hv
  simp only [Option.bind_eq_some_iff] at hv
  obtain ⟨fv, hf, avs, hav, hv⟩ := hv
  have hfr := hop.rel _ _ _ hu hf
  have hall := evs_rel hop hargs hav
  have hmap : c.args.map a.eval = (c.args.toList.map a.eval).toArray := by rw [← Array.toList_map]
  split at hv
  · rename_i m caps
    simp only [Option.some.injEq, Prod.mk.injEq] at hv
    obtain ⟨rfl, rfl⟩ := hv
    have hcf := hfr.c_inv
    generalize hfe : a.eval u = fval at hcf
    cases hcf with
    | fn hcaps =>
      rename_i cvs
      have hcaps' : All2 (VRel ρ) (caps.map fun p => AV.c (.ptr p.1 p.2)) cvs := by
        clear hfe hfr hf
        induction hcaps with
        | nil => exact .nil
        | cons h _ ih => obtain ⟨L, hL, rfl⟩ := h; exact .cons (.p (.c (.ptr hL))) ih
      refine ⟨_, hall.append hcaps', ?_⟩
      simp [execOp, ho, resolve, hcal, hfe, Deferred.ofValue, invoke, run_callFunc h1 h2 h3, hmap]
  · rename_i m first
    simp only [Option.some.injEq, Prod.mk.injEq] at hv
    obtain ⟨rfl, rfl⟩ := hv
    generalize hfe : a.eval u = fval at hfr
    cases hfr with
    | bfn hfirst =>
      rename_i fvs
      have hfirst' : All2 (VRel ρ) (first.map AV.p) fvs := by
        clear hfe hf
        induction hfirst with
        | nil => exact .nil
        | cons h _ ih => exact .cons (.p h) ih
      refine ⟨_, hfirst'.append hall, ?_⟩
      simp [execOp, ho, resolve, hcal, hfe, Deferred.ofValue, invoke, run_callFunc h1 h2 h3, hmap]
  · cases hv

/-- The step of one of the model's operations. -/
structure StepOf (P : Program) (nt : Nat) (ops : Array Oper) (i : Nat) (st : AStep) : Prop where
  ex : ∃ o, ops[i]? = some o ∧ dstOk nt o.dst = true ∧ st.dst = o.dst ∧ (cOp P o.op = some st.op ∨ st.op = .bad) ∧ guardSlot ops o.guard = some st.g

theorem wanted_of {P : Program} {ρ : Rho} {nt : Nat} {ops : Array Oper} {o : Oper} {fr : Frm} {a : Act} {g : Option (Nat × Bool)} {b : Bool} (hf : FRel ρ nt fr a) (hg : guardSlot ops o.guard = some g) (hb : gon fr g = some b) :
    Region.wanted o (yielded ops a.tmps) = b := by
  unfold Region.wanted
  cases hog : o.guard with
  | none =>
    rw [hog] at hg; simp only [guardSlot, Option.some.injEq] at hg; subst hg
    simp only [gon, Option.some.injEq] at hb; exact hb
  | some jw =>
    obtain ⟨j, want⟩ := jw
    rw [hog] at hg
    simp only [guardSlot, Option.map_eq_some_iff, Option.some.injEq] at hg
    obtain ⟨d, hd, rfl⟩ := hg
    simp only [gon, Option.bind_eq_some_iff] at hb
    obtain ⟨v, hv, hb⟩ := hb
    obtain ⟨x, h1, h2⟩ := hf.val d v hv
    have key : (asB v).map (· == want) = some b → (yielded ops a.tmps j == some want) = b := fun hb => by
      simp only [Option.map_eq_some_iff] at hb
      obtain ⟨t, ht, rfl⟩ := hb
      have := h2.asB ht
      subst this
      simp only [yielded, hd, Option.bind_some, h1]
      cases t <;> cases want <;> rfl
    cases v with
    | undef =>
      obtain rfl := Option.some.inj hb
      cases h2
      simp only [yielded, hd, Option.bind_some, h1]
      rfl
    | p y => exact key hb
    | tup y => exact key hb
    | bfn f y => exact key hb

theorem bad_no {g : Opd → Option AV} {h : Heap} {n : Nat} : evP g .bad = none ∧ evR g h .bad = none ∧ evA g n .bad = none ∧ evH g h n .bad = none := ⟨rfl, rfl, rfl, rfl⟩

theorem step1_sound {P : Program} {B nt : Nat} {ops : Array Oper} {i : Nat} {st : AStep} (hst : StepOf P nt ops i st) {fr fr' : Frm} {k k' : Heap} (h : Step1 P B st fr k fr' k')
    {ρ : Rho} {a : Act} {w : World} (hf : FRel ρ nt fr a) (hs : Sim B ρ k w) {Q : Exit → Act → World → Prop} {K : Act → World → Prop}
    (hK : ∀ ρ' a' w', Ext ρ ρ' → Below B w w' → FRel ρ' nt fr' a' → Sim B ρ' k' w' → K a' w') : wpOp P ops Q i K a w := by
  obtain ⟨o, ho, hd, hdst, hop, hg⟩ := hst.ex
  rw [← hdst] at hd
  unfold wpOp
  simp only [ho]
  have bad : st.op ≠ .bad → cOp P o.op = some st.op := fun hb => hop.resolve_right hb
  cases h with
  | off h1 =>
    rw [wanted_of (P := P) hf hg h1]
    simp only [Bool.false_eq_true, if_false]
    rw [← hdst]
    exact hK ρ _ _ (Ext.refl ρ) (Below.refl B w) (hf.put hd (fun v hv => by cases hv; exact .undef)) hs
  | pure h1 h2 =>
    rw [wanted_of (P := P) hf hg h1]
    simp only [if_true]
    refine .inl ?_
    obtain ⟨r, hr, hv⟩ := evP_sound (w := w) hf.ops (bad (fun e => by rw [e] at h2; cases h2)) h2
    simp only [Oper.wp, hr, Oper.upon]
    rw [← hdst]
    exact hK ρ _ _ (Ext.refl ρ) (Below.refl B w) (hf.put hd (fun v hv' => by cases hv'; exact hv)) hs
  | read h1 h2 =>
    rw [wanted_of (P := P) hf hg h1]
    simp only [if_true]
    refine .inl ?_
    obtain ⟨r, hr, hv⟩ := evR_sound hf.ops hs (bad (fun e => by rw [e] at h2; cases h2)) h2
    simp only [Oper.wp, hr, Oper.upon]
    rw [← hdst]
    exact hK ρ _ _ (Ext.refl ρ) (Below.refl B w) (hf.put hd (fun v hv' => by cases hv'; exact hv)) hs
  | new h1 hn h2n h2 =>
    rw [wanted_of (P := P) hf hg h1]
    simp only [if_true]
    refine .inl ?_
    rename_i n v oo
    obtain ⟨r, w', ρ', hr, he, hb, hv, hs'⟩ := evA_sound hf.ops hs hn h2n (bad (fun e => by rw [e] at h2; cases h2)) h2
    simp only [Oper.wp, hr, Oper.upon]
    rw [← hdst]
    refine hK ρ' _ _ he hb ((hf.mono he).put hd (fun v hv' => by cases hv'; exact hv)) ?_
    cases oo <;> exact hs'
  | write h1 hn h2n h2 =>
    rw [wanted_of (P := P) hf hg h1]
    simp only [if_true]
    refine .inl ?_
    rename_i n ov n'
    obtain ⟨x, w', ρ', hr, hv, he, hb, hs'⟩ := evH_sound hf.ops hs hn h2n (bad (fun e => by rw [e] at h2; cases h2)) h2
    simp only [Oper.wp, hr]
    cases ov with
    | none =>
      simp only at hv; subst hv
      simp only [Oper.upon]
      rw [← hdst]
      exact hK ρ' _ _ he hb ((hf.mono he).put hd (by simp)) hs'
    | some v =>
      obtain ⟨r, rfl, hv⟩ := hv
      simp only [Oper.upon]
      rw [← hdst]
      exact hK ρ' _ _ he hb ((hf.mono he).put hd (fun u hu => by cases hu; exact hv)) hs'
  | call h1 h2 h3 h4 =>
    rw [wanted_of (P := P) hf hg h1]
    simp only [if_true]
    refine .inl ?_
    obtain ⟨⟨fn, q1, q2, q3⟩, h5⟩ := h4
    have hc := bad (fun e => by rw [e] at h2; cases h2)
    rw [h2] at hc
    obtain ⟨xs, hxs, hr⟩ := call_vals (w := w) hf.ops hc h3 q1 q2 q3
    simp only [Oper.wp, hr, Oper.upon]
    refine (h5 ρ w xs hs hxs).mono fun e w' => ?_
    rintro ⟨x, ρ', rfl, hv, he, hb, hs'⟩
    simp only
    rw [← hdst]
    exact hK ρ' _ _ he hb ((hf.mono he).put hd (fun u hu => by cases hu; exact hv)) hs'

/-! ### heaps that know more -/
def mrg (h k : Heap) (m : Nat) : Heap := fun id => if id < m then h id else k id
def Agree (h k : Heap) (m : Nat) : Prop := ∀ id, id < m → k id = h id

theorem St.WF.none {s : St} (hw : s.WF) {id : Nat} (h : s.n ≤ id) : s.h id = none := hw.1 id h

theorem mrg_self {s : St} {k : Heap} (h : Agree s.h k s.n) : mrg s.h k s.n = k := by
  funext id; unfold mrg; split
  · rename_i hlt; exact (h id hlt).symm
  · rfl

end Go.Proofs.Ytlmbgaoeplffkaa

/- What an operation does to one heap it does to every heap that knows more. -/
namespace Go.Proofs.Ytlmbgaoeplffkaa
open Go Go.RowKit
set_option linter.unusedVariables false
set_option linter.unusedSimpArgs false

def target (g : Opd → Option AV) : AOp → Option Nat
  | .load _ _ x => ((g x).bind asPtr).map (·.1)
  | .mlen x | .lookup _ _ _ x _ => (g x).bind asMp
  | .bstr x => ((g x).bind asSl).bind fun p => if p.1 ≤ 1 then none else some p.1
  | _ => none

theorem evR_dep {g : Opd → Option AV} {h : Heap} {op : AOp} {v : AV} (hv : evR g h op = some v) :
    ∃ id, target g op = some id ∧ h id ≠ none ∧ ∀ k : Heap, k id = h id → evR g k op = some v := by
  cases op with
  | load ag s x =>
    simp only [evR, Option.bind_eq_some_iff] at hv
    obtain ⟨u, h1, ⟨id, off⟩, h2, h3⟩ := hv
    refine ⟨id, by simp [target, h1, h2], ?_, fun k hk => ?_⟩
    · intro hn
      simp [cellsAt, cellsOf, hn] at h3
    · simp only [evR, h1, h2, Option.bind_some, cellsAt, cellsOf, hk]
      exact h3
  | mlen x =>
    simp only [evR, Option.bind_eq_some_iff] at hv
    obtain ⟨u, h1, id, h2, h3⟩ := hv
    refine ⟨id, by simp [target, h1, h2], ?_, fun k hk => ?_⟩
    · intro hn; simp [hn] at h3
    · simp only [evR, h1, h2, Option.bind_some, hk]; exact h3
  | bstr x =>
    simp only [evR, Option.bind_eq_some_iff] at hv
    obtain ⟨u, h1, ⟨id, off, len⟩, h2, h3⟩ := hv
    simp only at h3
    split at h3
    · cases h3
    rename_i hid
    refine ⟨id, by simp [target, h1, h2]; omega, ?_, fun k hk => ?_⟩
    · intro hn; simp [cellsAt, cellsOf, hn] at h3
    · simp only [evR, h1, h2, Option.bind_some, cellsAt, cellsOf, hk]
      rw [if_neg hid]
      simp only [cellsAt, cellsOf] at h3; exact h3
  | lookup ks ok z x y =>
    simp only [evR, Option.bind_eq_some_iff] at hv
    obtain ⟨u, h1, id, h2, u', h4, key, h5, h3⟩ := hv
    refine ⟨id, by simp [target, h1, h2], ?_, fun k hk => ?_⟩
    · intro hn; simp [hn] at h3
    · simp only [evR, h1, h2, h4, h5, Option.bind_some, hk]; exact h3
  | _ => simp [evR] at hv

theorem srcCells_more {h k : Heap} (ha : ∀ id, h id ≠ none → k id = h id) {esz : Nat} {q : Nat × Nat × Nat} {cs : List AC} (hc : srcCells h esz q = some cs) : srcCells k esz q = some cs := by
  obtain ⟨id, off, len⟩ := q
  simp only [srcCells] at hc ⊢
  split
  · rename_i h1; rw [if_pos h1] at hc; exact hc
  · rename_i h1
    rw [if_neg h1] at hc
    have : h id ≠ none := fun hn => by simp [cellsAt, cellsOf, hn] at hc
    simp only [cellsAt, cellsOf, ha id this]; exact hc

inductive Shape (g : Opd → Option AV) (op : AOp) (h : Heap) (n : Nat) (ov : Option AV) : Heap → Nat → Prop
  | same : (∀ (k : Heap) (m : Nat), (∀ id, h id ≠ none → k id = h id) → evH g k m op = some (ov, k, m)) → Shape g op h n ov h n
  | put (p : Nat) (o : AObj) : h p ≠ none → (∀ (k : Heap) (m : Nat), (∀ id, h id ≠ none → k id = h id) → evH g k m op = some (ov, upd k p o, m)) → Shape g op h n ov (upd h p o) n
  | new (o : AObj) : (∀ k : Heap, (∀ id, h id ≠ none → k id = h id) → evH g k n op = some (ov, upd k n o, n + 1)) → Shape g op h n ov (upd h n o) (n + 1)
  | move (p : Nat) (o : AObj) : h p ≠ none → (∀ k : Heap, (∀ id, h id ≠ none → k id = h id) → evH g k n op = some (ov, upd (upd k p .dead) n o, n + 1)) → Shape g op h n ov (upd (upd h p .dead) n o) (n + 1)

theorem evH_shape {g : Opd → Option AV} {h h' : Heap} {n n' : Nat} {op : AOp} {ov : Option AV} (hv : evH g h n op = some (ov, h', n')) : Shape g op h n ov h' n' := by
  cases op with
  | store size x v =>
    simp only [evH, Option.bind_eq_some_iff] at hv
    obtain ⟨u, h1, ⟨id, off⟩, h2, u2, h3, q, h4, hv⟩ := hv
    simp only at hv
    split at hv
    · rename_i t esz cs hid
      split at hv
      · rename_i hb
        simp only [Option.some.injEq, Prod.mk.injEq] at hv
        obtain ⟨rfl, rfl, rfl⟩ := hv
        refine .put id _ (by simp [hid]) fun k m hk => ?_
        simp only [evH, h1, h2, h3, h4, Option.bind_some, hk id (by simp [hid]), hid]
        rw [if_pos hb]
      · cases hv
    · cases hv
  | append t esz b s x =>
    simp only [evH, Option.bind_eq_some_iff] at hv
    obtain ⟨u, h1, ⟨id, off, len⟩, h2, u2, h3, q, h4, news, h5, hv⟩ := hv
    simp only at hv
    split at hv
    · rename_i hb
      split at hv
      · rename_i hi
        split at hv
        · rename_i hl
          split at hv
          · rename_i hq
            simp only [Option.some.injEq, Prod.mk.injEq] at hv
            obtain ⟨rfl, rfl, rfl⟩ := hv
            refine .same fun k m hk => ?_
            simp only [evH, h1, h2, h3, h4, Option.bind_some, srcCells_more hk h5]
            rw [if_pos hb, if_pos hi, if_pos hl, if_pos hq]
          · rename_i hq
            simp only [Option.some.injEq, Prod.mk.injEq] at hv
            obtain ⟨rfl, rfl, rfl⟩ := hv
            refine .new _ fun k hk => ?_
            simp only [evH, h1, h2, h3, h4, Option.bind_some, srcCells_more hk h5]
            rw [if_pos hb, if_pos hi, if_pos hl, if_neg hq]
        · cases hv
      · rename_i hi
        split at hv
        · rename_i t' esz' cs hid
          split at hv
          · rename_i hc
            simp only [Option.some.injEq, Prod.mk.injEq] at hv
            obtain ⟨rfl, rfl, rfl⟩ := hv
            refine .move id _ (by simp [hid]) fun k hk => ?_
            simp only [evH, h1, h2, h3, h4, Option.bind_some, srcCells_more hk h5, hk id (by simp [hid]), hid]
            rw [if_pos hb, if_neg hi, if_pos hc]
          · cases hv
        · cases hv
    · cases hv
  | copy esz d s =>
    simp only [evH, Option.bind_eq_some_iff] at hv
    obtain ⟨u, h1, ⟨id, off, len⟩, h2, u2, h3, ⟨id', off', len'⟩, h4, hv⟩ := hv
    simp only at hv
    split at hv
    · rename_i hi
      split at hv
      · rename_i hl
        simp only [Option.some.injEq, Prod.mk.injEq] at hv
        obtain ⟨rfl, rfl, rfl⟩ := hv
        refine .same fun k m hk => ?_
        simp only [evH, h1, h2, h3, h4, Option.bind_some]
        rw [if_pos hi, if_pos hl]
      · cases hv
    · rename_i hi
      simp only [Option.bind_eq_some_iff] at hv
      obtain ⟨news, h5, hv⟩ := hv
      split at hv
      · rename_i t' esz' cs hid
        split at hv
        · rename_i hc
          simp only [Option.some.injEq, Prod.mk.injEq] at hv
          obtain ⟨rfl, rfl, rfl⟩ := hv
          refine .put id _ (by simp [hid]) fun k m hk => ?_
          simp only [evH, h1, h2, h3, h4, Option.bind_some]
          rw [if_neg hi]
          simp only [srcCells_more hk h5, Option.bind_some, hk id (by simp [hid]), hid]
          rw [if_pos hc]
        · cases hv
      · cases hv
  | mapSet ks x y v =>
    simp only [evH, Option.bind_eq_some_iff] at hv
    obtain ⟨u, h1, id, h2, u2, h3, key, h4, u3, h5, val, h6, hv⟩ := hv
    split at hv
    · rename_i kv hid
      obtain ⟨kv', hkv, hv⟩ := Option.map_eq_some_iff.1 hv
      simp only [Prod.mk.injEq] at hv
      obtain ⟨rfl, rfl, rfl⟩ := hv
      refine .put id _ (by simp [hid]) fun k m hk => ?_
      simp only [evH, h1, h2, h3, h4, h5, h6, Option.bind_some, hk id (by simp [hid]), hid, hkv, Option.map_some]
    · cases hv
  | _ => simp [evH] at hv

/-! ### states -/
structure GoodSt (s s' : St) : Prop where
  wf : s'.WF
  le : s.n ≤ s'.n
theorem GoodSt.refl {s : St} (h : s.WF) : GoodSt s s := ⟨h, Nat.le_refl _⟩
theorem GoodSt.trans {a b c : St} (h : GoodSt a b) (k : GoodSt b c) : GoodSt a c := ⟨k.wf, Nat.le_trans h.le k.le⟩

theorem lt_of_some {s : St} (hw : s.WF) {id : Nat} (h : s.h id ≠ none) : id < s.n := by
  rcases Nat.lt_or_ge id s.n with h' | h'
  · exact h'
  · exact absurd (hw.1 id h') h

theorem Agree.more {s : St} (hw : s.WF) {k : Heap} {m : Nat} (hm : s.n ≤ m) (h : Agree s.h k m) : ∀ id, s.h id ≠ none → k id = s.h id :=
  fun id hid => h id (Nat.lt_of_lt_of_le (lt_of_some hw hid) hm)

theorem evH_good {g : Opd → Option AV} {s : St} {h' : Heap} {n' : Nat} {op : AOp} {ov : Option AV} (hw : s.WF) (hv : evH g s.h s.n op = some (ov, h', n')) : GoodSt s ⟨h', n'⟩ := by
  have hsh := evH_shape hv
  have h2 := hw.2
  cases hsh with
  | same _ => exact .refl hw
  | put p o hp _ =>
    have hlt := lt_of_some hw hp
    refine ⟨⟨fun id hid => ?_, hw.2⟩, Nat.le_refl _⟩
    simp only at hid ⊢
    rw [upd_ne _ _ _ _ (by omega)]; exact hw.1 id hid
  | new o _ =>
    refine ⟨⟨fun id hid => ?_, by simp only; omega⟩, Nat.le_succ _⟩
    simp only at hid ⊢
    rw [upd_ne _ _ _ _ (by omega)]; exact hw.1 id (by omega)
  | move p o hp _ =>
    have hlt := lt_of_some hw hp
    refine ⟨⟨fun id hid => ?_, by simp only; omega⟩, Nat.le_succ _⟩
    simp only at hid ⊢
    rw [upd_ne _ _ _ _ (by omega), upd_ne _ _ _ _ (by omega)]; exact hw.1 id (by omega)

def Bnd (k : Heap) : Prop := ∃ m, ∀ id, m ≤ id → k id = none
theorem Bnd.fresh {k : Heap} (h : Bnd k) : ∃ m, k m = none ∧ 2 ≤ m := let ⟨m, hm⟩ := h; ⟨m + 2, hm _ (by omega), by omega⟩
theorem Bnd.upd {k : Heap} (h : Bnd k) (p : Nat) (o : AObj) : Bnd (upd k p o) := by
  obtain ⟨m, hm⟩ := h
  refine ⟨max m (p + 1), fun id hid => ?_⟩
  rw [upd_ne _ _ _ _ (by omega)]; exact hm id (by omega)
theorem Bnd.mrg {k h : Heap} (hb : Bnd k) (n : Nat) : Bnd (mrg h k n) := by
  obtain ⟨m, hm⟩ := hb
  refine ⟨max m n, fun id hid => ?_⟩
  simp only [Proofs.Ytlmbgaoeplffkaa.mrg]; rw [if_neg (by omega)]; exact hm id (by omega)

theorem evH_lift {g : Opd → Option AV} {s : St} {h' k : Heap} {n' : Nat} {op : AOp} {ov : Option AV} (hw : s.WF) (hv : evH g s.h s.n op = some (ov, h', n')) (hb : Bnd k) (ha : Agree s.h k n') :
    ∃ m n2, k m = none ∧ 2 ≤ m ∧ evH g k m op = some (ov, mrg h' k n', n2) := by
  have hgood := evH_good hw hv
  have hsh := evH_shape hv
  have hn := hw.1 s.n (Nat.le_refl _)
  have hm := ha.more hw hgood.le
  cases hsh with
  | same hk =>
    obtain ⟨m, h1, h2⟩ := hb.fresh
    refine ⟨m, m, h1, h2, ?_⟩
    rw [hk k m hm]
    rw [show mrg s.h k s.n = k from mrg_self ha]
  | put p o hp hk =>
    obtain ⟨m, h1, h2⟩ := hb.fresh
    refine ⟨m, m, h1, h2, ?_⟩
    have hlt := lt_of_some hw hp
    rw [hk k m hm]
    congr 3
    funext id; unfold mrg upd
    by_cases h1 : id < s.n
    · simp only [h1, if_true]; rw [ha id h1]
    · simp only [h1, if_false]; rw [if_neg (by omega)]
  | new o hk =>
    refine ⟨s.n, s.n + 1, by rw [ha _ (Nat.lt_succ_self _)]; exact hn, hw.2, ?_⟩
    rw [hk k hm]
    congr 3
    funext id; unfold mrg upd
    by_cases h1 : id < s.n + 1
    · simp only [h1, if_true]; rw [ha id h1]
    · simp only [h1, if_false]; rw [if_neg (by omega)]
  | move p o hp hk =>
    refine ⟨s.n, s.n + 1, by rw [ha _ (Nat.lt_succ_self _)]; exact hn, hw.2, ?_⟩
    have hlt := lt_of_some hw hp
    rw [hk k hm]
    congr 3
    funext id; unfold mrg upd
    by_cases h1 : id < s.n + 1
    · simp only [h1, if_true]; rw [ha id h1]
    · simp only [h1, if_false]; rw [if_neg (by omega), if_neg (by omega)]

theorem new_good {s : St} (hw : s.WF) (oo : Option AObj) : GoodSt s (s.new oo) := by
  cases oo with
  | none => exact .refl hw
  | some o =>
    refine ⟨⟨fun id hid => ?_, ?_⟩, Nat.le_succ _⟩
    · simp only [St.new] at hid ⊢
      rw [upd_ne _ _ _ _ (by omega)]; exact hw.1 id (by omega)
    · have := hw.2; simp only [St.new]; omega
theorem new_mrg {s : St} (hw : s.WF) {oo : Option AObj} {k : Heap} (ha : Agree s.h k (s.new oo).n) :
    mrg (s.new oo).h k (s.new oo).n = (match oo with | none => k | some o => upd k s.n o) := by
  cases oo with
  | none => exact mrg_self ha
  | some o =>
    funext id; simp only [St.new, mrg, upd] at ha ⊢
    by_cases h1 : id < s.n + 1
    · simp only [h1, if_true]; rw [ha id h1]
    · simp only [h1, if_false]; rw [if_neg (by omega)]

/-- Where nothing is laid any number will do. -/
theorem evA_none {g : Opd → Option AV} {n : Nat} {op : AOp} {v : AV} (h2 : evA g n op = some (v, none)) (m : Nat) : evA g m op = some (v, none) := by
  cases op with
  | buildS t esz len z ps =>
    simp only [evA] at h2 ⊢
    split at h2
    · rename_i hl; rw [if_pos hl]; exact h2
    · obtain ⟨cs, _, h3⟩ := Option.map_eq_some_iff.1 h2; simp at h3
  | alloc t z => simp [evA] at h2
  | box t x =>
    simp only [evA, Option.bind_eq_some_iff, Option.map_eq_some_iff] at h2
    obtain ⟨_, _, _, _, h3⟩ := h2; simp at h3
  | makeS t esz b z x c =>
    simp only [evA, Option.bind_eq_some_iff] at h2
    obtain ⟨_, _, _, _, _, _, _, _, h3⟩ := h2
    split at h3
    · simp at h3
    · cases h3
  | mkMap => simp [evA] at h2
  | _ => simp [evA] at h2
end Go.Proofs.Ytlmbgaoeplffkaa

/- Whatever abstract code does, the model's code does. -/
namespace Go.Proofs.Ytlmbgaoeplffkaa
open Go Go.RowKit
set_option linter.unusedVariables false
set_option linter.unusedSimpArgs false

/-- What a call does, whatever else the heap knows. -/
def CallSem (P : Program) (B f : Nat) (args : List AV) (s : St) (v : AV) (s1 : St) : Prop :=
  s.WF → GoodSt s s1 ∧ ∀ k, Bnd k → Agree s.h k s1.n → CallK P B f args k v (mrg s1.h k s1.n)

inductive CStep (P : Program) (B : Nat) (st : AStep) (hist : List Heap) (fr : Frm) (s : St) : List Heap → Frm → St → Prop
  | off : gon fr st.g = some false → CStep P B st hist fr s (if kindOf st.op = .h then hist ++ [s.h] else hist) (putO fr st.dst (some .undef)) s
  | pure {v} : gon fr st.g = some true → evP (ev fr) st.op = some v → CStep P B st hist fr s hist (putO fr st.dst (some v)) s
  | read {v} : gon fr st.g = some true → evR (ev fr) s.h st.op = some v → (∀ k ∈ st.chk, ∃ hk, hist[k]? = some hk ∧ evR (ev fr) hk st.op = some v) → CStep P B st hist fr s hist (putO fr st.dst (some v)) s
  | new {v oo} : gon fr st.g = some true → evA (ev fr) s.n st.op = some (v, oo) → CStep P B st hist fr s hist (putO fr st.dst (some v)) (s.new oo)
  | write {ov h' n'} : gon fr st.g = some true → evH (ev fr) s.h s.n st.op = some (ov, h', n') → CStep P B st hist fr s (hist ++ [s.h]) (putO fr st.dst ov) ⟨h', n'⟩
  | call {f args fn vs v s1} : gon fr st.g = some true → st.op = .call f args → callee fr f args = some (fn, vs) → CallSem P B fn vs s v s1 → CStep P B st hist fr s (hist ++ [s.h]) (putO fr st.dst (some v)) s1

inductive Tr (P : Program) (B : Nat) : List AStep → List Heap → Frm → St → Frm → St → Prop
  | nil {hist fr s} : Tr P B [] hist fr s fr s
  | cons {st l hist fr s hist1 fr1 s1 fr' s'} : CStep P B st hist fr s hist1 fr1 s1 → Tr P B l hist1 fr1 s1 fr' s' → Tr P B (st :: l) hist fr s fr' s'

section
variable {P : Program} {B : Nat}

theorem CStep.good {st : AStep} {hist hist1 : List Heap} {fr fr1 : Frm} {s s1 : St} (hw : s.WF) (h : CStep P B st hist fr s hist1 fr1 s1) : GoodSt s s1 := by
  cases h with
  | off _ => exact .refl hw
  | pure _ _ => exact .refl hw
  | read _ _ _ => exact .refl hw
  | new _ _ => exact new_good hw _
  | write _ h => exact evH_good hw h
  | call _ _ _ h => exact (h hw).1

theorem CStep.lift {st : AStep} {hist hist1 : List Heap} {fr fr1 : Frm} {s s1 : St} (hw : s.WF) (h : CStep P B st hist fr s hist1 fr1 s1) {k : Heap} (hb : Bnd k) (ha : Agree s.h k s1.n) :
    Step1 P B st fr k fr1 (mrg s1.h k s1.n) := by
  cases h with
  | off h1 => rw [mrg_self ha]; exact .off h1
  | pure h1 h2 => rw [mrg_self ha]; exact .pure h1 h2
  | read h1 h2 _ =>
    rw [mrg_self ha]
    obtain ⟨id, _, hne, hk⟩ := evR_dep h2
    exact .read h1 (hk k (ha.more hw (Nat.le_refl _) id hne))
  | new h1 h2 =>
    rw [new_mrg hw ha]
    rename_i v oo
    cases oo with
    | none =>
      -- nothing is laid: any number will do
      obtain ⟨m, hm, h2m⟩ := hb.fresh
      have : evA (ev fr) m st.op = some (v, none) := evA_none h2 m
      exact .new h1 hm h2m this
    | some o => exact .new h1 (by rw [ha s.n (Nat.lt_succ_self _)]; exact hw.1 _ (Nat.le_refl _)) hw.2 h2
  | write h1 h2 =>
    obtain ⟨m, n2, q1, q2, q3⟩ := evH_lift hw h2 hb ha
    exact .write h1 q1 q2 q3
  | call h1 h2 h3 h4 => exact .call h1 h2 h3 ((h4 hw).2 k hb ha)

theorem Tr.good {l : List AStep} {hist : List Heap} {fr fr' : Frm} {s s' : St} (h : Tr P B l hist fr s fr' s') : s.WF → GoodSt s s' := by
  induction h with
  | nil => exact fun hw => .refl hw
  | cons h1 _ ih => exact fun hw => (h1.good hw).trans (ih (h1.good hw).wf)

/-- The heap of a later state, told on a heap that knew more. -/
theorem mrg_agree {s s1 : St} (hg : GoodSt s s1) (hw : s.WF) {k : Heap} {m : Nat} (hm : s1.n ≤ m) (ha : Agree s.h k m) : Agree s1.h (mrg s1.h k s1.n) m := by
  intro id hid
  unfold mrg
  split
  · rfl
  · rename_i h
    rw [ha id hid, hw.1 id (by have := hg.le; omega), hg.wf.1 id (by omega)]
theorem mrg_mrg {s1 s2 : St} (hle : s1.n ≤ s2.n) (k : Heap) : mrg s2.h (mrg s1.h k s1.n) s2.n = mrg s2.h k s2.n := by
  funext id; unfold mrg
  by_cases h : id < s2.n
  · simp [h]
  · simp only [h, if_false]; rw [if_neg (by omega)]

theorem Tr.inOrder {nt : Nat} {ops : Array Oper} {Q : Exit → Act → World → Prop} {l : List AStep} {hist : List Heap} {fr fr' : Frm} {s s' : St} (h : Tr P B l hist fr s fr' s') :
    ∀ (is : List Nat), All2 (fun st i => StepOf P nt ops i st) l is → s.WF → ∀ k, Bnd k → Agree s.h k s'.n → ∀ ρ a w, FRel ρ nt fr a → Sim B ρ k w →
      (∀ ρ' a' w', Ext ρ ρ' → Below B w w' → FRel ρ' nt fr' a' → Sim B ρ' (mrg s'.h k s'.n) w' → Q .normal a' w') → wpOps P ops Q is a w := by
  induction h with
  | nil =>
    intro is his hw k hb ha ρ a w hf hs hQ
    cases his
    rw [mrg_self ha] at hQ
    exact hQ ρ a w (Ext.refl ρ) (Below.refl B w) hf hs
  | cons h1 ht ih =>
    intro is his hw k hb ha ρ a w hf hs hQ
    rename_i st l hist fr s hist1 fr1 s1 fr' s'
    cases his with
    | cons hst hr =>
      rename_i i is
      rw [wpOps_cons]
      have hg := h1.good hw
      have hg' := ht.good hg.wf
      refine step1_sound hst (h1.lift hw hb (fun id hid => ha id (Nat.lt_of_lt_of_le hid hg'.le))) hf hs fun ρ' a' w' he hbl hf' hs' => ?_
      refine ih is hr hg.wf _ (hb.mrg _) (mrg_agree hg hw hg'.le ha) ρ' a' w' hf' hs' fun ρ2 a2 w2 he2 hb2 hf2 hs2 => ?_
      rw [mrg_mrg hg'.le] at hs2
      exact hQ ρ2 a2 w2 (he.trans he2) (hbl.trans hb2) hf2 hs2

/-! ### code -/
theorem cStep_of {nt : Nat} {ops : Array Oper} {o : Oper} {st : AStep} {i : Nat} (hi : ops[i]? = some o) (h : cStep P nt ops o = some st) (c : List Nat) : StepOf P nt ops i { st with chk := c } := by
  unfold cStep at h
  split at h
  · rename_i hd
    obtain ⟨g, hg, rfl⟩ := Option.map_eq_some_iff.1 h
    refine ⟨o, hi, hd, rfl, ?_, hg⟩
    simp only
    cases hc : cOp P o.op with
    | none => exact .inr rfl
    | some ao => exact .inl rfl
  · cases h
theorem cSteps_all {nt : Nat} {ops : Array Oper} : ∀ {os : List Oper} {sts : List AStep}, cSteps P nt ops os = some sts → All2 (fun st o => cStep P nt ops o = some st) sts os
  | [], sts, h => by simp only [cSteps, Option.some.injEq] at h; subst h; exact .nil
  | o :: r, sts, h => by
    simp only [cSteps, Option.bind_eq_some_iff, Option.map_eq_some_iff] at h
    obtain ⟨st, h1, l, h2, rfl⟩ := h
    exact .cons h1 (cSteps_all h2)
theorem cSteps_range {nt : Nat} {ops : Array Oper} {sts : List AStep} (h : cSteps P nt ops ops.toList = some sts) : All2 (fun st i => StepOf P nt ops i st) sts (List.range ops.size) := by
  have ha := cSteps_all h
  have hl := ha.len
  refine All2.of_get (by simpa using hl) fun i st hi => ?_
  have hlt : i < sts.length := (List.getElem?_eq_some_iff.1 hi).1
  obtain ⟨o, ho, hst⟩ := ha.get i st hi
  refine ⟨i, by rw [List.getElem?_range]; simpa [hl] using hlt, ?_⟩
  exact cStep_of (by simpa using ho) hst st.chk

def exitOf : AOut → Exit
  | .normal => .normal
  | .exit id => .exit id
  | .ret => .ret

/-- 'wp', but a loop's is said of its head. -/
def wpI (P : Program) (c : Code) (Q : Exit → Act → World → Prop) (a : Act) (w : World) : Prop :=
  match c with
  | .loop c => ∀ (b : Frame) (k : List Item) (cs : List Frame), ∃ e a' w', Q e a' w' ∧ Arrives P (lone (b.at a (.code c :: .inLoop c :: k)) cs w) b k cs e a' w'
  | c => c.wp P Q a w
theorem wpI_wp {c : Code} {Q : Exit → Act → World → Prop} {a : Act} {w : World} (h : wpI P c Q a w) : c.wp P Q a w := by
  cases c with
  | loop c => exact fun b k cs => let ⟨e, a', w', hq, harr⟩ := h b k cs; ⟨e, a', w', hq, .of_steps (.one step_loop) harr⟩
  | _ => exact h

def CodeK (P : Program) (B nt : Nat) (cc : Code) (fr : Frm) (k : Heap) (o : AOut) (fr' : Frm) (k' : Heap) : Prop :=
  ∀ ρ w a, FRel ρ nt fr a → Sim B ρ k w → ∀ Q : Exit → Act → World → Prop, (∀ ρ' a' w', Ext ρ ρ' → Below B w w' → FRel ρ' nt fr' a' → Sim B ρ' k' w' → Q (exitOf o) a' w') → wpI P cc Q a w

def CodeSem (P : Program) (B : Nat) (c : ACode) (fr : Frm) (s : St) (o : AOut) (fr' : Frm) (s' : St) : Prop :=
  s.WF → GoodSt s s' ∧ ∀ live nt cc, cCode P live nt cc = some c → ∀ k, Bnd k → Agree s.h k s'.n → CodeK P B nt cc fr k o fr' (mrg s'.h k s'.n)

def Means (P : Program) (B : Nat) : Task → Res → Prop
  | .code c fr s, .out o fr' s' => CodeSem P B c fr s o fr' s'
  | .ops l hist fr s, .done fr' s' => Tr P B l hist fr s fr' s'
  | .call f args s, .ret v s' => CallSem P B f args s v s'
  | _, _ => True

def DrawnOk (P : Program) (B : Nat) : Prop :=
  ∀ nt ops sts fr s fr' s', cDraw P nt ops = some sts → Tr P B sts [] fr s fr' s' → s.WF → ∀ k, Bnd k → Agree s.h k s'.n → ∀ ρ a w, FRel ρ nt fr a → Sim B ρ k w → ∀ Q : Exit → Act → World → Prop,
    (∀ ρ' a' w', Ext ρ ρ' → Below B w w' → FRel ρ' nt fr' a' → Sim B ρ' (mrg s'.h k s'.n) w' → Q .normal a' w') → wpAny P .any ops Q ops.size (Array.replicate ops.size false) a w

/-- One result. -/
def oneRes (tmps : Array Value) : ResultVar → Sem Value
  | .tmp t => Pure.pure (tmps.getD t undef)
  | .cell p t => do loadVar t (← asAddr (tmps.getD p undef))

theorem resV_rel {ρ : Rho} {nt : Nat} {fr : Frm} {a : Act} {h : Heap} {w : World} (hf : FRel ρ nt fr a) (hs : Sim B ρ h w) {r : ResultVar} {ar : ARes} {v : AV} (hc : cRes P [r] = some [ar]) (hv : resV fr h ar = some v) :
    ∃ x, (oneRes a.tmps r).run P w = .ok x w ∧ VRel ρ v x := by
  cases r with
  | tmp t =>
    simp only [cRes, Option.map_some, Option.some.injEq, List.cons.injEq, and_true] at hc
    subst hc
    obtain ⟨x, h1, h2⟩ := hf.val t v hv
    exact ⟨x, by simp [oneRes, Array.getD_eq_getD_getElem?, h1], h2⟩
  | cell p t =>
    simp only [cRes, Option.bind_eq_some_iff, Option.map_some, Option.some.injEq, List.cons.injEq, and_true] at hc
    obtain ⟨g, hg, s, hsz, rfl⟩ := hc
    simp only [resV, Option.bind_eq_some_iff] at hv
    obtain ⟨u, h1, ⟨id, off⟩, h2, h3⟩ := hv
    obtain ⟨y, h4, h5⟩ := hf.val p u h1
    obtain ⟨L, hL, hp⟩ := h5.asPtr h2
    simp only at hL hp h3
    have hy : a.tmps.getD p undef = y := by simp [Array.getD_eq_getD_getElem?, h4]
    simp only [oneRes, hy, hp, asAddr, loadVar, Sem.run_bind, Sem.run_pure, Result.andThen_ok, run_isAgg hg]
    cases g with
    | true =>
      simp only [if_true, Option.map_eq_some_iff] at h3
      obtain ⟨cs, h4, rfl⟩ := h3
      obtain ⟨vs, h5, h6⟩ := cellsAt_read hs hL h4
      have hl : vs.length = s := by
        rw [← h5.len]
        unfold cellsAt cut at h4
        obtain ⟨all, _, h7⟩ := Option.bind_eq_some_iff.1 h4
        split at h7
        · obtain rfl := Option.some.inj h7; simp; omega
        · cases h7
      have := run_loadCells_list (P := P) w ⟨L.b, L.o + off, none⟩ vs (fun j v hv => by rw [add_lit]; exact h6 j v hv)
      rw [hl] at this
      exact ⟨_, by simp [run_sizeOf hsz, this], .p (.agg h5)⟩
    | false =>
      simp only [Bool.false_eq_true, if_false, Option.bind_eq_some_iff, Option.map_eq_some_iff] at h3
      obtain ⟨cs, h4, x, h5, rfl⟩ := h3
      obtain ⟨vs, h6, h7⟩ := cellsAt_read hs hL (cellsAt_one h4 h5)
      cases h6 with
      | @cons _ b _ bs h8 h9 =>
        have hb : w.cell? ⟨L.b, L.o + off, none⟩ = some b := by simpa using h7 0 b rfl
        exact ⟨b, by simp [run_load, hb], .p (.c h8)⟩

theorem cRes_cons {r : ResultVar} {rs : List ResultVar} {l : List ARes} (h : cRes P (r :: rs) = some l) : ∃ ar ars, l = ar :: ars ∧ cRes P [r] = some [ar] ∧ cRes P rs = some ars := by
  cases r with
  | tmp t =>
    simp only [cRes, Option.map_eq_some_iff] at h
    obtain ⟨ars, h1, rfl⟩ := h
    exact ⟨_, _, rfl, by simp [cRes], h1⟩
  | cell p t =>
    simp only [cRes, Option.bind_eq_some_iff, Option.map_eq_some_iff] at h
    obtain ⟨g, hg, s, hs, ars, h1, rfl⟩ := h
    exact ⟨_, _, rfl, by simp [cRes, hg, hs], h1⟩

theorem resPs_rel {ρ : Rho} {nt : Nat} {fr : Frm} {a : Act} {h : Heap} {w : World} (hf : FRel ρ nt fr a) (hs : Sim B ρ h w) : ∀ {rs : List ResultVar} {ars : List ARes} {ps : List AP}, cRes P rs = some ars → resPs fr h ars = some ps →
    ∃ xs : List Value, (rs.mapM (oneRes a.tmps)).run P w = .ok xs w ∧ All2 (PRel ρ) ps xs
  | [], ars, ps, h1, h2 => by
    simp only [cRes, Option.some.injEq] at h1; subst h1
    simp only [resPs, Option.some.injEq] at h2; subst h2
    exact ⟨[], by simp, .nil⟩
  | r :: rs, ars, ps, h1, h2 => by
    obtain ⟨ar, ars', rfl, h3, h4⟩ := cRes_cons h1
    simp only [resPs, Option.bind_eq_some_iff, Option.map_eq_some_iff] at h2
    obtain ⟨v, h5, p, h6, ps', h7, rfl⟩ := h2
    obtain ⟨x, h8, h9⟩ := resV_rel hf hs h3 h5
    obtain ⟨xs, h10, h11⟩ := resPs_rel hf hs h4 h7
    exact ⟨x :: xs, by simp [List.mapM_cons, Sem.run_bind, h8, h10], .cons (h9.asP h6) h11⟩

theorem results_rel {fn : Func} {ρ : Rho} {nt : Nat} {fr : Frm} {a : Act} {h : Heap} {w : World} (hf : FRel ρ nt fr a) (hs : Sim B ρ h w) {ars : List ARes} {v : AV} (hc : cRes P fn.results.toList = some ars) (hv : resultV fr h ars = some v) :
    ∃ x, (results fn a.tmps).run P w = .ok x w ∧ VRel ρ v x := by
  have he : results fn a.tmps = (do
      let vs ← fn.results.mapM (oneRes a.tmps)
      Pure.pure (if h : vs.size = 1 then vs[0] else .tuple vs)) := by
    unfold results
    congr 1
  rw [he, Array.mapM_eq_mapM_toList]
  generalize fn.results.toList = rs at *
  by_cases h1 : ∃ r, rs = [r]
  · obtain ⟨r, rfl⟩ := h1
    obtain ⟨ar, ars', rfl, h3, h4⟩ := cRes_cons hc
    simp only [cRes, Option.some.injEq] at h4; subst h4
    obtain ⟨x, h8, h9⟩ := resV_rel hf hs h3 hv
    exact ⟨x, by simp [List.mapM_cons, Sem.run_bind, h8], h9⟩
  · have hps : ∃ ps, resPs fr h ars = some ps ∧ v = .tup ps := by
      cases rs with
      | nil =>
        simp only [cRes, Option.some.injEq] at hc; subst hc
        simp only [resultV, resPs, Option.map_some, Option.some.injEq] at hv
        exact ⟨[], rfl, hv.symm⟩
      | cons r rs =>
        cases rs with
        | nil => exact absurd ⟨r, rfl⟩ h1
        | cons r2 rs =>
          obtain ⟨ar, ars', rfl, h3, h4⟩ := cRes_cons hc
          obtain ⟨ar2, ars2, rfl, h5, h6⟩ := cRes_cons h4
          simp only [resultV, Option.map_eq_some_iff] at hv
          obtain ⟨ps, h7, rfl⟩ := hv
          exact ⟨ps, h7, rfl⟩
    obtain ⟨ps, h2, rfl⟩ := hps
    obtain ⟨xs, h3, h4⟩ := resPs_rel hf hs hc h2
    have hne : ¬ xs.length = 1 := by
      intro hl
      have hrl : ∀ (rs : List ResultVar) (ars : List ARes), cRes P rs = some ars → ars.length = rs.length := by
        intro rs
        induction rs with
        | nil => intro ars h; simp only [cRes, Option.some.injEq] at h; subst h; rfl
        | cons r rs ih => intro ars h; obtain ⟨ar, ars', rfl, _, h'⟩ := cRes_cons h; simp [ih _ h']
      have hpl : ∀ (ars : List ARes) (ps : List AP), resPs fr h ars = some ps → ps.length = ars.length := by
        intro ars
        induction ars with
        | nil => intro ps h; simp only [resPs, Option.some.injEq] at h; subst h; rfl
        | cons r ars ih =>
          intro ps h
          simp only [resPs, Option.bind_eq_some_iff, Option.map_eq_some_iff] at h
          obtain ⟨_, _, _, _, ps', h', rfl⟩ := h
          simp [ih _ h']
      have := h4.len
      rw [hl, hpl _ _ h2, hrl _ _ hc] at this
      exact h1 (List.length_eq_one_iff.1 this)
    refine ⟨.tuple xs.toArray, ?_, .tup h4⟩
    simp [Sem.run_bind, h3, hne]

theorem get_frame0 : ∀ (l : List AV) (n i : Nat), get (frame0 n l) i = if n ≤ i then l[i - n]? else none
  | [], n, i => by simp [frame0, get]
  | v :: r, n, i => by
    simp only [frame0, get, get_frame0 r (n + 1) i]
    by_cases h : i = n
    · subst h; simp
    · rw [if_neg h]
      by_cases h2 : n ≤ i
      · rw [if_pos h2, if_pos (by omega)]
        rw [show i - n = (i - (n + 1)) + 1 by omega]; simp
      · rw [if_neg h2, if_neg (by omega)]

theorem frame0_rel {ρ : Rho} {vs : List AV} {xs : List Value} (h : All2 (VRel ρ) vs xs) (nt : Nat) : FRel ρ nt (frame0 0 vs) { tmps := xs.toArray ++ Array.replicate (nt - xs.toArray.size) undef, defers := [] } := by
  refine ⟨rfl, by simp; omega, fun i v hv => ?_⟩
  rw [get_frame0] at hv
  simp only [Nat.zero_le, if_true, Nat.sub_zero] at hv
  obtain ⟨x, h1, h2⟩ := h.get i v hv
  refine ⟨x, ?_, h2⟩
  have hlt := (List.getElem?_eq_some_iff.1 h1).1
  rw [Array.getElem?_append_left (by simpa using hlt)]
  simpa using h1
end
end Go.Proofs.Ytlmbgaoeplffkaa

/- Soundness: what abstract code does, the model's code does. -/
namespace Go.Proofs.Ytlmbgaoeplffkaa
open Go Go.RowKit
set_option linter.unusedVariables false
set_option linter.unusedSimpArgs false

section
variable {P : Program} {B : Nat} {live : Nat → List Nat} {nt : Nat} {cc : Code}

theorem code_skip (h : cCode P live nt cc = some .skip) : cc = .skip := by
  cases cc <;> simp only [cCode] at h <;> first
    | rfl
    | cases h
    | (split at h <;> obtain ⟨_, _, h⟩ := Option.map_eq_some_iff.1 h <;> cases h)
    | (simp only [Option.bind_eq_some_iff, Option.map_eq_some_iff] at h; simp at h)
theorem code_ret (h : cCode P live nt cc = some .ret) : cc = .ret := by
  cases cc <;> simp only [cCode] at h <;> first
    | rfl
    | cases h
    | (split at h <;> obtain ⟨_, _, h⟩ := Option.map_eq_some_iff.1 h <;> cases h)
    | (simp only [Option.bind_eq_some_iff, Option.map_eq_some_iff] at h; simp at h)
theorem code_exit {id : Nat} (h : cCode P live nt cc = some (.exit id)) : cc = .exit id := by
  cases cc <;> simp only [cCode] at h <;> first
    | (simp only [Option.some.injEq, ACode.exit.injEq] at h; rw [h])
    | cases h
    | (split at h <;> obtain ⟨_, _, h⟩ := Option.map_eq_some_iff.1 h <;> cases h)
    | (simp only [Option.bind_eq_some_iff, Option.map_eq_some_iff] at h; simp at h)
theorem code_ops {d : Bool} {l : List AStep} (h : cCode P live nt cc = some (.ops d l)) : ∃ id ops, cc = .region id ops d ∧ (if d then cDraw P nt ops = some l else cSteps P nt ops ops.toList = some l) := by
  cases cc <;> simp only [cCode] at h <;> first
    | cases h
    | (rename_i id ops dr
       split at h
       · rename_i hd; obtain ⟨x, h1, h2⟩ := Option.map_eq_some_iff.1 h; simp only [ACode.ops.injEq] at h2; obtain ⟨rfl, rfl⟩ := h2; subst hd; exact ⟨id, ops, rfl, by simpa using h1⟩
       · rename_i hd; obtain ⟨x, h1, h2⟩ := Option.map_eq_some_iff.1 h; simp only [ACode.ops.injEq] at h2; obtain ⟨rfl, rfl⟩ := h2
         have hd' : dr = false := by simpa using hd
         subst hd'; exact ⟨id, ops, rfl, by simpa using h1⟩)
    | (simp only [Option.bind_eq_some_iff, Option.map_eq_some_iff] at h; simp at h)
theorem code_seq {a b : ACode} (h : cCode P live nt cc = some (.seq a b)) : ∃ x y, cc = .seq x y ∧ cCode P live nt x = some a ∧ cCode P live nt y = some b := by
  cases cc <;> simp only [cCode] at h <;> first
    | cases h
    | (split at h <;> obtain ⟨_, _, h⟩ := Option.map_eq_some_iff.1 h <;> cases h)
    | (rename_i x y
       simp only [Option.bind_eq_some_iff, Option.map_eq_some_iff, ACode.seq.injEq] at h
       obtain ⟨_, h1, _, h2, rfl, rfl⟩ := h
       exact ⟨x, y, rfl, h1, h2⟩)
    | (simp only [Option.bind_eq_some_iff, Option.map_eq_some_iff] at h; simp at h)
theorem code_cond {c : Opd} {a b : ACode} (h : cCode P live nt cc = some (.cond c a b)) : ∃ o x y, cc = .cond o x y ∧ cOpd o = some c ∧ cCode P live nt x = some a ∧ cCode P live nt y = some b := by
  cases cc <;> simp only [cCode] at h <;> first
    | cases h
    | (split at h <;> obtain ⟨_, _, h⟩ := Option.map_eq_some_iff.1 h <;> cases h)
    | (rename_i o x y
       simp only [Option.bind_eq_some_iff, Option.map_eq_some_iff, ACode.cond.injEq] at h
       obtain ⟨_, h0, _, h1, _, h2, rfl, rfl, rfl⟩ := h
       exact ⟨o, x, y, rfl, h0, h1, h2⟩)
    | (simp only [Option.bind_eq_some_iff, Option.map_eq_some_iff] at h; simp at h)
theorem code_block {id : Nat} {b : ACode} (h : cCode P live nt cc = some (.block id b)) : ∃ x, cc = .block id x ∧ cCode P live nt x = some b := by
  cases cc <;> simp only [cCode] at h <;> first
    | cases h
    | (split at h <;> obtain ⟨_, _, h⟩ := Option.map_eq_some_iff.1 h <;> cases h)
    | (rename_i i x
       simp only [Option.map_eq_some_iff, ACode.block.injEq] at h
       obtain ⟨_, h1, rfl, rfl⟩ := h
       exact ⟨x, rfl, h1⟩)
    | (simp only [Option.bind_eq_some_iff, Option.map_eq_some_iff] at h; simp at h)
theorem code_loop {l : List Nat} {b : ACode} (h : cCode P live nt cc = some (.loop l b)) : ∃ x, cc = .loop x ∧ cCode P live nt x = some b := by
  cases cc <;> simp only [cCode] at h <;> first
    | cases h
    | (split at h <;> obtain ⟨_, _, h⟩ := Option.map_eq_some_iff.1 h <;> cases h)
    | (rename_i x
       simp only [Option.map_eq_some_iff, ACode.loop.injEq] at h
       obtain ⟨_, h1, _, rfl⟩ := h
       exact ⟨x, rfl, h1⟩)
    | (simp only [Option.bind_eq_some_iff, Option.map_eq_some_iff] at h; simp at h)

theorem exitOf_ne {o : AOut} (h : o ≠ .normal) {K : Act → World → Prop} {Q : Exit → Act → World → Prop} {a : Act} {w : World} (hq : Q (exitOf o) a w) : Exit.then K Q (exitOf o) a w := by
  cases o with
  | normal => exact absurd rfl h
  | exit id => exact hq
  | ret => exact hq

theorem resultV_more {fr1 : Frm} {h h' : Heap} {rs : List ARes} (hh : ∀ id, h id ≠ none → h' id = h id) {v : AV} (hv : resultV fr1 h rs = some v) : resultV fr1 h' rs = some v := by
  have one : ∀ r v, resV fr1 h r = some v → resV fr1 h' r = some v := by
    intro r v hv
    cases r with
    | t i => exact hv
    | cell g s i =>
      simp only [resV, Option.bind_eq_some_iff] at hv ⊢
      obtain ⟨u, q1, p, q2, q3⟩ := hv
      have hne : h p.1 ≠ none := fun hn => by simp [cellsAt, cellsOf, hn] at q3
      exact ⟨u, q1, p, q2, by simpa only [cellsAt, cellsOf, hh _ hne] using q3⟩
  have many : ∀ rs ps, resPs fr1 h rs = some ps → resPs fr1 h' rs = some ps := by
    intro rs
    induction rs with
    | nil => exact fun ps h => h
    | cons r rs ih =>
      intro ps hps
      simp only [resPs, Option.bind_eq_some_iff, Option.map_eq_some_iff] at hps ⊢
      obtain ⟨v, q1, p, q2, ps', q3, rfl⟩ := hps
      exact ⟨v, one r v q1, p, q2, ps', ih ps' q3, rfl⟩
  match rs with
  | [] =>
    simp only [resultV, Option.map_eq_some_iff] at hv ⊢
    obtain ⟨ps, q1, rfl⟩ := hv
    exact ⟨ps, many _ _ q1, rfl⟩
  | [r] => exact one r v hv
  | r :: r2 :: rs =>
    simp only [resultV, Option.map_eq_some_iff] at hv ⊢
    obtain ⟨ps, q1, rfl⟩ := hv
    exact ⟨ps, many _ _ q1, rfl⟩

theorem sound {H : Hints} (hm : P.follows .mixedOrders = true) (hD : DrawnOk P B) {t : Task} {r : Res} (hx : Ex P H t r) : Means P B t r := by
  induction hx with
  | skip =>
    intro hw
    refine ⟨.refl hw, fun live nt cc hc k hb ha ρ w a hf hs Q hQ => ?_⟩
    obtain rfl := code_skip hc
    rw [mrg_self ha] at hQ
    exact wp_skip (hQ ρ a w (Ext.refl ρ) (Below.refl B w) hf hs)
  | ret =>
    intro hw
    refine ⟨.refl hw, fun live nt cc hc k hb ha ρ w a hf hs Q hQ => ?_⟩
    obtain rfl := code_ret hc
    rw [mrg_self ha] at hQ
    exact wp_ret (hQ ρ a w (Ext.refl ρ) (Below.refl B w) hf hs)
  | exit =>
    intro hw
    refine ⟨.refl hw, fun live nt cc hc k hb ha ρ w a hf hs Q hQ => ?_⟩
    obtain rfl := code_exit hc
    rw [mrg_self ha] at hQ
    exact wp_exit (hQ ρ a w (Ext.refl ρ) (Below.refl B w) hf hs)
  | ops h1 ih =>
    intro hw
    have ht : Tr P B _ _ _ _ _ _ := ih
    refine ⟨ht.good hw, fun live nt cc hc k hb ha ρ w a hf hs Q hQ => ?_⟩
    obtain ⟨id, ops, rfl, hl⟩ := code_ops hc
    rename_i d l fr s fr' s'
    cases d with
    | false =>
      simp only [Bool.false_eq_true, if_false] at hl
      exact wp_region (ht.inOrder _ (cSteps_range hl) hw k hb ha ρ a w hf hs hQ)
    | true =>
      simp only [if_true] at hl
      refine wp_region_any hm (hD nt ops l fr s fr' s' hl ht hw k hb ha ρ a { w with drawn := w.drawn + 1 } hf (hs.world rfl) Q fun ρ' a' w' he hbl hf' hs' => hQ ρ' a' w' he ⟨hbl.os, hbl.tape, hbl.output, hbl.size, hbl.block⟩ hf' hs')
  | seq h1 h2 ih1 ih2 =>
    intro hw
    obtain ⟨g1, k1⟩ := ih1 hw
    obtain ⟨g2, k2⟩ := ih2 g1.wf
    refine ⟨g1.trans g2, fun live nt cc hc k hb ha ρ w a hf hs Q hQ => ?_⟩
    obtain ⟨x, y, rfl, hx, hy⟩ := code_seq hc
    refine wp_seq (wpI_wp (k1 live nt x hx k hb (fun id hid => ha id (Nat.lt_of_lt_of_le hid g2.le)) ρ w a hf hs _ fun ρ' a' w' he hbl hf' hs' => ?_))
    simp only [exitOf, Exit.then]
    refine wpI_wp (k2 live nt y hy _ (hb.mrg _) (mrg_agree g1 hw g2.le ha) ρ' w' a' hf' hs' _ fun ρ2 a2 w2 he2 hb2 hf2 hs2 => ?_)
    rw [mrg_mrg g2.le] at hs2
    exact hQ ρ2 a2 w2 (he.trans he2) (hbl.trans hb2) hf2 hs2
  | seqX h1 hne ih1 =>
    intro hw
    obtain ⟨g1, k1⟩ := ih1 hw
    refine ⟨g1, fun live nt cc hc k hb ha ρ w a hf hs Q hQ => ?_⟩
    obtain ⟨x, y, rfl, hx, hy⟩ := code_seq hc
    exact wp_seq (wpI_wp (k1 live nt x hx k hb ha ρ w a hf hs _ fun ρ' a' w' he hbl hf' hs' => exitOf_ne hne (hQ ρ' a' w' he hbl hf' hs')))
  | cond h1 h2 ih =>
    intro hw
    obtain ⟨g1, k1⟩ := ih hw
    refine ⟨g1, fun live nt cc hc k hb ha ρ w a hf hs Q hQ => ?_⟩
    obtain ⟨o, x, y, rfl, ho, hx, hy⟩ := code_cond hc
    obtain ⟨v, hv, hb'⟩ := Option.bind_eq_some_iff.1 h1
    have heval := (hf.ops.rel _ _ _ ho hv).asB hb'
    rename_i t _ _ _
    refine wp_cond heval (wpI_wp ?_)
    cases t with
    | true => exact k1 live nt x hx k hb ha ρ w a hf hs Q hQ
    | false => exact k1 live nt y hy k hb ha ρ w a hf hs Q hQ
  | block h1 ih =>
    intro hw
    obtain ⟨g1, k1⟩ := ih hw
    refine ⟨g1, fun live nt cc hc k hb ha ρ w a hf hs Q hQ => ?_⟩
    obtain ⟨x, rfl, hx⟩ := code_block hc
    refine wp_block (wpI_wp (k1 live nt x hx k hb ha ρ w a hf hs _ fun ρ' a' w' he hbl hf' hs' => ?_))
    have := hQ ρ' a' w' he hbl hf' hs'
    rename_i id b fr s o fr1 s1
    cases o with
    | normal => simpa [exitOf, Exit.inBlock] using this
    | ret => simpa [exitOf, Exit.inBlock] using this
    | exit id' =>
      by_cases hid : id' = id
      · subst hid; simpa [exitOf, Exit.inBlock] using this
      · simpa [exitOf, Exit.inBlock, hid] using this
  | loopN h1 h2 ih1 ih2 =>
    intro hw
    obtain ⟨g1, k1⟩ := ih1 hw
    obtain ⟨g2, k2⟩ := ih2 g1.wf
    refine ⟨g1.trans g2, fun lv nt cc hc k hb ha ρ w a hf hs Q hQ => ?_⟩
    obtain ⟨x, rfl, hx⟩ := code_loop hc
    intro b kk cs
    have hbody := wpI_wp (k1 lv nt x hx k hb (fun id hid => ha id (Nat.lt_of_lt_of_le hid g2.le)) ρ w a (hf.restr _) hs (Exit.then (fun a' w' => wpI P (.loop x) Q a' w') (fun _ _ _ => False)) fun ρ' a' w' he hbl hf' hs' => by
      simp only [exitOf, Exit.then]
      refine k2 lv nt (.loop x) hc _ (hb.mrg _) (mrg_agree g1 hw g2.le ha) ρ' w' a' hf' hs' _ fun ρ2 a2 w2 he2 hb2 hf2 hs2 => ?_
      rw [mrg_mrg g2.le] at hs2
      exact hQ ρ2 a2 w2 (he.trans he2) (hbl.trans hb2) hf2 hs2)
    obtain ⟨e, a1, w1, hq, harr⟩ := hbody b (.inLoop x :: kk) cs
    cases e with
    | normal =>
      obtain ⟨e2, a2, w2, hq2, harr2⟩ := hq b kk cs
      exact ⟨e2, a2, w2, hq2, .of_steps (Steps.trans harr (.one step_inLoop)) harr2⟩
    | _ => exact hq.elim
  | loopX h1 hne ih1 =>
    intro hw
    obtain ⟨g1, k1⟩ := ih1 hw
    refine ⟨g1, fun lv nt cc hc k hb ha ρ w a hf hs Q hQ => ?_⟩
    obtain ⟨x, rfl, hx⟩ := code_loop hc
    intro b kk cs
    have hbody := wpI_wp (k1 lv nt x hx k hb ha ρ w a (hf.restr _) hs (fun e a w => e ≠ .normal ∧ Q e a w) fun ρ' a' w' he hbl hf' hs' => ⟨by rename_i o _ _; cases o <;> simp_all [exitOf], hQ ρ' a' w' he hbl hf' hs'⟩)
    obtain ⟨e, a1, w1, ⟨hne', hq⟩, harr⟩ := hbody b (.inLoop x :: kk) cs
    exact ⟨e, a1, w1, hq, .pass (x := .inLoop x) rfl (fun _ _ => .inl hne') harr⟩
  | nil => exact Tr.nil
  | off h1 h2 ih => exact Tr.cons (.off h1) ih
  | pure h1 h2 h3 ih => exact Tr.cons (.pure h1 h2) ih
  | read h1 h2 h3 h4 ih => exact Tr.cons (.read h1 h2 h3) ih
  | new h1 h2 h3 ih => exact Tr.cons (.new h1 h2) ih
  | write h1 h2 h3 ih => exact Tr.cons (.write h1 h2) ih
  | call h1 h2 h3 h4 h5 ih1 ih2 => exact Tr.cons (.call h1 h2 h3 ih1) ih2
  | fn h1 h2 h3 h4 ih =>
    intro hw
    obtain ⟨g1, k1⟩ := ih hw
    refine ⟨g1, fun k hb ha => ?_⟩
    unfold acode at h1
    simp only [Option.bind_eq_some_iff] at h1
    obtain ⟨fn, hfn, h1⟩ := h1
    split at h1
    · cases h1
    · rename_i hname
      simp only [Option.bind_eq_some_iff, Option.map_eq_some_iff] at h1
      obtain ⟨body, hbody, c, hc, rs, hrs, rfl⟩ := h1
      refine ⟨⟨fn, hfn, by simpa using hname, by simp [hbody]⟩, fun ρ w xs hs hxs => ?_⟩
      refine calls_of_wp hfn hbody (wpI_wp (k1 _ _ body hc k hb ha ρ w _ (frame0_rel hxs fn.ntmps) hs _ fun ρ' a' w' he hbl hf' hs' => ?_))
      obtain ⟨x, hx1, hx2⟩ := results_rel hf' hs' hrs (by
        refine resultV_more (fun id hid => ?_) h4
        have := lt_of_some g1.wf hid
        simp [mrg, this])
      have post : a'.defers = [] ∧ ∃ v, (results fn a'.tmps).run P w' = .ok v w' ∧ ∃ x ρ'', (Ending.returned v = .returned x) ∧ VRel ρ'' _ x ∧ Ext ρ ρ'' ∧ Below B w w' ∧ Sim B ρ'' _ w' := ⟨hf'.defers, x, hx1, x, ρ', rfl, hx2, he, hbl, hs'⟩
      rcases h3 with rfl | rfl
      · exact post
      · exact post
end
end Go.Proofs.Ytlmbgaoeplffkaa

/- Regions whose order is open: facts of the order, of the run, and that operations look at their own slots alone. -/
namespace Go.Proofs.Ytlmbgaoeplffkaa
open Go Go.RowKit
set_option linter.unusedVariables false
set_option linter.unusedSimpArgs false

structure Ord (anc : List Nat) (steps : List AStep) (π : List Nat) : Prop where
  lanc : anc.length = steps.length
  lpi : π.length = steps.length
  lt : ∀ t, t < steps.length → π.getD t 0 < steps.length
  surj : ∀ i, i < steps.length → ∃ t, t < steps.length ∧ π.getD t 0 = i
  inj : ∀ t t', t < steps.length → t' < t → π.getD t 0 ≠ π.getD t' 0
  fwd : ∀ t t', t < steps.length → t' < t → isBef anc (π.getD t 0) (π.getD t' 0) = false
  hv : ∀ t t', t < steps.length → t' < t → kindOf (stepAt steps (π.getD t 0)).op = .h → isBef anc (π.getD t' 0) (π.getD t 0) = true
  apart : ∀ i j, i < steps.length → j < steps.length → apartB anc steps i j = true

theorem orderOk_ord {anc : List Nat} {steps : List AStep} {π : List Nat} (h : orderOk anc steps π = true) : Ord anc steps π := by
  unfold orderOk at h
  simp only [Bool.and_eq_true, List.all_eq_true, List.mem_range, beq_iff_eq, decide_eq_true_eq, bne_iff_ne, Bool.or_eq_true, Bool.not_eq_true', List.contains_iff_mem] at h
  obtain ⟨⟨⟨⟨⟨h1, h2⟩, h3⟩, h4⟩, h5⟩, h6⟩ := h
  refine ⟨h1, h2, fun t ht => h3 _ ?_, fun i hi => ?_, fun t t' ht ht' => (h5 t ht t' ht').1.1, fun t t' ht ht' => (h5 t ht t' ht').1.2, fun t t' ht ht' hk => (h5 t ht t' ht').2.resolve_left (fun hne => hne hk), fun i j hi hj => h6 i hi j hj⟩
  · rw [List.getD_eq_getElem?_getD, List.getElem?_eq_getElem (by omega)]; simp
  · obtain ⟨t, ht, he⟩ := List.getElem_of_mem (h4 i hi)
    exact ⟨t, by omega, by rw [List.getD_eq_getElem?_getD, List.getElem?_eq_getElem ht]; simpa using he⟩

theorem ancF_congr {acc anc : List Nat} : ∀ (l : List Nat) (m : Nat), (∀ i ∈ l, anc.getD i 0 = acc.getD i 0) → l.foldl (fun m p => m ||| 2 ^ p ||| acc.getD p 0) m = l.foldl (fun m p => m ||| 2 ^ p ||| anc.getD p 0) m
  | [], m, h => rfl
  | a :: l, m, h => by
    rw [List.foldl_cons, List.foldl_cons, h a List.mem_cons_self]
    exact ancF_congr l _ fun i hi => h i (List.mem_cons_of_mem _ hi)
theorem ancF_mem {anc : List Nat} {i : Nat} : ∀ (l : List Nat) (m : Nat), (l.foldl (fun m p => m ||| 2 ^ p ||| anc.getD p 0) m).testBit i = true → m.testBit i = true ∨ i ∈ l ∨ ∃ p ∈ l, (anc.getD p 0).testBit i = true
  | [], m, h => .inl h
  | a :: l, m, h => by
    rw [List.foldl_cons] at h
    rcases ancF_mem l _ h with g | g | ⟨p, hp, g⟩
    · rw [Nat.testBit_or, Nat.testBit_or, Nat.testBit_two_pow, Bool.or_eq_true, Bool.or_eq_true, decide_eq_true_eq] at g
      rcases g with (g | g) | g
      · exact .inl g
      · subst g; exact .inr (.inl List.mem_cons_self)
      · exact .inr (.inr ⟨a, List.mem_cons_self, g⟩)
    · exact .inr (.inl (List.mem_cons_of_mem _ g))
    · exact .inr (.inr ⟨p, List.mem_cons_of_mem _ hp, g⟩)
theorem ancGo_spec : ∀ {os : List Oper} {acc anc : List Nat}, ancGo acc os = some anc →
    (∀ i, i < acc.length → anc.getD i 0 = acc.getD i 0) ∧ anc.length = acc.length + os.length ∧
    ∀ (j : Nat) (o : Oper), os[j]? = some o → (∀ p ∈ preds o, p < acc.length + j) ∧ anc.getD (acc.length + j) 0 = ancBits anc (preds o)
  | [], acc, anc, h => by
    simp only [ancGo, Option.some.injEq] at h; subst h
    exact ⟨fun _ _ => rfl, by simp, fun j o h => by simp at h⟩
  | o :: r, acc, anc, h => by
    simp only [ancGo] at h
    split at h
    · rename_i hp
      simp only [List.all_eq_true, decide_eq_true_eq] at hp
      obtain ⟨h1, h2, h3⟩ := ancGo_spec h
      simp only [List.length_append, List.length_singleton] at h1 h2 h3
      have h1' : ∀ i, i < acc.length → anc.getD i 0 = acc.getD i 0 := fun i hi => by
        rw [h1 i (by omega)]; simp [List.getD_eq_getElem?_getD, List.getElem?_append_left hi]
      refine ⟨h1', by simp; omega, fun j o' hj => ?_⟩
      cases j with
      | zero =>
        simp at hj; subst hj
        refine ⟨by simpa using hp, ?_⟩
        rw [Nat.add_zero, h1 _ (by omega)]
        simp only [List.getD_eq_getElem?_getD, List.getElem?_append_right (Nat.le_refl _), Nat.sub_self, List.getElem?_cons_zero, Option.getD_some]
        exact ancF_congr _ _ fun i hi => h1' i (hp i hi)
      | succ j =>
        have := h3 j o' (by simpa using hj)
        rw [show acc.length + 1 + j = acc.length + (j + 1) by omega] at this
        exact this
    · cases h

/-! ### what an operation looks at -/
section congr
variable {fr fr2 : Frm}
theorem ev_congr {x : Opd} (h : ∀ i ∈ opdSlots x, get fr i = get fr2 i) : ev fr x = ev fr2 x := by
  cases x with
  | t i => exact h i (by simp [opdSlots])
  | k v => rfl
  | f n => rfl
theorem evs_congr : ∀ {xs : List Opd}, (∀ i ∈ xs.flatMap opdSlots, get fr i = get fr2 i) → evs fr xs = evs fr2 xs
  | [], _ => rfl
  | x :: r, h => by
    simp only [evs]
    rw [ev_congr fun i hi => h i (by simp [hi]), evs_congr fun i hi => h i (by simp at hi ⊢; exact .inr hi)]
theorem fillV_congr : ∀ {ps : List (Nat × Nat × Opd)} {cs : List AC}, (∀ i ∈ ps.flatMap (fun p => opdSlots p.2.2), get fr i = get fr2 i) → fillV (ev fr) cs ps = fillV (ev fr2) cs ps
  | [], _, _ => rfl
  | (a, b, x) :: r, cs, h => by
    simp only [fillV]
    rw [ev_congr fun i hi => h i (by simp [hi])]
    congr 1; funext v; congr 1; funext p
    rw [fillV_congr fun i hi => h i (by simp at hi ⊢; exact .inr hi)]
theorem ptrsV_congr : ∀ {xs : List Opd}, (∀ i ∈ xs.flatMap opdSlots, get fr i = get fr2 i) → ptrsV (ev fr) xs = ptrsV (ev fr2) xs
  | [], _ => rfl
  | x :: r, h => by
    simp only [ptrsV]
    rw [ev_congr fun i hi => h i (by simp [hi]), ptrsV_congr fun i hi => h i (by simp at hi ⊢; exact .inr hi)]
theorem firstV_congr : ∀ {xs : List Opd}, (∀ i ∈ xs.flatMap opdSlots, get fr i = get fr2 i) → firstV (ev fr) xs = firstV (ev fr2) xs
  | [], _ => rfl
  | x :: r, h => by
    simp only [firstV]
    rw [ev_congr fun i hi => h i (by simp [hi]), firstV_congr fun i hi => h i (by simp at hi ⊢; exact .inr hi)]
theorem optI_congr {x : Option Opd} (h : ∀ i ∈ optSlots x, get fr i = get fr2 i) : optI (ev fr) x = optI (ev fr2) x := by
  cases x with
  | none => rfl
  | some x => simp only [optI]; rw [ev_congr fun i hi => h i (by simpa [optSlots] using hi)]

theorem evP_congr {op : AOp} (h : ∀ i ∈ opSlots op, get fr i = get fr2 i) : evP (ev fr) op = evP (ev fr2) op := by
  cases op <;> simp only [evP] <;> simp only [opSlots] at h
  case build z ps => rw [fillV_congr h]
  case mkFn f xs => rw [ptrsV_congr h]
  case mkBound f xs => rw [firstV_congr h]
  case slice e x lo hi => rw [ev_congr fun i hi => h i (by simp [hi]), optI_congr fun i hi => h i (by simp [hi]), optI_congr (x := hi) fun i hi => h i (by simp [hi])]
  case pick c a b => rw [ev_congr (x := c) fun i hi => h i (by simp [hi]), ev_congr (x := a) fun i hi => h i (by simp [hi]), ev_congr (x := b) fun i hi => h i (by simp [hi])]
  all_goals first
    | rfl
    | exact ev_congr h
    | (rw [ev_congr h]; done)
    | (rename_i x y; rw [ev_congr (x := x) fun i hi => h i (by simp [hi]), ev_congr (x := y) fun i hi => h i (by simp [hi])]; done)
theorem evR_congr {k : Heap} {op : AOp} (h : ∀ i ∈ opSlots op, get fr i = get fr2 i) : evR (ev fr) k op = evR (ev fr2) k op := by
  cases op <;> simp only [evR] <;> simp only [opSlots] at h
  all_goals first
    | rfl
    | (rw [ev_congr h]; done)
    | (rename_i x y; rw [ev_congr (x := x) fun i hi => h i (by simp [hi]), ev_congr (x := y) fun i hi => h i (by simp [hi])]; done)
theorem target_congr {op : AOp} (h : ∀ i ∈ opSlots op, get fr i = get fr2 i) : target (ev fr) op = target (ev fr2) op := by
  cases op <;> simp only [target] <;> simp only [opSlots] at h
  all_goals first
    | rfl
    | (rw [ev_congr h]; done)
    | (rename_i x y; rw [ev_congr (x := x) fun i hi => h i (by simp [hi])]; done)
theorem evA_congr {n : Nat} {op : AOp} (h : ∀ i ∈ opSlots op, get fr i = get fr2 i) : evA (ev fr) n op = evA (ev fr2) n op := by
  cases op <;> simp only [evA] <;> simp only [opSlots] at h
  case buildS t e l z ps => rw [fillV_congr h]
  all_goals first
    | rfl
    | (rw [ev_congr h]; done)
    | (rename_i x y; rw [ev_congr (x := x) fun i hi => h i (by simp [hi]), ev_congr (x := y) fun i hi => h i (by simp [hi])]; done)
theorem evH_congr {k : Heap} {n : Nat} {op : AOp} (h : ∀ i ∈ opSlots op, get fr i = get fr2 i) : evH (ev fr) k n op = evH (ev fr2) k n op := by
  cases op <;> simp only [evH] <;> simp only [opSlots] at h
  case mapSet ks x y v => rw [ev_congr (x := x) fun i hi => h i (by simp [hi]), ev_congr (x := y) fun i hi => h i (by simp [hi]), ev_congr (x := v) fun i hi => h i (by simp [hi])]
  all_goals first
    | rfl
    | (rename_i x y; rw [ev_congr (x := x) fun i hi => h i (by simp [hi]), ev_congr (x := y) fun i hi => h i (by simp [hi])]; done)
theorem callee_congr {f : Opd} {xs : List Opd} (h : ∀ i ∈ opSlots (.call f xs), get fr i = get fr2 i) : callee fr f xs = callee fr2 f xs := by
  simp only [opSlots] at h
  unfold callee
  rw [ev_congr fun i hi => h i (by simp [hi]), evs_congr fun i hi => h i (List.mem_append_right _ hi)]
theorem gon_congr {g : Option (Nat × Bool)} (h : ∀ i w, g = some (i, w) → get fr i = get fr2 i) : gon fr g = gon fr2 g := by
  cases g with
  | none => rfl
  | some p => obtain ⟨i, w⟩ := p; simp only [gon]; rw [h i w rfl]

theorem Step1.congr {P : Program} {B : Nat} {st : AStep} {fr1 : Frm} {k k1 : Heap} (h : ∀ i ∈ stSlots st, get fr i = get fr2 i) (hs : Step1 P B st fr k fr1 k1) :
    ∃ ov, fr1 = putO fr st.dst ov ∧ Step1 P B st fr2 k (putO fr2 st.dst ov) k1 := by
  have hop : ∀ i ∈ opSlots st.op, get fr i = get fr2 i := fun i hi => h i (by simp [stSlots, hi])
  have hg : gon fr st.g = gon fr2 st.g := gon_congr fun i w e => h i (by simp [stSlots, e])
  cases hs with
  | off h1 => exact ⟨_, rfl, .off (hg ▸ h1)⟩
  | pure h1 h2 => exact ⟨_, rfl, .pure (hg ▸ h1) (evP_congr hop ▸ h2)⟩
  | read h1 h2 => exact ⟨_, rfl, .read (hg ▸ h1) (evR_congr hop ▸ h2)⟩
  | new h1 h2 h3 h4 => exact ⟨_, rfl, .new (hg ▸ h1) h2 h3 (evA_congr hop ▸ h4)⟩
  | write h1 h2 h3 h4 => exact ⟨_, rfl, .write (hg ▸ h1) h2 h3 (evH_congr hop ▸ h4)⟩
  | call h1 h2 h3 h4 => exact ⟨_, rfl, .call (hg ▸ h1) h2 (callee_congr (by rw [← h2]; exact hop) ▸ h3) h4⟩
end congr

theorem kind_P {g : Opd → Option AV} {op : AOp} {v : AV} (h : evP g op = some v) : kindOf op = .p := by cases op <;> first | rfl | (simp [evP] at h)
theorem kind_R {g : Opd → Option AV} {k : Heap} {op : AOp} {v : AV} (h : evR g k op = some v) : kindOf op = .r := by cases op <;> first | rfl | (simp [evR] at h)
theorem kind_A {g : Opd → Option AV} {n : Nat} {op : AOp} {v : AV × Option AObj} (h : evA g n op = some v) : kindOf op = .a := by cases op <;> first | rfl | (simp [evA] at h)
theorem kind_H {g : Opd → Option AV} {k : Heap} {n : Nat} {op : AOp} {v : Option AV × Heap × Nat} (h : evH g k n op = some v) : kindOf op = .h := by cases op <;> first | rfl | (simp [evH] at h)

/-! ### the run -/
section run
variable {P : Program} {B : Nat} {st : AStep} {hist hist1 : List Heap} {fr fr1 : Frm} {s s1 : St}
theorem CStep.frame (h : CStep P B st hist fr s hist1 fr1 s1) : ∃ ov, fr1 = putO fr st.dst ov := by cases h <;> exact ⟨_, rfl⟩
theorem CStep.hists (h : CStep P B st hist fr s hist1 fr1 s1) : hist1 = if kindOf st.op = .h then hist ++ [s.h] else hist := by
  cases h with
  | off _ => rfl
  | pure _ h => simp [kind_P h]
  | read _ h _ => simp [kind_R h]
  | new _ h => simp [kind_A h]
  | write _ h => simp [kind_H h]
  | call _ h _ _ => simp [h, kindOf]
theorem CStep.light (h : CStep P B st hist fr s hist1 fr1 s1) (hk : kindOf st.op ≠ .h) : s1 = s ∨ ∃ o, s1 = s.new (some o) := by
  cases h with
  | off _ => exact .inl rfl
  | pure _ h => exact .inl rfl
  | read _ h _ => exact .inl rfl
  | @new v oo h0 h =>
    cases oo with
    | none => exact .inl rfl
    | some o => exact .inr ⟨o, rfl⟩
  | write _ h => exact absurd (kind_H h) hk
  | call _ h _ _ => exact absurd (by simp [h, kindOf]) hk

theorem Tr.run {l : List AStep} {fr' : Frm} {s' : St} (h : Tr P B l hist fr s fr' s') : ∃ (fs : Nat → Frm) (ss : Nat → St) (hs : Nat → List Heap),
    fs 0 = fr ∧ ss 0 = s ∧ hs 0 = hist ∧ fs l.length = fr' ∧ ss l.length = s' ∧ ∀ t, t < l.length → CStep P B (stepAt l t) (hs t) (fs t) (ss t) (hs (t + 1)) (fs (t + 1)) (ss (t + 1)) := by
  induction h with
  | @nil hist fr s => exact ⟨fun _ => fr, fun _ => s, fun _ => hist, rfl, rfl, rfl, rfl, rfl, fun t ht => absurd ht (by simp)⟩
  | @cons st l hist fr s hist1 fr1 s1 fr' s' h1 _ ih =>
    obtain ⟨fs, ss, hs, a, b, c, d, e, f⟩ := ih
    refine ⟨fun n => match n with | 0 => fr | n + 1 => fs n, fun n => match n with | 0 => s | n + 1 => ss n, fun n => match n with | 0 => hist | n + 1 => hs n, rfl, rfl, rfl, d, e, fun t ht => ?_⟩
    cases t with
    | zero => simp only [stepAt, List.getD_cons_zero, a, b, c]; exact h1
    | succ t => exact f t (by simpa using ht)
end run
end Go.Proofs.Ytlmbgaoeplffkaa

/- Regions whose order is open: whatever order is drawn, the end is that of the one order. -/
namespace Go.Proofs.Ytlmbgaoeplffkaa
open Go Go.RowKit
set_option linter.unusedVariables false
set_option linter.unusedSimpArgs false
set_option linter.unusedSectionVars false

section
variable {P : Program} {B : Nat} {anc : List Nat} {steps sts : List AStep} {π : List Nat} {fs : Nat → Frm} {ss : Nat → St} {hs : Nat → List Heap} {k : Heap}

/-- The run in the one order, and what is known of the order. -/
structure Line (P : Program) (B : Nat) (anc : List Nat) (steps sts : List AStep) (π : List Nat) (fs : Nat → Frm) (ss : Nat → St) (hs : Nat → List Heap) : Prop where
  ord : Ord anc steps π
  len : sts.length = steps.length
  at_ : ∀ t, t < steps.length → stepAt sts t = { stepAt steps (π.getD t 0) with chk := chkOf anc steps π t }
  wf : (ss 0).WF
  h0 : hs 0 = []
  run : ∀ t, t < steps.length → CStep P B (stepAt sts t) (hs t) (fs t) (ss t) (hs (t + 1)) (fs (t + 1)) (ss (t + 1))


theorem Line.wfs (hL : Line P B anc steps sts π fs ss hs) : ∀ t, t ≤ steps.length → (ss t).WF
  | 0, _ => hL.wf
  | t + 1, h => ((hL.run t (by omega)).good (Line.wfs hL t (by omega))).wf
theorem Line.step_le (hL : Line P B anc steps sts π fs ss hs) {t : Nat} (h : t < steps.length) : (ss t).n ≤ (ss (t + 1)).n := ((hL.run t h).good (hL.wfs t (by omega))).le
theorem Line.mono (hL : Line P B anc steps sts π fs ss hs) {t t' : Nat} (h : t ≤ t') : t' ≤ steps.length → (ss t).n ≤ (ss t').n := by
  induction h with
  | refl => exact fun _ => Nat.le_refl _
  | @step m _ ih => exact fun h' => Nat.le_trans (ih (by omega)) (hL.step_le (by omega))
theorem Line.quiet1 (hL : Line P B anc steps sts π fs ss hs) {t : Nat} (h : t < steps.length) (hk : kindOf (stepAt sts t).op ≠ .h) {id : Nat} (hid : id < (ss t).n) : (ss (t + 1)).h id = (ss t).h id := by
  rcases (hL.run t h).light hk with h1 | ⟨o, h1⟩
  · rw [h1]
  · rw [h1]; simp only [St.new]; exact upd_ne _ _ _ _ (by omega)
theorem Line.quiet (hL : Line P B anc steps sts π fs ss hs) {t t' : Nat} (h : t ≤ t') : t' ≤ steps.length → (∀ j, t ≤ j → j < t' → kindOf (stepAt sts j).op ≠ .h) → ∀ id, id < (ss t).n → (ss t').h id = (ss t).h id := by
  induction h with
  | refl => exact fun _ _ _ _ => rfl
  | @step m hm ih =>
    intro h' hk id hid
    rw [hL.quiet1 (by omega) (hk m hm (by omega)) (Nat.lt_of_lt_of_le hid (hL.mono hm (by omega)))]
    exact ih (by omega) (fun j h1 h2 => hk j h1 (by omega)) id hid
theorem Line.hist (hL : Line P B anc steps sts π fs ss hs) : ∀ t, t ≤ steps.length → hs t = ((List.range t).filter fun j => kindOf (stepAt sts j).op == .h).map fun j => (ss j).h
  | 0, _ => by simp [hL.h0]
  | t + 1, h => by
    rw [(hL.run t (by omega)).hists, Line.hist hL t (by omega), List.range_succ, List.filter_append]
    by_cases hk : kindOf (stepAt sts t).op = .h
    · simp [hk]
    · have : (kindOf (stepAt sts t).op == Kind.h) = false := by simpa using hk
      simp [hk, this]
theorem Line.frame_ne (hL : Line P B anc steps sts π fs ss hs) {t : Nat} (h : t < steps.length) {x : Nat} (hx : (stepAt sts t).dst ≠ some x) : get (fs (t + 1)) x = get (fs t) x := by
  obtain ⟨ov, h1⟩ := (hL.run t h).frame
  rw [h1, get_putO, if_neg hx]
theorem Line.frame (hL : Line P B anc steps sts π fs ss hs) {t t' : Nat} (h : t ≤ t') {x : Nat} : t' ≤ steps.length → (∀ j, t ≤ j → j < t' → (stepAt sts j).dst ≠ some x) → get (fs t') x = get (fs t) x := by
  induction h with
  | refl => exact fun _ _ => rfl
  | @step m hm ih =>
    intro h' hk
    rw [hL.frame_ne (by omega) (hk m hm (by omega))]
    exact ih (by omega) fun j h1 h2 => hk j h1 (by omega)
/-- The place at which a number was born. -/
theorem Line.born {t : Nat} {id : Nat} (h0 : (ss t).n ≤ id) : ∀ t', t ≤ t' → t' ≤ steps.length → id < (ss t').n → ∃ j, t ≤ j ∧ j < t' ∧ (ss j).n ≤ id ∧ id < (ss (j + 1)).n := by
  intro t' h
  induction h with
  | refl => intro _ hid; omega
  | @step m hm ih =>
    intro h' hid
    by_cases hlt : id < (ss m).n
    · obtain ⟨j, a, b, c, d⟩ := ih (by omega) hlt
      exact ⟨j, a, by omega, c, d⟩
    · exact ⟨m, hm, by omega, by omega, hid⟩

def bef (anc : List Nat) (π : List Nat) (t t' : Nat) : Prop := isBef anc (π.getD t 0) (π.getD t' 0) = true

structure Inv (sts : List AStep) (fs : Nat → Frm) (ss : Nat → St) (k : Heap) (N : Nat) (E : Nat → Prop) (τ : Nat) (frS : Frm) (kS : Heap) : Prop where
  tle : τ ≤ N
  pre : ∀ t, t < τ → E t
  post : ∀ t, τ ≤ t → t < N → E t → kindOf (stepAt sts t).op ≠ .h
  ha : ∀ id, id < (ss τ).n → kS id = (ss τ).h id
  hb : ∀ t id, τ ≤ t → t < N → (ss t).n ≤ id → id < (ss (t + 1)).n → (E t → kS id = (ss (t + 1)).h id) ∧ (¬ E t → kS id = none)
  hc : ∀ id, (ss N).n ≤ id → kS id = k id
  bnd : Bnd kS
  fr : ∀ x t, t ≤ N → (∀ t', t' < t → (stepAt sts t').dst = some x → E t') → (∀ t', t ≤ t' → t' < N → E t' → (stepAt sts t').dst ≠ some x) → get frS x = get (fs t) x

/-- Two that share a slot are bound. -/
theorem Line.share (hL : Line P B anc steps sts π fs ss hs) {t t' : Nat} (ht : t < steps.length) (ht' : t' < steps.length) (hne : t ≠ t') {x : Nat} (hd : (stepAt sts t').dst = some x) (hx : (stepAt sts t).dst = some x ∨ x ∈ stSlots (stepAt sts t)) :
    (t' < t ∧ bef anc π t' t) ∨ (t < t' ∧ bef anc π t t') := by
  have hO := hL.ord
  have ha := hO.apart (π.getD t' 0) (π.getD t 0) (hO.lt t' ht') (hO.lt t ht)
  rw [hL.at_ t' ht'] at hd
  rw [hL.at_ t ht] at hx
  simp only at hd hx
  unfold apartB at ha
  simp only [Bool.or_eq_true, beq_iff_eq] at ha
  rcases Nat.lt_trichotomy t' t with h | h | h
  · refine .inl ⟨h, ?_⟩
    rcases ha with ((h1 | h1) | h1) | h1
    · exact absurd h1 (Ne.symm (hO.inj t t' ht h))
    · exact h1
    · rw [hO.fwd t t' ht h] at h1; cases h1
    · rw [hd] at h1
      simp only [Bool.and_eq_true, bne_iff_ne, Bool.not_eq_true'] at h1
      exfalso
      rcases hx with hx | hx
      · exact h1.1 hx
      · exact absurd (List.contains_iff_mem.2 (show x ∈ stSlots (stepAt steps (π.getD t 0)) from hx)) (by rw [h1.2]; simp)
  · exact absurd h.symm hne
  · refine .inr ⟨h, ?_⟩
    rcases ha with ((h1 | h1) | h1) | h1
    · exact absurd h1 (hO.inj t' t ht' h)
    · rw [hO.fwd t' t ht' h] at h1; cases h1
    · exact h1
    · rw [hd] at h1
      simp only [Bool.and_eq_true, bne_iff_ne, Bool.not_eq_true'] at h1
      exfalso
      rcases hx with hx | hx
      · exact h1.1 hx
      · exact absurd (List.contains_iff_mem.2 (show x ∈ stSlots (stepAt steps (π.getD t 0)) from hx)) (by rw [h1.2]; simp)

/-- What one finds in the heap of now, below a state of the one order behind which no writer ran. -/
theorem Line.below (hL : Line P B anc steps sts π fs ss hs) {E : Nat → Prop} {τ : Nat} {frS : Frm} {kS : Heap} (hI : Inv sts fs ss k steps.length E τ frS kS) {t : Nat} (ht : t ≤ steps.length) (hτ : τ ≤ t) (hq : ∀ j, τ ≤ j → j < t → kindOf (stepAt sts j).op ≠ .h)
    {id : Nat} (hid : id < (ss t).n) : (kS id ≠ none ∨ ∀ j, j < t → E j) → kS id = (ss t).h id := by
  intro h
  by_cases h1 : id < (ss τ).n
  · rw [hI.ha id h1, hL.quiet hτ ht hq id h1]
  · obtain ⟨j, a, b, c, d⟩ := Line.born (Nat.le_of_not_lt h1) t hτ ht hid
    have hE : E j := by
      rcases h with h | h
      · exact Classical.byContradiction fun hn => h ((hI.hb j id a (by omega) c d).2 hn)
      · exact h j b
    rw [(hI.hb j id a (by omega) c d).1 hE]
    exact (hL.quiet (show j + 1 ≤ t from b) ht (fun i h1 h2 => hq i (by omega) h2) id d).symm

theorem Line.step (hL : Line P B anc steps sts π fs ss hs) {E : Nat → Prop} {τ : Nat} {frS : Frm} {kS : Heap} (hI : Inv sts fs ss k steps.length E τ frS kS) {t : Nat} (ht : t < steps.length) (hE : ¬ E t)
    (hanc : ∀ t', t' < steps.length → bef anc π t' t → E t') (hcl : ∀ t1 t2, t1 < steps.length → t2 < steps.length → E t1 → bef anc π t2 t1 → E t2)
    (hdom : ∀ id, target (ev frS) (stepAt sts t).op = some id → kS id ≠ none) :
    ∃ ov kS' τ', Step1 P B (stepAt sts t) frS kS (putO frS (stepAt sts t).dst ov) kS' ∧ Inv sts fs ss k steps.length (fun x => E x ∨ x = t) τ' (putO frS (stepAt sts t).dst ov) kS' := by
  have hO := hL.ord
  have hrun := hL.run t ht
  have hτt : τ ≤ t := by
    rcases Nat.lt_or_ge t τ with h | h
    · exact absurd (hI.pre t h) hE
    · exact h
  -- the slots
  have hslots : ∀ x ∈ stSlots (stepAt sts t), get (fs t) x = get frS x := fun x hx => by
    refine (hI.fr x t (by omega) (fun t' h' hd => ?_) fun t' h1 h2 h3 hd => ?_).symm
    · rcases hL.share ht (by omega : t' < steps.length) (by omega) hd (.inr hx) with ⟨_, h⟩ | ⟨h, _⟩
      · exact hanc t' (by omega) h
      · omega
    · have hne : t ≠ t' := fun e => hE (e ▸ h3)
      rcases hL.share ht h2 hne hd (.inr hx) with ⟨h, _⟩ | ⟨_, h⟩
      · omega
      · exact hE (hcl t' t h2 ht h3 h)
  -- one step, said of the frame of the one order
  have key : ∃ kS' τ', Step1 P B (stepAt sts t) (fs t) kS (fs (t + 1)) kS' ∧ τ' ≤ steps.length ∧ (∀ t', t' < τ' → E t' ∨ t' = t) ∧ (∀ t', τ' ≤ t' → t' < steps.length → E t' ∨ t' = t → kindOf (stepAt sts t').op ≠ .h) ∧
      (∀ id, id < (ss τ').n → kS' id = (ss τ').h id) ∧
      (∀ t' id, τ' ≤ t' → t' < steps.length → (ss t').n ≤ id → id < (ss (t' + 1)).n → ((E t' ∨ t' = t) → kS' id = (ss (t' + 1)).h id) ∧ (¬ (E t' ∨ t' = t) → kS' id = none)) ∧
      (∀ id, (ss steps.length).n ≤ id → kS' id = k id) ∧ Bnd kS' := by
    by_cases hk : kindOf (stepAt sts t).op = .h
    · -- a writer: all before it has run
      have hall : ∀ j, j < t → E j := fun j hj => hanc j (by omega) (hO.hv t j ht hj (by have := hk; rw [hL.at_ t ht] at this; exact this))
      have hq : ∀ j, τ ≤ j → j < t → kindOf (stepAt sts j).op ≠ .h := fun j h1 h2 => hI.post j h1 (by omega) (hall j h2)
      have hag : Agree (ss t).h kS (ss (t + 1)).n := fun id hid => by
        by_cases h1 : id < (ss t).n
        · exact hL.below hI (by omega) hτt hq h1 (.inr hall)
        · rw [(hI.hb t id hτt ht (by omega) hid).2 hE, (hL.wfs t (by omega)).1 id (by omega)]
      refine ⟨_, t + 1, hrun.lift (hL.wfs t (by omega)) hI.bnd hag, ht, fun t' h' => ?_, fun t' h1 h2 h3 => ?_, fun id hid => by simp [mrg, hid], fun t' id h1 h2 h3 h4 => ?_, fun id hid => ?_, hI.bnd.mrg _⟩
      · rcases Nat.lt_or_ge t' t with h | h
        · exact .inl (hall t' h)
        · exact .inr (by omega)
      · exact hI.post t' (by omega) h2 (h3.resolve_right (by omega))
      · have := hL.mono h1 (by omega)
        simp only [mrg, if_neg (show ¬ id < (ss (t + 1)).n by omega)]
        have hb := hI.hb t' id (by omega) h2 h3 h4
        exact ⟨fun h => hb.1 (h.resolve_right (by omega)), fun h => hb.2 fun h' => h (.inl h')⟩
      · have := hL.mono (show t + 1 ≤ steps.length from ht) (Nat.le_refl _)
        simp only [mrg, if_neg (show ¬ id < (ss (t + 1)).n by omega)]
        exact hI.hc id hid
    · -- anything else
      have same : ∀ (h1 : ss (t + 1) = ss t), Step1 P B (stepAt sts t) (fs t) kS (fs (t + 1)) kS → _ := fun h1 h2 =>
        (⟨kS, τ, h2, hI.tle, fun t' h' => .inl (hI.pre t' h'), fun t' q1 q2 q3 => q3.elim (hI.post t' q1 q2) (fun e => e ▸ hk), hI.ha, fun t' id q1 q2 q3 q4 => by
          by_cases e : t' = t
          · subst e; rw [h1] at q4; omega
          · exact ⟨fun h => (hI.hb t' id q1 q2 q3 q4).1 (h.resolve_right e), fun h => (hI.hb t' id q1 q2 q3 q4).2 fun h' => h (.inl h')⟩, hI.hc, hI.bnd⟩ :
          ∃ kS' τ', Step1 P B (stepAt sts t) (fs t) kS (fs (t + 1)) kS' ∧ τ' ≤ steps.length ∧ (∀ t', t' < τ' → E t' ∨ t' = t) ∧ (∀ t', τ' ≤ t' → t' < steps.length → E t' ∨ t' = t → kindOf (stepAt sts t').op ≠ .h) ∧
      (∀ id, id < (ss τ').n → kS' id = (ss τ').h id) ∧
      (∀ t' id, τ' ≤ t' → t' < steps.length → (ss t').n ≤ id → id < (ss (t' + 1)).n → ((E t' ∨ t' = t) → kS' id = (ss (t' + 1)).h id) ∧ (¬ (E t' ∨ t' = t) → kS' id = none)) ∧
      (∀ id, (ss steps.length).n ≤ id → kS' id = k id) ∧ Bnd kS')
      have hgo : ∀ (hist1 : List Heap) (fr1 : Frm) (s1 : St), hist1 = hs (t + 1) → fr1 = fs (t + 1) → s1 = ss (t + 1) → CStep P B (stepAt sts t) (hs t) (fs t) (ss t) hist1 fr1 s1 → _ := fun hist1 fr1 s1 e1 e2 e3 hc => (by
        cases hc with
        | off h1 => exact same e3.symm (e2 ▸ .off h1)
        | pure h1 h2 => exact same e3.symm (e2 ▸ .pure h1 h2)
        | @read v h1 h2 h3 =>
          refine same e3.symm (e2 ▸ .read h1 ?_)
          -- the first writer that has not run yet
          have hfirst : ∃ t1, τ ≤ t1 ∧ t1 ≤ t ∧ (∀ j, τ ≤ j → j < t1 → kindOf (stepAt sts j).op ≠ .h) ∧ evR (ev (fs t)) (ss t1).h (stepAt sts t).op = some v := by
            by_cases hall : ∀ j, τ ≤ j → j < t → kindOf (stepAt sts j).op ≠ .h
            · exact ⟨t, hτt, Nat.le_refl _, hall, h2⟩
            · -- there is one
              have hex : ∃ j, τ ≤ j ∧ j < t ∧ kindOf (stepAt sts j).op = .h := by
                refine Classical.byContradiction fun hn => hall fun j q1 q2 q3 => hn ⟨j, q1, q2, q3⟩
              have least : ∀ n, (∃ j, τ ≤ j ∧ j < n ∧ j < t ∧ kindOf (stepAt sts j).op = .h) → ∃ j, τ ≤ j ∧ j < t ∧ kindOf (stepAt sts j).op = .h ∧ ∀ i, τ ≤ i → i < j → kindOf (stepAt sts i).op ≠ .h := by
                intro n
                induction n with
                | zero => rintro ⟨j, _, h, _⟩; omega
                | succ n ih =>
                  rintro ⟨j, q1, q2, q3, q4⟩
                  by_cases hb : ∃ i, τ ≤ i ∧ i < n ∧ i < t ∧ kindOf (stepAt sts i).op = .h
                  · exact ih hb
                  · exact ⟨j, q1, q3, q4, fun i a b c => hb ⟨i, a, by omega, by omega, c⟩⟩
              obtain ⟨j0, a0, b0, c0⟩ := hex
              obtain ⟨j, q1, q2, q3, q4⟩ := least t ⟨j0, a0, b0, b0, c0⟩
              refine ⟨j, q1, by omega, q4, ?_⟩
              have hnE : ¬ E j := fun hEj => hI.post j q1 (by omega) hEj q3
              have hnb : isBef anc (π.getD j 0) (π.getD t 0) = false := by
                cases hb : isBef anc (π.getD j 0) (π.getD t 0) with
                | false => rfl
                | true => exact absurd (hanc j (by omega) hb) hnE
              -- its number among the writers
              have hmem : j ∈ (List.range t).filter fun i => kindOf (stepAt sts i).op == .h := by simp [List.mem_filter, q2, q3]
              obtain ⟨m, hm, hme⟩ := List.getElem_of_mem hmem
              have hhist : (hs t)[m]? = some (ss j).h := by
                rw [hL.hist t (by omega), List.getElem?_map, List.getElem?_eq_getElem hm, hme]; rfl
              have hpi : ((π.take t).filter fun i => kindOf (stepAt steps i).op == .h) = ((List.range t).filter fun i => kindOf (stepAt sts i).op == .h).map fun i => π.getD i 0 := by
                have hpl := hO.lpi
                have e1 : π.take t = (List.range t).map fun i => π.getD i 0 := by
                  apply List.ext_getElem?
                  intro i
                  rw [List.getElem?_take, List.getElem?_map]
                  by_cases hi : i < t
                  · rw [if_pos hi, List.getElem?_range hi, Option.map_some, List.getD_eq_getElem?_getD, List.getElem?_eq_getElem (by omega)]; rfl
                  · rw [if_neg hi, List.getElem?_eq_none (by simpa using hi)]; rfl
                rw [e1, List.filter_map]
                congr 1
                refine List.filter_congr fun i hi => ?_
                have hi' : i < t := by simpa using hi
                simp only [Function.comp, hL.at_ i (by omega)]
              have hchk : m ∈ (stepAt sts t).chk := by
                have hkr := kind_R h2
                rw [hL.at_ t ht] at hkr ⊢
                simp only at hkr ⊢
                unfold chkOf
                rw [if_pos hkr]
                simp only [hpi, List.mem_filter, List.mem_range, List.length_map, Bool.not_eq_true']
                refine ⟨hm, ?_⟩
                rw [List.getD_eq_getElem?_getD, List.getElem?_map, List.getElem?_eq_getElem hm, hme]
                exact hnb
              obtain ⟨hk', r1, r2⟩ := h3 m hchk
              rw [hhist] at r1
              obtain rfl := Option.some.inj r1
              exact r2
          obtain ⟨t1, p1, p2, p3, p4⟩ := hfirst
          obtain ⟨id, q1, q2, q3⟩ := evR_dep p4
          have hop : ∀ x ∈ opSlots (stepAt sts t).op, get (fs t) x = get frS x := fun x hx => hslots x (by simp [stSlots, hx])
          have hd := hdom id (by rw [← target_congr hop]; exact q1)
          exact q3 kS (hL.below hI (by omega) p1 p3 (lt_of_some (hL.wfs t1 (by omega)) q2) (.inl hd))
        | @new v oo h1 h2 =>
          cases oo with
          | none =>
            obtain ⟨m, hm, h2m⟩ := hI.bnd.fresh
            have hlift := hrun.lift (hL.wfs t (by omega)) (k := (ss t).h) ⟨(ss t).n, (hL.wfs t (by omega)).1⟩ (fun _ _ => rfl)
            have hx : evA (ev (fs t)) m (stepAt sts t).op = some (v, none) := evA_none h2 m
            exact same e3.symm (e2 ▸ Step1.new h1 hm h2m hx)
          | some o =>
            have hn : (ss (t + 1)).n = (ss t).n + 1 := by rw [← e3]; rfl
            have hh : (ss (t + 1)).h = upd (ss t).h (ss t).n o := by rw [← e3]; rfl
            have hno : kS (ss t).n = none := (hI.hb t _ hτt ht (Nat.le_refl _) (by omega)).2 hE
            refine ⟨upd kS (ss t).n o, τ, e2 ▸ Step1.new h1 hno (hL.wfs t (by omega)).2 h2, hI.tle, fun t' h' => .inl (hI.pre t' h'), fun t' q1 q2 q3 => q3.elim (hI.post t' q1 q2) (fun e => e ▸ hk), fun id hid => ?_, fun t' id q1 q2 q3 q4 => ?_, fun id hid => ?_, hI.bnd.upd _ _⟩
            · have := hL.mono hτt (by omega)
              rw [upd_ne _ _ _ _ (by omega)]; exact hI.ha id hid
            · by_cases e : t' = t
              · subst e
                obtain rfl : id = (ss t').n := by omega
                exact ⟨fun _ => by rw [upd_eq, hh, upd_eq], fun h => absurd (.inr rfl) h⟩
              · have hne : id ≠ (ss t).n := by
                  rcases Nat.lt_or_ge t' t with h | h
                  · have := hL.mono (show t' + 1 ≤ t from h) (by omega); omega
                  · have := hL.mono (show t + 1 ≤ t' by omega) (by omega); omega
                rw [upd_ne _ _ _ _ hne]
                exact ⟨fun h => (hI.hb t' id q1 q2 q3 q4).1 (h.resolve_right e), fun h => (hI.hb t' id q1 q2 q3 q4).2 fun h' => h (.inl h')⟩
            · have := hL.mono (show t + 1 ≤ steps.length from ht) (Nat.le_refl _)
              rw [upd_ne _ _ _ _ (by omega)]; exact hI.hc id hid
        | write h1 h2 => exact absurd (kind_H h2) hk
        | call h1 h2 h3 h4 => exact absurd (by simp [h2, kindOf]) hk :
          ∃ kS' τ', Step1 P B (stepAt sts t) (fs t) kS (fs (t + 1)) kS' ∧ τ' ≤ steps.length ∧ (∀ t', t' < τ' → E t' ∨ t' = t) ∧ (∀ t', τ' ≤ t' → t' < steps.length → E t' ∨ t' = t → kindOf (stepAt sts t').op ≠ .h) ∧
      (∀ id, id < (ss τ').n → kS' id = (ss τ').h id) ∧
      (∀ t' id, τ' ≤ t' → t' < steps.length → (ss t').n ≤ id → id < (ss (t' + 1)).n → ((E t' ∨ t' = t) → kS' id = (ss (t' + 1)).h id) ∧ (¬ (E t' ∨ t' = t) → kS' id = none)) ∧
      (∀ id, (ss steps.length).n ≤ id → kS' id = k id) ∧ Bnd kS')
      exact hgo _ _ _ rfl rfl rfl hrun
  obtain ⟨kS', τ', h1, h2, h3, h4, h5, h6, h7, h8⟩ := key
  obtain ⟨ov, e, h1'⟩ := h1.congr hslots
  refine ⟨ov, kS', τ', h1', h2, h3, h4, h5, h6, h7, h8, fun x t2 q1 q2 q3 => ?_⟩
  rw [get_putO]
  by_cases hd : (stepAt sts t).dst = some x
  · rw [if_pos hd]
    have hlt : t < t2 := by
      rcases Nat.lt_or_ge t t2 with h | h
      · exact h
      · exact absurd hd (q3 t h ht (.inr rfl))
    have : get (fs (t + 1)) x = ov := by rw [e, get_putO, if_pos hd]
    rw [← this]
    refine (hL.frame (show t + 1 ≤ t2 from hlt) q1 fun j r1 r2 hdj => ?_).symm
    have hEj := (q2 j r2 hdj).resolve_right (by omega)
    rcases hL.share ht (by omega : j < steps.length) (by omega) hdj (.inl hd) with ⟨h, _⟩ | ⟨_, h⟩
    · omega
    · exact hE (hcl j t (by omega) ht hEj h)
  · rw [if_neg hd]
    exact hI.fr x t2 q1 (fun t' r1 r2 => (q2 t' r1 r2).resolve_right (fun e => hd (e ▸ r2))) fun t' r1 r2 r3 => q3 t' r1 r2 (.inl r3)
end
end Go.Proofs.Ytlmbgaoeplffkaa

/- Regions whose order is open, joined: 'DrawnOk' holds; and what follows for calls. -/
namespace Go.Proofs.Ytlmbgaoeplffkaa
open Go Go.RowKit
set_option linter.unusedVariables false
set_option linter.unusedSimpArgs false
set_option linter.unusedSectionVars false

theorem target_dom {P : Program} {ρ : Rho} {g : Opd → Option AV} {e : Operand → Value} (hop : OpsIn ρ g e) {o : Op} {op : AOp} (hc : cOp P o = some op) {id : Nat} (h : target g op = some id) : ∃ L, ρ id = some L := by
  cases op with
  | load ag s x =>
    obtain ⟨t, a, ho, hg, hs', hx⟩ := inv_load hc
    simp only [target, Option.map_eq_some_iff, Option.bind_eq_some_iff] at h
    obtain ⟨p, ⟨v, h1, h2⟩, rfl⟩ := h
    obtain ⟨L, hL, _⟩ := (hop.rel _ _ _ hx h1).asPtr h2
    exact ⟨L, hL⟩
  | mlen x =>
    obtain ⟨c, a, t, q, q', ho, hcal, ha, ht, hu, hx⟩ := inv_mlen hc
    simp only [target, Option.bind_eq_some_iff] at h
    obtain ⟨v, h1, h2⟩ := h
    obtain ⟨L, hL, _⟩ := (hop.rel _ _ _ hx h1).asMp h2
    exact ⟨L, hL⟩
  | bstr x =>
    obtain ⟨s, d, a, e', ho, hus, hud, hue, hx⟩ := inv_bstr hc
    simp only [target, Option.bind_eq_some_iff] at h
    obtain ⟨⟨id', off, len⟩, ⟨v, h1, h2⟩, h3⟩ := h
    simp only at h3
    split at h3
    · cases h3
    rename_i hid
    obtain rfl := Option.some.inj h3
    have hsl := (hop.rel _ _ _ hx h1).asSl h2
    simp only at hsl
    generalize e a = xv at hsl
    cases hsl with
    | nilS => exact absurd (Nat.zero_le 1) hid
    | emp => exact absurd (Nat.le_refl 1) hid
    | @sl _ _ _ cap L g1 hL g3 g4 => exact ⟨L, hL⟩
  | lookup ks ok z x y =>
    obtain ⟨t, a, b, kt, et, ho, hu, hk, hz, hx, hy⟩ := inv_lookup hc
    simp only [target, Option.bind_eq_some_iff] at h
    obtain ⟨v, h1, h2⟩ := h
    obtain ⟨L, hL, _⟩ := (hop.rel _ _ _ hx h1).asMp h2
    exact ⟨L, hL⟩
  | _ => simp [target] at h

theorem Inv.congr {sts : List AStep} {fs : Nat → Frm} {ss : Nat → St} {k : Heap} {N : Nat} {E E' : Nat → Prop} {τ : Nat} {frS : Frm} {kS : Heap} (h : ∀ t, t < N → (E t ↔ E' t)) (hI : Inv sts fs ss k N E τ frS kS) :
    Inv sts fs ss k N E' τ frS kS :=
  ⟨hI.tle, fun t ht => (h t (Nat.lt_of_lt_of_le ht hI.tle)).1 (hI.pre t ht), fun t h1 h2 h3 => hI.post t h1 h2 ((h t h2).2 h3), hI.ha,
   fun t id h1 h2 h3 h4 => ⟨fun h5 => (hI.hb t id h1 h2 h3 h4).1 ((h t h2).2 h5), fun h5 => (hI.hb t id h1 h2 h3 h4).2 fun h6 => h5 ((h t h2).1 h6)⟩, hI.hc, hI.bnd,
   fun x t h1 h2 h3 => hI.fr x t h1 (fun t' q1 q2 => (h t' (by omega)).2 (h2 t' q1 q2)) fun t' q1 q2 q3 => h3 t' q1 q2 ((h t' q2).1 q3)⟩

theorem filter_less {α : Type} {p q : α → Bool} (hpq : ∀ x, q x = true → p x = true) : ∀ {l : List α} {i : α}, i ∈ l → p i = true → q i = false → (l.filter q).length < (l.filter p).length
  | a :: l, i, hi, h1, h2 => by
    have le : ∀ l : List α, (l.filter q).length ≤ (l.filter p).length := fun l => by
      induction l with
      | nil => simp
      | cons a l ih =>
        by_cases ha : q a = true
        · simp [ha, hpq a ha]; exact ih
        · have : q a = false := by simpa using ha
          by_cases hp : p a = true
          · simp [this, hp]; omega
          · have hp' : p a = false := by simpa using hp
            simp [this, hp']; exact ih
    rcases List.mem_cons.1 hi with rfl | hi
    · have := le l; simp [h1, h2]; omega
    · have ih := filter_less hpq hi h1 h2
      by_cases ha : q a = true
      · simp [ha, hpq a ha]; exact ih
      · have : q a = false := by simpa using ha
        by_cases hp : p a = true
        · simp [this, hp]; omega
        · have hp' : p a = false := by simpa using hp
          simp [this, hp']; exact ih

def unl (N : Nat) (listed : Array Bool) : Nat := ((List.range N).filter fun i => !listed.getD i true).length
def Closed (anc : List Nat) (N : Nat) (listed : Array Bool) : Prop := ∀ i j, i < N → j < N → listed.getD j false = true → isBef anc i j = true → listed.getD i false = true

theorem getD_tf {l : Array Bool} {i : Nat} (h : i < l.size) (d d' : Bool) : l.getD i d = l.getD i d' := by simp [Array.getD_eq_getD_getElem?, h]

section
variable {P : Program} {B nt : Nat} {ops : Array Oper} {anc : List Nat} {steps sts : List AStep} {π : List Nat} {fs : Nat → Frm} {ss : Nat → St} {hs : Nat → List Heap} {k : Heap}

theorem ready_anc (ha : ancGo [] ops.toList = some anc) {listed : Array Bool} (hsz : listed.size = ops.size) (hcl : Closed anc ops.size listed) {j : Nat} {o : Oper} (ho : ops[j]? = some o)
    (hr : ∀ e ∈ o.after, Region.binds .any e = true → listed.getD e.on false = true) {i : Nat} (hi : i < ops.size) (hb : isBef anc i j = true) : listed.getD i false = true := by
  obtain ⟨_, _, h3⟩ := ancGo_spec ha
  have hpre : ∀ p ∈ preds o, listed.getD p false = true := fun p hp => by
    simp only [preds, List.mem_map, List.mem_filter] at hp
    obtain ⟨e, ⟨h1, h2⟩, rfl⟩ := hp
    exact hr e (by simpa using h1) h2
  obtain ⟨h4, h5⟩ := h3 j o (by simpa using ho)
  simp only [List.length_nil, Nat.zero_add] at h4 h5
  have hj : j < ops.size := (Array.getElem?_eq_some_iff.1 ho).1
  unfold isBef at hb
  rw [h5] at hb
  rcases ancF_mem _ _ hb with hb | hb | ⟨p, hp, hb⟩
  · rw [Nat.zero_testBit] at hb; cases hb
  · exact hpre i hb
  · exact hcl i p hi (by have := h4 p hp; omega) (hpre p hp) hb

theorem all_listed (ha : ancGo [] ops.toList = some anc) {listed : Array Bool} (hsz : listed.size = ops.size) (hr : Region.ready .any ops listed = []) : ∀ i, i < ops.size → listed.getD i false = true := by
  obtain ⟨_, _, h3⟩ := ancGo_spec ha
  intro i
  induction i using Nat.strongRecOn with
  | _ i ih =>
    intro hi
    cases hb : listed.getD i false with
    | true => rfl
    | false =>
      exfalso
      have : i ∈ Region.ready .any ops listed := by
        rw [mem_ready]
        refine ⟨by rw [getD_tf (by omega) true false]; exact hb, ops[i], Array.getElem?_eq_getElem hi, fun e he hbi => ?_⟩
        obtain ⟨h4, _⟩ := h3 i ops[i] (by simp [hi])
        have hp : e.on ∈ preds ops[i] := by
          simp only [preds, List.mem_map, List.mem_filter]
          exact ⟨e, ⟨by simpa using he, hbi⟩, rfl⟩
        have := h4 _ hp
        simp only [List.length_nil, Nat.zero_add] at this
        exact ih e.on this (by omega)
      rw [hr] at this; cases this

theorem drawn_go (hL : Line P B anc steps sts π fs ss hs) (ha : ancGo [] ops.toList = some anc) (hN : steps.length = ops.size) (hst : ∀ i, i < ops.size → ∀ c, StepOf P nt ops i { stepAt steps i with chk := c })
    {Q : Exit → Act → World → Prop} : ∀ (fuel : Nat) (listed : Array Bool), listed.size = ops.size → unl ops.size listed ≤ fuel → Closed anc ops.size listed →
      ∀ τ frS kS, Inv sts fs ss k steps.length (fun t => listed.getD (π.getD t 0) false = true) τ frS kS → ∀ ρ a w, FRel ρ nt frS a → Sim B ρ kS w →
      (∀ ρ' a' w', Ext ρ ρ' → Below B w w' → FRel ρ' nt (fs steps.length) a' → Sim B ρ' (mrg (ss steps.length).h k (ss steps.length).n) w' → Q .normal a' w') → wpAny P .any ops Q fuel listed a w := by
  intro fuel
  have hend : ∀ (listed : Array Bool), listed.size = ops.size → ∀ τ frS kS, Inv sts fs ss k steps.length (fun t => listed.getD (π.getD t 0) false = true) τ frS kS → ∀ ρ a w, FRel ρ nt frS a → Sim B ρ kS w →
      (∀ ρ' a' w', Ext ρ ρ' → Below B w w' → FRel ρ' nt (fs steps.length) a' → Sim B ρ' (mrg (ss steps.length).h k (ss steps.length).n) w' → Q .normal a' w') → Region.ready .any ops listed = [] → Q .normal a w := by
    intro listed hsz τ frS kS hI ρ a w hf hs' hQ hr
    have hall := all_listed ha hsz hr
    have hE : ∀ t, t < steps.length → listed.getD (π.getD t 0) false = true := fun t ht => hall _ (by have := hL.ord.lt t ht; omega)
    refine hQ ρ a w (Ext.refl ρ) (Below.refl B w) ⟨hf.defers, hf.size, fun i v hv => hf.val i v ?_⟩ ?_
    · rw [hI.fr i steps.length (Nat.le_refl _) (fun t' h' _ => hE t' h') (fun t' h1 h2 _ => absurd h2 (by omega))]; exact hv
    · have : mrg (ss steps.length).h k (ss steps.length).n = kS := by
        funext id
        unfold mrg
        split
        · rename_i hid
          exact (hL.below hI (Nat.le_refl _) hI.tle (fun j h1 h2 => hI.post j h1 h2 (hE j h2)) hid (.inr hE)).symm
        · rename_i hid; exact (hI.hc id (by omega)).symm
      rw [this]; exact hs'
  induction fuel with
  | zero =>
    intro listed hsz hu hcl τ frS kS hI ρ a w hf hs' hQ
    have hnone : Region.ready .any ops listed = [] := by
      cases hr : Region.ready .any ops listed with
      | nil => rfl
      | cons i r =>
        exfalso
        have hi : i ∈ Region.ready .any ops listed := by rw [hr]; exact List.mem_cons_self
        rw [mem_ready] at hi
        obtain ⟨h0, o, ho, _⟩ := hi
        have hlt := (Array.getElem?_eq_some_iff.1 ho).1
        have : i ∈ (List.range ops.size).filter fun i => !listed.getD i true := by rw [List.mem_filter]; exact ⟨by simpa using hlt, by rw [h0]; rfl⟩
        have := List.length_pos_of_mem this
        unfold unl at hu; omega
    exact ⟨hnone, hend listed hsz τ frS kS hI ρ a w hf hs' hQ hnone⟩
  | succ fuel ih =>
    intro listed hsz hu hcl τ frS kS hI ρ a w hf hs' hQ
    refine ⟨hend listed hsz τ frS kS hI ρ a w hf hs' hQ, fun i hi => ?_⟩
    rw [mem_ready] at hi
    obtain ⟨h0, o, ho, hafter⟩ := hi
    have hlt := (Array.getElem?_eq_some_iff.1 ho).1
    obtain ⟨t, ht, hti⟩ := hL.ord.surj i (by omega)
    have hat := hL.at_ t ht
    rw [hti] at hat
    have hstep : StepOf P nt ops i (stepAt sts t) := by rw [hat]; exact hst i hlt _
    have hnot : ¬ (listed.getD (π.getD t 0) false = true) := by rw [hti, getD_tf (by omega) false true, h0]; simp
    obtain ⟨ov, kS', τ', h1, hI'⟩ := hL.step hI ht hnot
      (fun t' ht' hb => by unfold bef at hb; rw [hti] at hb; exact ready_anc ha hsz hcl ho hafter (by have := hL.ord.lt t' ht'; omega) hb)
      (fun t1 t2 q1 q2 q3 q4 => hcl _ _ (by have := hL.ord.lt t2 q2; omega) (by have := hL.ord.lt t1 q1; omega) q3 q4)
      (fun id hid => by
        obtain ⟨o', ho', hd, hdst, hop, hg⟩ := hstep.ex
        rcases hop with hop | hop
        · obtain ⟨L, hLo⟩ := target_dom hf.ops hop hid
          exact hs'.dom id L hLo
        · rw [hop] at hid; cases hid)
    refine step1_sound hstep h1 hf hs' fun ρ' a' w' he hbl hf' hs2 => ?_
    refine ih (listed.setIfInBounds i true) (by simpa using hsz) ?_ ?_ τ' _ kS' ?_ ρ' a' w' hf' hs2 fun ρ2 a2 w2 he2 hb2 => hQ ρ2 a2 w2 (he.trans he2) (hbl.trans hb2)
    · have hless : unl ops.size (listed.setIfInBounds i true) < unl ops.size listed := by
        refine filter_less (i := i) (fun x hx => ?_) (by simpa using hlt) (by rw [h0]; rfl) ?_
        · by_cases hxi : i = x
          · subst hxi; exfalso; simp [Array.getD_eq_getD_getElem?, hsz, hlt] at hx
          · rw [getD_set_ne true hxi] at hx; exact hx
        · simp [Array.getD_eq_getD_getElem?, hsz, hlt]
      omega
    · intro x y hx hy hly hxy
      by_cases hyi : i = y
      · subst hyi
        exact getD_set_true (ready_anc ha hsz hcl ho hafter hx hxy)
      · rw [getD_set_ne false hyi] at hly
        exact getD_set_true (hcl x y hx hy hly hxy)
    · refine hI'.congr fun t2 h2 => ?_
      by_cases e : t2 = t
      · subst e; rw [hti]; simp [Array.getD_eq_getD_getElem?, hsz, hlt]
      · have hne : i ≠ π.getD t2 0 := by
          rw [← hti]
          rcases Nat.lt_or_ge t2 t with h | h
          · exact hL.ord.inj t t2 ht h
          · exact Ne.symm (hL.ord.inj t2 t h2 (by omega))
        rw [getD_set_ne false hne]; simp [e]

theorem stepAt_get {l : List AStep} {t : Nat} {st : AStep} (h : l[t]? = some st) : stepAt l t = st := by unfold stepAt; rw [List.getD_eq_getElem?_getD, h]; rfl

theorem drawnOk (P : Program) (B : Nat) : DrawnOk P B := by
  intro nt ops sts fr s fr' s' hc ht hw k hb hag ρ a w hf hsim Q hQ
  unfold cDraw at hc
  simp only [Option.bind_eq_some_iff] at hc
  obtain ⟨steps, hsteps, anc, hanc, hc⟩ := hc
  split at hc
  · rename_i hok
    generalize hπ : orderGo anc steps.length ((List.range steps.length).filter fun i => kindOf (stepAt steps i).op == .h) [] = π at hok hc
    obtain rfl := Option.some.inj hc
    have hord := orderOk_ord hok
    have hall := cSteps_all hsteps
    have hN : steps.length = ops.size := by simpa using hall.len
    obtain ⟨fs, ss, hs, e1, e2, e3, e4, e5, e6⟩ := ht.run
    simp only [List.length_map, List.length_range] at e4 e5 e6
    have hL : Line P B anc steps ((List.range steps.length).map fun t => { stepAt steps (π.getD t 0) with chk := chkOf anc steps π t }) π fs ss hs :=
      ⟨hord, by simp, fun t h => stepAt_get (by rw [List.getElem?_map, List.getElem?_range h]; rfl), e2 ▸ hw, e3, e6⟩
    have hst : ∀ i, i < ops.size → ∀ c, StepOf P nt ops i { stepAt steps i with chk := c } := fun i hi c => by
      obtain ⟨o, ho, hcs⟩ := hall.get i (steps[i]'(by omega)) (List.getElem?_eq_getElem _)
      have : stepAt steps i = steps[i]'(by omega) := stepAt_get (List.getElem?_eq_getElem _)
      rw [this]
      exact cStep_of (by simpa using ho) hcs c
    have hI : Inv ((List.range steps.length).map fun t => { stepAt steps (π.getD t 0) with chk := chkOf anc steps π t }) fs ss k steps.length (fun t => (Array.replicate ops.size false).getD (π.getD t 0) false = true) 0 fr k := by
      have hF : ∀ t, ¬ ((Array.replicate ops.size false).getD (π.getD t 0) false = true) := fun t => by
        simp [Array.getD_eq_getD_getElem?, Array.getElem?_replicate]; split <;> simp
      refine ⟨Nat.zero_le _, fun t h => absurd h (by omega), fun t _ _ h => absurd h (hF t), fun id hid => ?_, fun t id _ h1 h2 h3 => ⟨fun h => absurd h (hF t), fun _ => ?_⟩, fun _ _ => rfl, hb, fun x t h1 h2 _ => ?_⟩
      · rw [e2] at hid ⊢
        have := hL.mono (Nat.zero_le steps.length) (Nat.le_refl _)
        rw [e2, e5] at this
        exact hag id (by omega)
      · have q1 := hL.mono (show t + 1 ≤ steps.length from h1) (Nat.le_refl _)
        have q2 := hL.mono (Nat.zero_le t) (by omega)
        rw [e5] at q1; rw [e2] at q2
        rw [hag id (by omega)]; exact hw.1 id (by omega)
      · rw [hL.frame (Nat.zero_le t) h1 fun j _ hj hd => absurd (h2 j hj hd) (hF j), e1]
    refine drawn_go hL hanc hN hst ops.size _ (by simp) ?_ ?_ 0 fr k hI ρ a w hf hsim fun ρ' a' w' he hbl hf' hs' => ?_
    · unfold unl
      exact Nat.le_trans (List.length_filter_le _ _) (by simp)
    · intro i j _ _ h _
      exfalso; revert h
      simp [Array.getD_eq_getD_getElem?, Array.getElem?_replicate]; split <;> simp
    · rw [e4] at hf'; rw [e5] at hs'
      exact hQ ρ' a' w' he hbl hf' hs'
  · cases hc

/-- A run of abstract code is a run of the model's. -/
theorem calls_of_ex {H : Hints} (hm : P.follows .mixedOrders = true) {f : Nat} {args : List AV} {s s' : St} {v : AV} (hx : Ex P H (.call f args s) (.ret v s')) (hw : s.WF)
    {ρ : Rho} {w : World} {xs : List Value} (hs : Sim B ρ s.h w) (hxs : All2 (VRel ρ) args xs) :
    Calls P f xs.toArray w fun e w' => ∃ x ρ', e = .returned x ∧ VRel ρ' v x ∧ Ext ρ ρ' ∧ Below B w w' ∧ Sim B ρ' s'.h w' := by
  obtain ⟨hg, h⟩ := sound hm (drawnOk P B) hx hw
  have hb : Bnd s.h := ⟨s.n, hw.1⟩
  have ha : Agree s.h s.h s'.n := fun _ _ => rfl
  have h1 := (h s.h hb ha).2 ρ w xs hs hxs
  have : mrg s'.h s.h s'.n = s'.h := by
    funext id; unfold mrg; split
    · rfl
    · rename_i hid; rw [hw.1 id (by have := hg.le; omega), hg.wf.1 id (by omega)]
  rw [this] at h1
  exact h1
end
end Go.Proofs.Ytlmbgaoeplffkaa

