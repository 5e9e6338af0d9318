/- Code that runs with some slots runs with more: so dead slots can be forgotten. -/
import Derived.Test.YtlhidckolillaaaXshifts
import Derived.Test.YtlhidckolillaaaFB
namespace Go.Proofs.Ytlhidckolillaaa
open Go Go.RowKit
set_option linter.unusedVariables false
set_option linter.unusedSimpArgs false
set_option maxRecDepth 100000
set_option maxHeartbeats 8000000


def LeF (a c : Frm) : Prop := ∀ i v, get a i = some v → get c i = some v
theorem LeF.put {a c : Frm} (h : LeF a c) (d : Option Nat) (ov : Option AV) : LeF (putO a d ov) (putO c d ov) := by
  intro i v
  rw [get_putO, get_putO]
  split
  · exact id
  · exact h i v
theorem LeF.restr {a c : Frm} (h : LeF a c) : ∀ l, LeF (restr a l) (restr c l)
  | [] => fun i v e => by cases e
  | j :: l => by
    have ih := LeF.restr h l
    intro i v e
    have low : get (Go.Proofs.Ytlhidckolillaaa.restr c (j :: l)) i = if i = j then (match get c j with | some w => some w | none => get (Go.Proofs.Ytlhidckolillaaa.restr c l) i) else get (Go.Proofs.Ytlhidckolillaaa.restr c l) i := by
      show get (match get c j with | some v => (j, v) :: Go.Proofs.Ytlhidckolillaaa.restr c l | none => Go.Proofs.Ytlhidckolillaaa.restr c l) i = _
      cases hc : get c j with
      | none => by_cases q : i = j; (rw [if_pos q]); (rw [if_neg q])
      | some w =>
        show (if i = j then some w else get (Go.Proofs.Ytlhidckolillaaa.restr c l) i) = _
        split <;> rfl
    have low2 : get (Go.Proofs.Ytlhidckolillaaa.restr a (j :: l)) i = if i = j then (match get a j with | some w => some w | none => get (Go.Proofs.Ytlhidckolillaaa.restr a l) i) else get (Go.Proofs.Ytlhidckolillaaa.restr a l) i := by
      show get (match get a j with | some v => (j, v) :: Go.Proofs.Ytlhidckolillaaa.restr a l | none => Go.Proofs.Ytlhidckolillaaa.restr a l) i = _
      cases hc : get a j with
      | none => by_cases q : i = j; (rw [if_pos q]); (rw [if_neg q])
      | some w =>
        show (if i = j then some w else get (Go.Proofs.Ytlhidckolillaaa.restr a l) i) = _
        split <;> rfl
    rw [low2] at e
    rw [low]
    by_cases hij : i = j
    · rw [if_pos hij] at e ⊢
      cases ha : get a j with
      | some w =>
        rw [ha] at e
        rw [h j w ha]; exact e
      | none =>
        rw [ha] at e
        have e' : get (Go.Proofs.Ytlhidckolillaaa.restr a l) i = some v := e
        have k := get_restr e'
        rw [hij, ha] at k; cases k
    · rw [if_neg hij] at e ⊢
      exact ih i v e
theorem LeF.ev {a c : Frm} (h : LeF a c) : ∀ {x : Opd} {v : AV}, ev a x = some v → ev c x = some v
  | .t i, v, e => h i v e
  | .k w, v, e => e
  | .f n, v, e => e
theorem LeF.evs {a c : Frm} (h : LeF a c) : ∀ {l : List Opd} {vs : List AV}, evs a l = some vs → evs c l = some vs
  | [], vs, e => e
  | x :: l, vs, e => by
    have e' : ((Go.Proofs.Ytlhidckolillaaa.ev a x).bind fun v => (Go.Proofs.Ytlhidckolillaaa.evs a l).map (v :: ·)) = some vs := e
    obtain ⟨v, hv, e2⟩ := Option.bind_eq_some_iff.1 e'
    obtain ⟨ws, hw, e3⟩ := Option.map_eq_some_iff.1 e2
    show ((Go.Proofs.Ytlhidckolillaaa.ev c x).bind fun v => (Go.Proofs.Ytlhidckolillaaa.evs c l).map (v :: ·)) = some vs
    rw [h.ev hv, Option.bind_some, LeF.evs h hw, Option.map_some, e3]
theorem LeF.gon {a c : Frm} (h : LeF a c) : ∀ {g : Option (Nat × Bool)} {t : Bool}, gon a g = some t → gon c g = some t
  | none, t, e => e
  | some (i, w), t, e => by
    obtain ⟨v, hv, e2⟩ := Option.bind_eq_some_iff.1 e
    exact Option.bind_eq_some_iff.2 ⟨v, h i v hv, e2⟩
theorem LeF.callee {a c : Frm} (h : LeF a c) {f : Opd} {args : List Opd} {r : Nat × List AV} (e : callee a f args = some r) : callee c f args = some r := by
  unfold Go.Proofs.Ytlhidckolillaaa.callee at e ⊢
  obtain ⟨v, hv, e2⟩ := Option.bind_eq_some_iff.1 e
  obtain ⟨vs, hvs, e3⟩ := Option.bind_eq_some_iff.1 e2
  rw [h.ev hv, Option.bind_some, h.evs hvs, Option.bind_some]; exact e3
section
variable {g g' : Opd → Option AV} (hg : ∀ x v, g x = some v → g' x = some v)
include hg
theorem fillV_mono : ∀ (l : List (Nat × Nat × Opd)) (cs : List AC) {r : List AC}, fillV g cs l = some r → fillV g' cs l = some r
  | [], cs, r, e => e
  | (off, size, x) :: l, cs, r, e => by
    have e' : ((g x).bind fun v => (asP v).bind fun p => if p.cells.length = size ∧ off + size ≤ cs.length then fillV g (splice cs off p.cells) l else none) = some r := e
    obtain ⟨v, hv, e2⟩ := Option.bind_eq_some_iff.1 e'
    obtain ⟨p, hp, e3⟩ := Option.bind_eq_some_iff.1 e2
    show ((g' x).bind fun v => (asP v).bind fun p => if p.cells.length = size ∧ off + size ≤ cs.length then fillV g' (splice cs off p.cells) l else none) = some r
    rw [hg _ _ hv, Option.bind_some, hp, Option.bind_some]
    by_cases hc : p.cells.length = size ∧ off + size ≤ cs.length
    · rw [if_pos hc] at e3 ⊢; exact fillV_mono l _ e3
    · rw [if_neg hc] at e3; cases e3
theorem ptrsV_mono : ∀ (l : List Opd) {r : List (Nat × Nat)}, ptrsV g l = some r → ptrsV g' l = some r
  | [], r, e => e
  | x :: l, r, e => by
    have e' : ((g x).bind fun v => (asPtr v).bind fun p => (ptrsV g l).map (p :: ·)) = some r := e
    obtain ⟨v, hv, e2⟩ := Option.bind_eq_some_iff.1 e'
    obtain ⟨p, hp, e3⟩ := Option.bind_eq_some_iff.1 e2
    obtain ⟨ws, hw, e4⟩ := Option.map_eq_some_iff.1 e3
    show ((g' x).bind fun v => (asPtr v).bind fun p => (ptrsV g' l).map (p :: ·)) = some r
    rw [hg _ _ hv, Option.bind_some, hp, Option.bind_some, ptrsV_mono l hw, Option.map_some, e4]
theorem firstV_mono : ∀ (l : List Opd) {r : List AP}, firstV g l = some r → firstV g' l = some r
  | [], r, e => e
  | x :: l, r, e => by
    have e' : ((g x).bind fun v => (asP v).bind fun p => (firstV g l).map (p :: ·)) = some r := e
    obtain ⟨v, hv, e2⟩ := Option.bind_eq_some_iff.1 e'
    obtain ⟨p, hp, e3⟩ := Option.bind_eq_some_iff.1 e2
    obtain ⟨ws, hw, e4⟩ := Option.map_eq_some_iff.1 e3
    show ((g' x).bind fun v => (asP v).bind fun p => (firstV g' l).map (p :: ·)) = some r
    rw [hg _ _ hv, Option.bind_some, hp, Option.bind_some, firstV_mono l hw, Option.map_some, e4]
theorem optI_mono : ∀ (x : Option Opd) {r : Option Int}, optI g x = some r → optI g' x = some r
  | none, r, e => e
  | some x, r, e => by
    have e' : ((g x).bind asI).map some = some r := e
    obtain ⟨w, hw, e2⟩ := Option.map_eq_some_iff.1 e'
    obtain ⟨v, hv, e3⟩ := Option.bind_eq_some_iff.1 hw
    show ((g' x).bind asI).map some = some r
    rw [hg _ _ hv, Option.bind_some, e3, Option.map_some, e2]
theorem bind_mono {α : Type} {x : Opd} {F F' : AV → Option α} {r : α} (e : (g x).bind F = some r) (h : ∀ v, F v = some r → F' v = some r) : (g' x).bind F' = some r := by
  obtain ⟨v, hv, e2⟩ := Option.bind_eq_some_iff.1 e
  exact Option.bind_eq_some_iff.2 ⟨v, hg _ _ hv, h v e2⟩
omit hg in
theorem bind_monoR {α β : Type} {o : Option β} {F F' : β → Option α} {r : α} (e : o.bind F = some r) (h : ∀ v, F v = some r → F' v = some r) : o.bind F' = some r := by
  obtain ⟨v, hv, e2⟩ := Option.bind_eq_some_iff.1 e
  exact Option.bind_eq_some_iff.2 ⟨v, hv, h v e2⟩
theorem evP_mono : ∀ (op : AOp) {r : AV}, evP g op = some r → evP g' op = some r := by
  intro op r e
  cases op
  case mv x =>
    exact hg _ _ e
  case pick c x y =>
    exact bind_mono hg (F' := fun v => (asB v).bind fun t => if t then g' x else g' y) e fun v e => bind_monoR e fun t e => by
      cases t with
      | true => exact hg _ _ e
      | false => exact hg _ _ e
  case bin op x y =>
    exact bind_mono hg (F' := fun a => (g' y).bind fun b => binV op a b) e fun v e => bind_mono hg e fun _ e => e
  case beq neg x y =>
    exact bind_mono hg (F' := fun a => (g' y).bind fun b => beqV neg a b) e fun v e => bind_mono hg e fun _ e => e
  case isNil neg x =>
    exact bind_mono hg (F' := isNilV neg) e fun _ e => e
  case un op x =>
    exact bind_mono hg (F' := unV op) e fun _ e => e
  case conv k x =>
    exact bind_mono hg (F' := convV k) e fun _ e => e
  case convF k x =>
    exact bind_mono hg (F' := convFV k) e fun _ e => e
  case ext x i =>
    exact bind_mono hg (F' := fun v => extV v i) e fun _ e => e
  case fieldA off x =>
    exact bind_mono hg (F' := fieldV off) e fun _ e => e
  case idxA esz x i =>
    exact bind_mono hg (F' := fun a => (g' i).bind fun b => idxV esz a b) e fun v e => bind_mono hg e fun _ e => e
  case idxArr n esz x i =>
    exact bind_mono hg (F' := fun a => (g' i).bind fun b => idxArrV n esz a b) e fun v e => bind_mono hg e fun _ e => e
  case idxV n esz agg x i =>
    exact bind_mono hg (F' := fun a => (g' i).bind fun b => idxVV n esz agg a b) e fun v e => bind_mono hg e fun _ e => e
  case nilChk x =>
    exact bind_mono hg (F' := nilChkV) e fun _ e => e
  case build zero parts =>
    obtain ⟨w, hw, e2⟩ := Option.map_eq_some_iff.1 (show (fillV g zero parts).map AV.agg = some r from e)
    exact Option.map_eq_some_iff.2 ⟨w, fillV_mono hg _ _ hw, e2⟩
  case mkFn f caps =>
    obtain ⟨w, hw, e2⟩ := Option.map_eq_some_iff.1 (show (ptrsV g caps).map (fun l => AV.c (.fn f l)) = some r from e)
    exact Option.map_eq_some_iff.2 ⟨w, ptrsV_mono hg _ hw, e2⟩
  case mkBound f first =>
    obtain ⟨w, hw, e2⟩ := Option.map_eq_some_iff.1 (show (firstV g first).map (.bfn f) = some r from e)
    exact Option.map_eq_some_iff.2 ⟨w, firstV_mono hg _ hw, e2⟩
  case slice esz x lo hi =>
    exact bind_mono hg (F' := fun a => (optI g' lo).bind fun l => (optI g' hi).bind fun h => sliceV esz a l h) e fun v e => by
      obtain ⟨l, h1, e2⟩ := Option.bind_eq_some_iff.1 e
      obtain ⟨h, h2, e3⟩ := Option.bind_eq_some_iff.1 e2
      exact Option.bind_eq_some_iff.2 ⟨l, optI_mono hg _ h1, Option.bind_eq_some_iff.2 ⟨h, optI_mono hg _ h2, e3⟩⟩
  case slice00 x =>
    exact bind_mono hg (F' := slice00V) e fun _ e => e
  case len b x =>
    exact bind_mono hg (F' := lenV b) e fun _ e => e
  case minmax m x y =>
    exact bind_mono hg (F' := fun a => (g' y).bind fun b => minmaxV m a b) e fun v e => bind_mono hg e fun _ e => e
  all_goals cases e
theorem evR_mono {h : Heap} : ∀ (op : AOp) {r : AV}, evR g h op = some r → evR g' h op = some r := by
  intro op r e
  cases op
  case load agg size x =>
    exact bind_mono hg (F' := fun v => (asPtr v).bind fun p => if agg then (cellsAt h p.1 p.2 size).map AV.agg else (cellsOf h p.1).bind fun cs => (cs[p.2]?).map AV.c) e fun _ e => e
  case mlen x =>
    exact bind_mono hg (F' := fun v => (asMp v).bind fun id => match h id with
    | some (.map kv) => some (iv kv.length)
    | _ => none) e fun _ e => e
  case bstr x =>
    exact bind_mono hg (F' := fun v => (asSl v).bind fun p => if p.1 ≤ 1 then none else (cellsAt h p.1 p.2.1 p.2.2).bind fun cs => (numsOf cs).map fun xs => .c (.str (strN xs))) e fun _ e => e
  case lookup ks ok zero x k =>
    exact bind_mono hg (F' := fun v => (asMp v).bind fun id => (g' k).bind fun kv' => (asC kv').bind fun key => match h id with
    | some (.map kv) => (scanKV ks key kv).map fun r => if ok then .tup [.c (r.getD zero), .c (.bool r.isSome)] else .c (r.getD zero)
    | _ => none) e fun _ e => bind_monoR e fun _ e => bind_mono hg e fun _ e => e
  all_goals cases e
theorem evA_mono {n : Nat} : ∀ (op : AOp) {r : AV × Option AObj}, evA g n op = some r → evA g' n op = some r := by
  intro op r e
  cases op
  case alloc t zero =>
    exact e
  case box t x =>
    exact bind_mono hg (F' := fun v => (asP v).map fun p => (AV.c (.ptr n 0), some (AObj.rw t p.cells.length p.cells))) e fun _ e => e
  case buildS t esz len zero parts =>
    simp only [evA] at e ⊢
    by_cases h0 : len = 0
    · rw [if_pos h0] at e ⊢; exact e
    · rw [if_neg h0] at e ⊢
      obtain ⟨w, hw, e2⟩ := Option.map_eq_some_iff.1 e
      exact Option.map_eq_some_iff.2 ⟨w, fillV_mono hg _ _ hw, e2⟩
  case makeS t esz bytes zero x c =>
    simp only [evA] at e ⊢
    exact bind_mono hg e fun _ e => bind_monoR e fun _ e => bind_mono hg e fun _ e => e
  case mkMap =>
    exact e
  all_goals cases e
theorem evH_mono {h : Heap} {n : Nat} : ∀ (op : AOp) {r : Option AV × Heap × Nat}, evH g h n op = some r → evH g' h n op = some r := by
  intro op r e
  cases op
  case store size x v =>
    simp only [evH] at e ⊢
    exact bind_mono hg e fun _ e => bind_monoR e fun _ e => bind_mono hg e fun _ e => e
  case append t esz bytes s x =>
    simp only [evH] at e ⊢
    exact bind_mono hg e fun _ e => bind_monoR e fun _ e => bind_mono hg e fun _ e => e
  case copy esz d s =>
    simp only [evH] at e ⊢
    exact bind_mono hg e fun _ e => bind_monoR e fun _ e => bind_mono hg e fun _ e => e
  case mapSet ks x k v =>
    simp only [evH] at e ⊢
    exact bind_mono hg e fun _ e => bind_monoR e fun _ e => bind_mono hg e fun _ e => bind_monoR e fun _ e => bind_mono hg e fun _ e => e
  all_goals cases e
end
/-- Runs with more slots. -/
def MonoQ : Task → Res → Prop
  | .code c fr s, .out o fr1 s1 => ∀ fr', LeF fr fr' → ∃ fr1', LeF fr1 fr1' ∧ X (.code c fr' s) (.out o fr1' s1)
  | .ops l hist fr s, .done fr1 s1 => ∀ fr', LeF fr fr' → ∃ fr1', LeF fr1 fr1' ∧ X (.ops l hist fr' s) (.done fr1' s1)
  | _, _ => True
theorem resV_mono {a c : Frm} (hl : LeF a c) {h : Heap} : ∀ {r : ARes} {v : AV}, resV a h r = some v → resV c h r = some v
  | .t i, v, e => hl i v e
  | .cell ag size i, v, e => by
    obtain ⟨w, hw, e2⟩ := Option.bind_eq_some_iff.1 (show ((get a i).bind fun v => (asPtr v).bind fun p => if ag then (cellsAt h p.1 p.2 size).map AV.agg else (cellsOf h p.1).bind fun cs => (cs[p.2]?).map AV.c) = some v from e)
    exact Option.bind_eq_some_iff.2 ⟨w, hl i w hw, e2⟩
theorem resPs_mono {a c : Frm} (hl : LeF a c) {h : Heap} : ∀ {l : List ARes} {v : List AP}, resPs a h l = some v → resPs c h l = some v
  | [], v, e => e
  | r :: l, v, e => by
    obtain ⟨w, hw, e2⟩ := Option.bind_eq_some_iff.1 (show ((resV a h r).bind fun v => (asP v).bind fun p => (resPs a h l).map (p :: ·)) = some v from e)
    obtain ⟨p, hp, e3⟩ := Option.bind_eq_some_iff.1 e2
    obtain ⟨ps, hps, e4⟩ := Option.map_eq_some_iff.1 e3
    show ((resV c h r).bind fun v => (asP v).bind fun p => (resPs c h l).map (p :: ·)) = some v
    rw [resV_mono hl hw, Option.bind_some, hp, Option.bind_some, resPs_mono hl hps, Option.map_some, e4]
theorem resultV_mono {a c : Frm} (hl : LeF a c) {h : Heap} : ∀ {l : List ARes} {v : AV}, resultV a h l = some v → resultV c h l = some v
  | [r], v, e => resV_mono hl e
  | [], v, e => e
  | r1 :: r2 :: l, v, e => by
    obtain ⟨ps, hps, e2⟩ := Option.map_eq_some_iff.1 (show (resPs a h (r1 :: r2 :: l)).map AV.tup = some v from e)
    exact Option.map_eq_some_iff.2 ⟨ps, resPs_mono hl hps, e2⟩
theorem ex_mono {t : Task} {r : Res} (h : X t r) : MonoQ t r := by
  induction h with
  | skip => exact fun fr' hl => ⟨_, hl, .skip⟩
  | ops _ ih => exact fun fr' hl => let ⟨f, a, b⟩ := ih fr' hl; ⟨f, a, .ops b⟩
  | seq _ _ ih1 ih2 => exact fun fr' hl => let ⟨f, a, b⟩ := ih1 fr' hl; let ⟨f2, a2, b2⟩ := ih2 f a; ⟨f2, a2, .seq b b2⟩
  | seqX _ hne ih => exact fun fr' hl => let ⟨f, a, b⟩ := ih fr' hl; ⟨f, a, .seqX b hne⟩
  | cond hc _ ih =>
    intro fr' hl
    obtain ⟨f, a, b⟩ := ih fr' hl
    obtain ⟨v, hv, hb⟩ := Option.bind_eq_some_iff.1 hc
    exact ⟨f, a, .cond (Option.bind_eq_some_iff.2 ⟨v, hl.ev hv, hb⟩) b⟩
  | block _ ih => exact fun fr' hl => let ⟨f, a, b⟩ := ih fr' hl; ⟨f, a, .block b⟩
  | loopN _ _ ih1 ih2 => exact fun fr' hl => let ⟨f, a, b⟩ := ih1 _ (hl.restr _); let ⟨f2, a2, b2⟩ := ih2 f a; ⟨f2, a2, .loopN b b2⟩
  | loopX _ hne ih => exact fun fr' hl => let ⟨f, a, b⟩ := ih _ (hl.restr _); ⟨f, a, .loopX b hne⟩
  | exit => exact fun fr' hl => ⟨_, hl, .exit⟩
  | ret => exact fun fr' hl => ⟨_, hl, .ret⟩
  | nil => exact fun fr' hl => ⟨_, hl, .nil⟩
  | off hg _ ih => exact fun fr' hl => let ⟨f, a, b⟩ := ih _ (hl.put _ _); ⟨f, a, .off (hl.gon hg) b⟩
  | pure hg hv _ ih => exact fun fr' hl => let ⟨f, a, b⟩ := ih _ (hl.put _ _); ⟨f, a, .pure (hl.gon hg) (evP_mono (fun _ _ => hl.ev) _ hv) b⟩
  | read hg hv hc _ ih =>
    intro fr' hl
    obtain ⟨f, a, b⟩ := ih _ (hl.put _ _)
    refine ⟨f, a, .read (hl.gon hg) (evR_mono (fun _ _ => hl.ev) _ hv) (fun k hk => ?_) b⟩
    obtain ⟨hh, q1, q2⟩ := hc k hk
    exact ⟨hh, q1, evR_mono (fun _ _ => hl.ev) _ q2⟩
  | new hg hv _ ih => exact fun fr' hl => let ⟨f, a, b⟩ := ih _ (hl.put _ _); ⟨f, a, .new (hl.gon hg) (evA_mono (fun _ _ => hl.ev) _ hv) b⟩
  | write hg hv _ ih => exact fun fr' hl => let ⟨f, a, b⟩ := ih _ (hl.put _ _); ⟨f, a, .write (hl.gon hg) (evH_mono (fun _ _ => hl.ev) _ hv) b⟩
  | call hg ho hc hx _ _ ih => exact fun fr' hl => let ⟨f, a, b⟩ := ih _ (hl.put _ _); ⟨f, a, .call (hl.gon hg) ho (hl.callee hc) hx b⟩
  | fn => trivial
def plainK : KK → Bool
  | .ret _ _ => true
  | .thn _ k => plainK k
  | .blk _ k => plainK k
  | .rnd _ _ _ _ => false
theorem kq_mono {B : List Nat} {b : St} {s : St} : ∀ (k : KK) {o : AOut} {fr fr' : Frm}, plainK k = true → LeF fr fr' → KQ B b k o fr s → KQ B b k o fr' s := by
  intro k
  induction k generalizing s with
  | ret res P => rintro o fr fr' _ hl ⟨h1, v, N, h2, h3, h4⟩; exact ⟨h1, v, N, resultV_mono hl h2, h3, h4⟩
  | blk id k ih => exact fun hk hl h => ih hk hl h
  | rnd live n I k => exact fun hk => by cases hk
  | thn c k ih =>
    intro o fr fr' hk hl h
    cases o with
    | normal =>
      obtain ⟨o2, fr2, s2, a, h2⟩ := (h : wpC c fr s (KQ B b k)).ex
      obtain ⟨fr3, l3, a3⟩ := ex_mono a fr' hl
      exact (⟨o2, fr3, s2, a3, ih hk l3 h2⟩ : wpC c fr' s (KQ B b k))
    | exit id => exact ih hk hl h
    | ret => exact ih hk hl h
/-- Dead slots are forgotten. -/
theorem A_fr {B : List Nat} {b : St} {L : Objs} {hist : List Objs} {fr fr2 : Frm} {k : KK} (live : List Nat) (hk : plainK k = true) (hfr : restr fr live = fr2) (h : At B b L [] [] fr2 k) : At B b L [] hist fr k :=
  .nil fun s H => by
    obtain ⟨fr', s', e, c⟩ := (h.ok s [] H .nil).ex
    cases e
    subst hfr
    exact kq_mono k hk (fun i v e => get_restr e) c
/-- Where a walk is to stop. -/
structure Stop (p : Prop) : Prop where
  ok : p
theorem A_stop {B : List Nat} {b : St} {L : Objs} {l : List AStep} {hist : List Objs} {fr : Frm} {k : KK} (h : Stop (At B b L l hist fr k)) : At B b L l hist fr k := h.ok

end Go.Proofs.Ytlhidckolillaaa
