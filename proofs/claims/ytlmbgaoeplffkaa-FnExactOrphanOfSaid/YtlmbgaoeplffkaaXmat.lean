/- Lists of lists that are laid: each of their lists is an object. -/
import Derived.Test.YtlmbgaoeplffkaaXrows
import Derived.Test.YtlmbgaoeplffkaaXtoInts
import Derived.Test.YtlmbgaoeplffkaaXlend
import Derived.Test.YtlmbgaoeplffkaaXeqInts
import Derived.Test.YtlmbgaoeplffkaaXmark
import Derived.Test.YtlmbgaoeplffkaaXmade
import Derived.Test.YtlmbgaoeplffkaaXsz
import Derived.Test.YtlmbgaoeplffkaaFB
namespace Go.Proofs.Ytlmbgaoeplffkaa
open Go Go.RowKit
set_option linter.unusedVariables false
set_option linter.unusedSimpArgs false
set_option maxRecDepth 100000
set_option maxHeartbeats 8000000


abbrev mobs (zs : List Row) : Objs := zs.map fun z => (z.id, ints z.xs)
abbrev orow (zs : List Row) : AObj := .rw 25 1 (zs.map rc)
/-- A sentence, found among what is known. -/
class Fact' (p : Prop) : Prop where
  h : p
/-- Each list begins where its object begins, and is as long. -/
def RowsOk (zs : List Row) : Prop := ∀ z ∈ zs, z.off = 0 ∧ z.len = z.xs.length
/-- All lists of a row. -/
class ArgAll (s : St) (zs : List Row) : Prop where
  h : ∀ z ∈ zs, ArgE ic s z.id z.off z.xs
class HasAll (L : Objs) (zs : List Row) : Prop where
  h : ∀ z ∈ zs, Has L z.id (ints z.xs)
class NotAll (zs : List Row) (B : List Nat) : Prop where
  h : ∀ z ∈ zs, NotIn z.id B
instance notAllN {zs : List Row} : NotAll zs [] := ⟨fun z _ => notInN⟩
theorem mobs_has {zs : List Row} {z : Row} (h : z ∈ zs) {M : Objs} : Has (mobs zs ++ M) z.id (ints z.xs) := by
  obtain ⟨i, hi⟩ := List.mem_iff_getElem?.1 h
  have hlt := (List.getElem?_eq_some_iff.1 hi).1
  exact ⟨i, by rw [List.getElem?_append_left (by simpa using hlt), List.getElem?_map, hi]; rfl⟩
instance hasAllH {zs : List Row} {M : Objs} : HasAll (mobs zs ++ M) zs := ⟨fun z h => mobs_has h⟩
instance hasAllO {zs : List Row} : HasAll (mobs zs) zs := ⟨fun z h => by have := mobs_has h (M := []); rwa [List.append_nil] at this⟩
instance hasAllT {zs : List Row} {x : Nat × AObj} {L : Objs} [k : HasAll L zs] : HasAll (x :: L) zs := ⟨fun z h => @hasT x L z.id _ (k.h z h)⟩
instance hasAllL {zs : List Row} {N L : Objs} [k : HasAll N zs] : HasAll (N ++ L) zs := ⟨fun z h => @hasL N L z.id _ (k.h z h)⟩
instance hasAllR {zs : List Row} {N L : Objs} [k : HasAll L zs] : HasAll (N ++ L) zs := ⟨fun z h => @hasR N L z.id _ (k.h z h)⟩
section
variable {B : List Nat} {b s : St} {L : Objs} {zs : List Row}
instance argAllOwn [H : Own B b s L] [k : HasAll L zs] [o : Fact' (RowsOk zs)] : ArgAll s zs := ⟨fun z h => by
  have h1 := k.h z h
  have := argOwn (H := H) (h := h1)
  rw [(o.h z h).1]; exact this⟩
instance argAllBase [H : Own B b s L] [k : ArgAll b zs] [n : NotAll zs B] : ArgAll s zs := ⟨fun z h => by
  have h1 := k.h z h
  have h2 := n.h z h
  exact argBase⟩
instance argAt [k : ArgAll s zs] {i : Nat} [h : Fact' (i < zs.length)] : ArgE ic s (zs.getD i Row.nil).id (zs.getD i Row.nil).off (zs.getD i Row.nil).xs := k.h _ (getD_mem h.h)
end
theorem RowsOk.append {zs ws : List Row} (h : RowsOk zs) (k : RowsOk ws) : RowsOk (zs ++ ws) := fun z hz => (List.mem_append.1 hz).elim (h z) (k z)
theorem RowsOk.one {p n : Nat} {xs : List Int} (h : n = xs.length) : RowsOk [⟨p, 0, n, xs⟩] := fun z hz => by
  obtain rfl := List.mem_singleton.1 hz; exact ⟨rfl, h⟩
theorem mobs_app {zs ws : List Row} : mobs (zs ++ ws) = mobs zs ++ mobs ws := by simp [mobs]
theorem getD_app_len {α : Type} {xs ys : List α} {i : Nat} {d : α} (h : xs.length = i) : (xs ++ ys).getD i d = ys.getD 0 d := by
  subst h; rw [List.getD_eq_getElem?_getD, List.getD_eq_getElem?_getD, List.getElem?_append_right (Nat.le_refl _), Nat.sub_self]
theorem set_app_len {α : Type} {xs ys : List α} {i : Nat} {a : α} (h : xs.length = i) : (xs ++ ys).set i a = xs ++ ys.set 0 a := by
  subst h; rw [List.set_append_right _ _ (Nat.le_refl _), Nat.sub_self]
/-- Entries of one list may stand in another order. -/
theorem Sub.perm {N L : Objs} (f : Nat → Nat) (h1 : ∀ i x, N[i]? = some x → L[f i]? = some x) (h2 : ∀ i j, i < N.length → j < N.length → i ≠ j → f i ≠ f j) : Sub N L :=
  ⟨fun B b s H => H.pick f h1 h2, fun j q o h => .inr ⟨f j, o, h1 j _ h⟩⟩
instance (priority := low) subMid {M N : Objs} {x : Nat × AObj} : Sub (M ++ x :: N) (x :: (M ++ N)) :=
  .perm (fun i => if i < M.length then i + 1 else if i = M.length then 0 else i) (fun i y h => by
    by_cases h1 : i < M.length
    · rw [if_pos h1, List.getElem?_cons_succ, List.getElem?_append_left h1]; rwa [List.getElem?_append_left h1] at h
    · rw [if_neg h1]
      by_cases h2 : i = M.length
      · rw [if_pos h2]; subst h2; simpa using h
      · rw [if_neg h2]
        obtain ⟨k, rfl⟩ : ∃ k, i = M.length + (k + 1) := ⟨i - M.length - 1, by omega⟩
        rw [List.getElem?_append_right (by omega)] at h
        rw [show M.length + (k + 1) - M.length = k + 1 by omega, List.getElem?_cons_succ] at h
        rw [show M.length + (k + 1) = (M.length + k) + 1 by omega, List.getElem?_cons_succ, List.getElem?_append_right (by omega), show M.length + k - M.length = k by omega]; exact h)
    (fun i j _ _ h => by split <;> split <;> (try split) <;> (try split) <;> omega)
theorem mobs_snoc {zs : List Row} {p n : Nat} {xs : List Int} : mobs (zs ++ [⟨p, 0, n, xs⟩]) = mobs zs ++ [(p, ints xs)] := by simp [mobs]
def slen (zs : List Row) : Nat := (zs.map fun z => z.xs.length).sum
theorem slen_app {zs ws : List Row} : slen (zs ++ ws) = slen zs + slen ws := by simp [slen]
theorem slen_mem {zs : List Row} {z : Row} (h : z ∈ zs) : z.xs.length ≤ slen zs := by
  obtain ⟨a, b, rfl⟩ := List.append_of_mem h
  rw [slen_app]; simp [slen]; omega
theorem Own.perm {B : List Nat} {b s : St} {L L' : Objs} (H : Own B b s L) (p : L.Perm L') : Own B b s L' := by
  have sym : ∀ {x y : Nat × AObj}, (2 ≤ x.1 → x.1 ≠ y.1) → (2 ≤ y.1 → y.1 ≠ x.1) := fun {x y} h h2 e => h (by omega) e.symm
  have h1 : L.Pairwise fun x y => 2 ≤ x.1 → x.1 ≠ y.1 := by
    rw [List.pairwise_iff_getElem]
    intro i j hi hj hij h2
    exact H.inj i j _ _ _ _ (List.getElem?_eq_getElem hi) (List.getElem?_eq_getElem hj) (by omega) h2
  have h2 := (p.pairwise_iff sym).1 h1
  rw [List.pairwise_iff_getElem] at h2
  refine ⟨H.wf, H.two, H.le, H.keep, fun i q o h => ?_, fun i j q o q' o' hi hj hne hq => ?_⟩
  · obtain ⟨k, hk⟩ := List.mem_iff_getElem?.1 (p.mem_iff.2 (List.mem_of_getElem? h))
    exact H.obj k q o hk
  · obtain ⟨hli, ei⟩ := List.getElem?_eq_some_iff.1 hi
    obtain ⟨hlj, ej⟩ := List.getElem?_eq_some_iff.1 hj
    rcases Nat.lt_or_gt_of_ne hne with g | g
    · have := h2 i j hli hlj g
      rw [ei, ej] at this; exact this hq
    · have := h2 j i hlj hli g
      rw [ei, ej] at this
      exact fun e => this (by simp only; omega) e.symm
theorem Sub.ofPerm {N L : Objs} (p : L.Perm N) : Sub N L := ⟨fun B b s H => H.perm p, fun j q o h => by
  obtain ⟨k, hk⟩ := List.mem_iff_getElem?.1 (p.mem_iff.2 (List.mem_of_getElem? h))
  exact .inr ⟨k, o, hk⟩⟩
/-- All lists of a row stand in a list of objects; 'M' is the rest. -/
class DelsM (L : Objs) (zs : List Row) (M : outParam Objs) : Prop where
  p : L.Perm (mobs zs ++ M)
instance delsMH {zs : List Row} {M : Objs} : DelsM (mobs zs ++ M) zs M := ⟨.refl _⟩
instance delsMO {zs : List Row} : DelsM (mobs zs) zs [] := ⟨by rw [List.append_nil]⟩
instance delsMT {zs : List Row} {L M : Objs} {x : Nat × AObj} [h : DelsM L zs M] : DelsM (x :: L) zs (x :: M) := ⟨(h.p.cons x).trans List.perm_middle.symm⟩
instance delsMR {zs : List Row} {N L M : Objs} [h : DelsM L zs M] : DelsM (N ++ L) zs (N ++ M) :=
  ⟨(h.p.append_left N).trans (by rw [← List.append_assoc, ← List.append_assoc]; exact List.perm_append_comm.append_right M)⟩
instance delsML {zs : List Row} {N L M : Objs} [h : DelsM N zs M] : DelsM (N ++ L) zs (M ++ L) :=
  ⟨by rw [← List.append_assoc]; exact h.p.append_right L⟩
instance delsRows {L M : Objs} {zs : List Row} [h : DelsM L zs M] : Dels L (zs.map Row.id) M := ⟨fun B b s H => by
  have e : zs.map Row.id = (mobs zs).map Prod.fst := by simp [mobs]
  rw [e]
  obtain ⟨h1, h2, h3⟩ := (delsAll (mobs zs) M).own B b s (H.perm h.p)
  refine ⟨fun i p o hi => ?_, h2, fun c hc => ?_⟩
  · obtain ⟨j, h4, h5⟩ := h1 i p o hi
    obtain ⟨k, hk⟩ := List.mem_iff_getElem?.1 (h.p.mem_iff.2 (List.mem_of_getElem? h4))
    exact ⟨k, hk, h5⟩
  · obtain ⟨j, o, h4⟩ := h3 c hc
    obtain ⟨k, hk⟩ := List.mem_iff_getElem?.1 (h.p.mem_iff.2 (List.mem_of_getElem? h4))
    exact ⟨k, o, hk⟩⟩
theorem erase_perm {α : Type} {l : List α} {i : Nat} (h : i < l.length) : l.Perm (l[i] :: l.eraseIdx i) := by
  have e : l = l.take i ++ l[i] :: l.drop (i + 1) := by rw [← List.drop_eq_getElem_cons h, List.take_append_drop]
  rw [List.eraseIdx_eq_take_drop_succ]
  refine List.Perm.trans (.of_eq e) List.perm_middle
/-- A list of lists is lent. -/
class BorM (s : St) (p : Nat) (zs : List Row) : Prop where
  own : Own (p :: zs.map Row.id) s s ((p, orow zs) :: mobs zs)
instance borMOwn {B : List Nat} {b s : St} {L L' M : Objs} {p : Nat} {zs : List Row} [H : Own B b s L] [h : Del L p (orow zs) L'] [k : DelsM L' zs M] : BorM s p zs := ⟨by
  obtain ⟨i, hi, rfl⟩ := h.ex
  have hlt := (List.getElem?_eq_some_iff.1 hi).1
  have p1 : L.Perm ((p, orow zs) :: L.eraseIdx i) := by
    have := (List.getElem?_eq_some_iff.1 hi).2
    rw [← this]; exact erase_perm hlt
  have p2 : L.Perm ((p, orow zs) :: mobs zs ++ M) := p1.trans (k.p.cons _)
  have := (H.perm p2).left.self
  have e : ((p, orow zs) :: mobs zs).map Prod.fst = p :: zs.map Row.id := by simp [mobs]
  rw [e] at this; exact this⟩
theorem F_startM {f nt : Nat} {res : List ARes} {body : ACode} (hc : acode Try.prog hints f = some ⟨nt, res, body⟩) {args : List AV} {s : St} {P : AV → Objs → Prop} {p : Nat} {zs : List Row} [w : BorM s p zs]
    (h : At (p :: zs.map Row.id) s ((p, orow zs) :: mobs zs) [] [] (frame0 0 args) (.thn body (.ret res P))) : Fn (p :: zs.map Row.id) f args s P := F_startB hc w.own h
/-- Numbers that rise by one, through all lists. -/
def mkRows (k : Int) : List Row → List Row
  | [] => []
  | z :: zs => ⟨z.id, 0, z.xs.length, marks k z.xs.length⟩ :: mkRows (k + z.xs.length) zs
theorem mkRows_app {zs ws : List Row} : ∀ {k : Int}, mkRows k (zs ++ ws) = mkRows k zs ++ mkRows (k + slen zs) ws := by
  induction zs with
  | nil => intro k; simp [mkRows, slen]
  | cons z zs ih =>
    intro k
    rw [List.cons_append, mkRows, ih, mkRows, List.cons_append]
    congr 2
    simp [slen, Int.add_assoc]
theorem mkRows_len {zs : List Row} : ∀ {k : Int}, (mkRows k zs).length = zs.length := by
  induction zs with
  | nil => intro k; rfl
  | cons z zs ih => intro k; simp [mkRows, ih]
theorem mkRows_rc {zs : List Row} (h : RowsOk zs) : ∀ {k : Int}, (mkRows k zs).map rc = zs.map rc := by
  induction zs with
  | nil => intro k; rfl
  | cons z zs ih =>
    intro k
    rw [mkRows, List.map_cons, List.map_cons, ih (fun z hz => h z (by simp [hz]))]
    have := h z (by simp)
    simp only [rc, this.1, this.2]
theorem mkRows_ok {k : Int} {zs : List Row} : RowsOk (mkRows k zs) := by
  induction zs generalizing k with
  | nil => intro z hz; cases hz
  | cons z zs ih =>
    intro y hy
    rcases List.mem_cons.1 hy with rfl | hy
    · exact ⟨rfl, by simp⟩
    · exact ih y hy
instance mkRowsOk {k : Int} {zs : List Row} : Fact' (RowsOk (mkRows k zs)) := ⟨mkRows_ok⟩
theorem mkRows_slen {k : Int} {zs : List Row} : slen (mkRows k zs) = slen zs := by
  induction zs generalizing k with
  | nil => rfl
  | cons z zs ih =>
    have := ih (k := k + z.xs.length)
    simp only [slen, mkRows, List.map_cons, List.sum_cons, marks_len] at this ⊢
    rw [this]
theorem Sub.trans {N M L : Objs} (h : Sub N M) (k : Sub M L) : Sub N L := ⟨fun B b s H => h.own B b s (k.own B b s H), fun j q o hj => by
  rcases h.ids j q o hj with g | ⟨j', o', g⟩
  · exact .inl g
  · exact k.ids j' q o' g⟩
theorem rows_at {zs : List Row} {yss : List (List Int)} (h : zs.map Row.xs = yss) {i : Nat} (hi : i < zs.length) : (zs.getD i Row.nil).xs = yss.getD i [] := by
  rw [← h, List.getD_eq_getElem?_getD, List.getD_eq_getElem?_getD, List.getElem?_map, List.getElem?_eq_getElem hi]; rfl
/-- Lists of numbers, and whether there are such. -/
def MatOut (P : Prop) (yss : List (List Int)) (p : Nat) (zs : List Row) (N : Objs) : Prop := N = (p, orow zs) :: mobs zs ∧ zs.map Row.xs = sel P yss [] ∧ slen zs ≤ 2000000 ∧ zs.length ≤ 2000000
theorem R_mat {P : Prop} {yss : List (List Int)} {p n : Nat} {zs : List Row} {L : Objs} (h : P) (hok : RowsOk zs) (hm : zs.map Row.xs = yss) (hs : slen zs ≤ 2000000 ∧ zs.length ≤ 2000000) (hn : zs.length = n) (sub : Sub ((p, orow zs) :: mobs zs) L) :
    ∃ N, (∃ q ws, (.tup [.c (.sl p 0 n), .c (.bool true)] : AV) = .tup [.c (.sl q 0 ws.length), .c (.bool (tt P))] ∧ Fact' (RowsOk ws) ∧ MatOut P yss q ws N) ∧ Sub N L :=
  ⟨_, ⟨p, zs, by subst hn; rw [tt_t h], ⟨hok⟩, rfl, by rw [sel_t h, hm], hs⟩, sub⟩
theorem R_matN {P : Prop} {yss : List (List Int)} {L : Objs} (h : ¬ P) :
    ∃ N, (∃ p zs, (.tup [.c (.sl 0 0 0), .c (.bool false)] : AV) = .tup [.c (.sl p 0 zs.length), .c (.bool (tt P))] ∧ Fact' (RowsOk zs) ∧ MatOut P yss p zs N) ∧ Sub N L :=
  ⟨_, ⟨0, [], by rw [tt_f h]; rfl, ⟨fun z hz => by cases hz⟩, rfl, by rw [sel_f h]; rfl, by simp [slen], by simp⟩, subN.virt (by omega)⟩
theorem slen_le {zs : List Row} {b : Nat} (h : ∀ z ∈ zs, z.xs.length ≤ b) : slen zs ≤ zs.length * b := by
  induction zs with
  | nil => simp [slen]
  | cons z zs ih =>
    have h1 := ih fun z hz => h z (by simp [hz])
    have h2 := h z (by simp)
    have : slen (z :: zs) = z.xs.length + slen zs := by simp [slen]
    rw [this, List.length_cons, Nat.add_mul]; omega
theorem slen_take {zs : List Row} {i : Nat} (h : i < zs.length) : slen (zs.take (i + 1)) = slen (zs.take i) + (zs.getD i Row.nil).xs.length := by
  rw [List.take_add_one, getD_some Row.nil h, slen_app]; simp [slen]
theorem slen_take_le {zs : List Row} (i : Nat) : slen (zs.take i) ≤ slen zs := by
  have := slen_app (zs := zs.take i) (ws := zs.drop i)
  rw [List.take_append_drop] at this; omega
end Go.Proofs.Ytlmbgaoeplffkaa
