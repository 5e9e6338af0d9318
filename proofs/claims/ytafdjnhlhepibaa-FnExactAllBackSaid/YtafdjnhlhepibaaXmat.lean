/- Lists of lists that are laid: each of their lists is an object. -/
import Derived.Test.YtafdjnhlhepibaaXrows
import Derived.Test.YtafdjnhlhepibaaXtoInts
import Derived.Test.YtafdjnhlhepibaaXlend
import Derived.Test.YtafdjnhlhepibaaXeqInts
import Derived.Test.YtafdjnhlhepibaaXmark
import Derived.Test.YtafdjnhlhepibaaXmade
import Derived.Test.YtafdjnhlhepibaaXsz
import Derived.Test.YtafdjnhlhepibaaFB
namespace Go.Proofs.Ytafdjnhlhepibaa
open Go Go.RowKit
set_option linter.unusedVariables false
set_option linter.unusedSimpArgs false
set_option maxRecDepth 100000
set_option maxHeartbeats 8000000
-- laws.toInt64SS
def L15 : AFun := ⟨23, [.t 2],
 (.seq (.ops false [⟨(some 2), .mv (.k (.c (.sl 0 0 0))), none, []⟩])
 (.seq (.ops false [⟨(some 5), .mv (.t 0), none, []⟩,
   ⟨(some 6), .len false (.t 5), none, []⟩,
   ⟨(some 7), .makeS 22 1 24 [.sl 0 0 0] (.t 6) (.t 6), none, []⟩,
   ⟨(some 3), .mv (.t 7), none, []⟩])
 (.seq (.seq (.ops false [⟨(some 4), .mv (.k (iv 0)), none, []⟩])
  (.block 0 (.loop [0, 3, 4] (.seq (.seq (.ops false [⟨(some 8), .mv (.t 4), none, []⟩,
       ⟨(some 9), .mv (.t 0), none, []⟩,
       ⟨(some 10), .len false (.t 9), none, []⟩,
       ⟨(some 11), .bin .lss (.t 8) (.t 10), none, []⟩])
     (.cond (.t 11) .skip
      (.exit 0)))
    (.seq (.block 1 (.ops false [⟨(some 14), .mv (.t 3), none, []⟩,
       ⟨(some 15), .mv (.t 4), none, []⟩,
       ⟨(some 16), .mv (.t 0), none, []⟩,
       ⟨(some 17), .mv (.t 4), none, []⟩,
       ⟨(some 18), .idxA 1 (.t 16) (.t 17), none, []⟩,
       ⟨(some 19), .load false 1 (.t 18), none, []⟩,
       ⟨(some 20), .call (.f 32) [(.t 19)], none, []⟩,
       ⟨(some 21), .idxA 1 (.t 14) (.t 15), none, []⟩,
       ⟨none, .store 1 (.t 21) (.t 20), none, []⟩]))
    (.ops false [⟨(some 12), .mv (.t 4), none, []⟩,
     ⟨(some 13), .bin .add (.t 12) (.k (iv 1)), none, []⟩,
     ⟨(some 4), .mv (.t 13), none, []⟩]))))))
 (.seq (.ops false [⟨(some 22), .mv (.t 3), none, []⟩,
   ⟨(some 2), .mv (.t 22), none, []⟩])
 .ret))))⟩
theorem code15 : acode Try.prog hints 15 = some L15 := by kernel_rfl

-- laws.eqInt64SS
def L17 : AFun := ⟨27, [.t 4],
 (.seq (.ops false [⟨(some 4), .mv (.k (bv false)), none, []⟩])
 (.seq (.seq (.ops false [⟨(some 6), .mv (.t 0), none, []⟩,
    ⟨(some 7), .len false (.t 6), none, []⟩,
    ⟨(some 8), .mv (.t 1), none, []⟩,
    ⟨(some 9), .len false (.t 8), none, []⟩,
    ⟨(some 10), .bin .neq (.t 7) (.t 9), none, []⟩])
  (.cond (.t 10) (.seq (.ops false [⟨(some 4), .mv (.k (bv false)), none, []⟩])
   .ret)
   .skip))
 (.seq (.seq (.ops false [⟨(some 5), .mv (.k (iv 0)), none, []⟩])
  (.block 0 (.loop [0, 1, 5] (.seq (.seq (.ops false [⟨(some 11), .mv (.t 5), none, []⟩,
       ⟨(some 12), .mv (.t 0), none, []⟩,
       ⟨(some 13), .len false (.t 12), none, []⟩,
       ⟨(some 14), .bin .lss (.t 11) (.t 13), none, []⟩])
     (.cond (.t 14) .skip
      (.exit 0)))
    (.seq (.block 1 (.seq (.ops true [⟨(some 17), .mv (.t 0), none, []⟩,
        ⟨(some 18), .mv (.t 5), none, []⟩,
        ⟨(some 19), .idxA 1 (.t 17) (.t 18), none, []⟩,
        ⟨(some 20), .load false 1 (.t 19), none, []⟩,
        ⟨(some 21), .mv (.t 1), none, []⟩,
        ⟨(some 22), .mv (.t 5), none, []⟩,
        ⟨(some 23), .idxA 1 (.t 21) (.t 22), none, []⟩,
        ⟨(some 24), .load false 1 (.t 23), none, []⟩,
        ⟨(some 25), .call (.f 24) [(.t 20), (.t 24)], none, []⟩,
        ⟨(some 26), .un .not (.t 25), none, []⟩])
      (.cond (.t 26) (.seq (.ops false [⟨(some 4), .mv (.k (bv false)), none, []⟩])
       .ret)
       .skip)))
    (.ops false [⟨(some 15), .mv (.t 5), none, []⟩,
     ⟨(some 16), .bin .add (.t 15) (.k (iv 1)), none, []⟩,
     ⟨(some 5), .mv (.t 16), none, []⟩]))))))
 (.seq (.ops false [⟨(some 4), .mv (.k (bv true)), none, []⟩])
 .ret))))⟩
theorem code17 : acode Try.prog hints 17 = some L17 := by kernel_rfl

-- laws.markInt64SS
def L20 : AFun := ⟨19, [.t 4],
 (.seq (.ops false [⟨(some 4), .mv (.k (iv 0)), none, []⟩])
 (.seq (.seq (.ops false [⟨(some 5), .mv (.k (iv 0)), none, []⟩])
  (.block 0 (.loop [0, 1, 5] (.seq (.seq (.ops false [⟨(some 6), .mv (.t 5), none, []⟩,
       ⟨(some 7), .mv (.t 0), none, []⟩,
       ⟨(some 8), .len false (.t 7), none, []⟩,
       ⟨(some 9), .bin .lss (.t 6) (.t 8), none, []⟩])
     (.cond (.t 9) .skip
      (.exit 0)))
    (.seq (.block 1 (.ops false [⟨(some 12), .mv (.t 0), none, []⟩,
       ⟨(some 13), .mv (.t 5), none, []⟩,
       ⟨(some 14), .idxA 1 (.t 12) (.t 13), none, []⟩,
       ⟨(some 15), .load false 1 (.t 14), none, []⟩,
       ⟨(some 16), .mv (.t 1), none, []⟩,
       ⟨(some 17), .call (.f 25) [(.t 15), (.t 16)], none, []⟩,
       ⟨(some 1), .mv (.t 17), none, []⟩]))
    (.ops false [⟨(some 10), .mv (.t 5), none, []⟩,
     ⟨(some 11), .bin .add (.t 10) (.k (iv 1)), none, []⟩,
     ⟨(some 5), .mv (.t 11), none, []⟩]))))))
 (.seq (.ops false [⟨(some 18), .mv (.t 1), none, []⟩,
   ⟨(some 4), .mv (.t 18), none, []⟩])
 .ret)))⟩
theorem code20 : acode Try.prog hints 20 = some L20 := by kernel_rfl

-- laws.heldInt64SS
def L21 : AFun := ⟨21, [.t 4],
 (.seq (.ops false [⟨(some 4), .mv (.k (iv 0)), none, []⟩])
 (.seq (.seq (.ops false [⟨(some 5), .mv (.k (iv 0)), none, []⟩])
  (.block 0 (.loop [0, 1, 5] (.seq (.seq (.ops false [⟨(some 6), .mv (.t 5), none, []⟩,
       ⟨(some 7), .mv (.t 0), none, []⟩,
       ⟨(some 8), .len false (.t 7), none, []⟩,
       ⟨(some 9), .bin .lss (.t 6) (.t 8), none, []⟩])
     (.cond (.t 9) .skip
      (.exit 0)))
    (.seq (.block 1 (.seq (.ops false [⟨(some 12), .mv (.t 0), none, []⟩,
        ⟨(some 13), .mv (.t 5), none, []⟩,
        ⟨(some 14), .idxA 1 (.t 12) (.t 13), none, []⟩,
        ⟨(some 15), .load false 1 (.t 14), none, []⟩,
        ⟨(some 16), .mv (.t 1), none, []⟩,
        ⟨(some 17), .call (.f 26) [(.t 15), (.t 16)], none, []⟩,
        ⟨(some 1), .mv (.t 17), none, []⟩])
      (.seq (.ops false [⟨(some 18), .mv (.t 1), none, []⟩,
        ⟨(some 19), .bin .lss (.t 18) (.k (iv 0)), none, []⟩])
      (.cond (.t 19) (.seq (.ops false [⟨(some 4), .mv (.k (iv (-1))), none, []⟩])
       .ret)
       .skip))))
    (.ops false [⟨(some 10), .mv (.t 5), none, []⟩,
     ⟨(some 11), .bin .add (.t 10) (.k (iv 1)), none, []⟩,
     ⟨(some 5), .mv (.t 11), none, []⟩]))))))
 (.seq (.ops false [⟨(some 20), .mv (.t 1), none, []⟩,
   ⟨(some 4), .mv (.t 20), none, []⟩])
 .ret)))⟩
theorem code21 : acode Try.prog hints 21 = some L21 := by kernel_rfl

-- laws.szInt64SS
def L12 : AFun := ⟨27, [.t 4],
 (.seq (.ops false [⟨(some 4), .mv (.k (iv 0)), none, []⟩])
 (.seq (.ops false [⟨(some 6), .mv (.t 1), none, []⟩,
   ⟨(some 7), .mv (.t 0), none, []⟩,
   ⟨(some 8), .len false (.t 7), none, []⟩,
   ⟨(some 9), .bin .sub (.t 6) (.t 8), none, []⟩,
   ⟨(some 1), .mv (.t 9), none, []⟩])
 (.seq (.seq (.ops false [⟨(some 10), .mv (.t 1), none, []⟩,
    ⟨(some 11), .bin .lss (.t 10) (.k (iv 0)), none, []⟩])
  (.cond (.t 11) (.seq (.ops false [⟨(some 4), .mv (.k (iv (-1))), none, []⟩])
   .ret)
   .skip))
 (.seq (.seq (.ops false [⟨(some 5), .mv (.k (iv 0)), none, []⟩])
  (.block 0 (.loop [0, 1, 5] (.seq (.seq (.ops false [⟨(some 12), .mv (.t 5), none, []⟩,
       ⟨(some 13), .mv (.t 0), none, []⟩,
       ⟨(some 14), .len false (.t 13), none, []⟩,
       ⟨(some 15), .bin .lss (.t 12) (.t 14), none, []⟩])
     (.cond (.t 15) .skip
      (.exit 0)))
    (.seq (.block 1 (.seq (.ops false [⟨(some 18), .mv (.t 0), none, []⟩,
        ⟨(some 19), .mv (.t 5), none, []⟩,
        ⟨(some 20), .idxA 1 (.t 18) (.t 19), none, []⟩,
        ⟨(some 21), .load false 1 (.t 20), none, []⟩,
        ⟨(some 22), .mv (.t 1), none, []⟩,
        ⟨(some 23), .call (.f 59) [(.t 21), (.t 22)], none, []⟩,
        ⟨(some 1), .mv (.t 23), none, []⟩])
      (.seq (.ops false [⟨(some 24), .mv (.t 1), none, []⟩,
        ⟨(some 25), .bin .lss (.t 24) (.k (iv 0)), none, []⟩])
      (.cond (.t 25) (.seq (.ops false [⟨(some 4), .mv (.k (iv (-1))), none, []⟩])
       .ret)
       .skip))))
    (.ops false [⟨(some 16), .mv (.t 5), none, []⟩,
     ⟨(some 17), .bin .add (.t 16) (.k (iv 1)), none, []⟩,
     ⟨(some 5), .mv (.t 17), none, []⟩]))))))
 (.seq (.ops false [⟨(some 26), .mv (.t 1), none, []⟩,
   ⟨(some 4), .mv (.t 26), none, []⟩])
 .ret)))))⟩
theorem code12 : acode Try.prog hints 12 = some L12 := by kernel_rfl


abbrev mobs (zs : List Row) : Objs := zs.map fun z => (z.id, ints z.xs)
abbrev orow (zs : List Row) : AObj := .rw 22 1 (zs.map rc)
/-- A sentence, found among what is known. -/
class Fact' (p : Prop) : Prop where
  h : p
/-- Each list begins where its object begins, and is as long. -/
def RowsOk (zs : List Row) : Prop := ∀ z ∈ zs, z.off = 0 ∧ z.len = z.xs.length
/-- All lists of a row. -/
class ArgAll (s : St) (zs : List Row) : Prop where
  h : ∀ z ∈ zs, ArgE ic s z.id z.off z.xs
class HasAll (L : Objs) (zs : List Row) : Prop where
  h : ∀ z ∈ zs, Has L z.id (ints z.xs)
class NotAll (zs : List Row) (B : List Nat) : Prop where
  h : ∀ z ∈ zs, NotIn z.id B
instance notAllN {zs : List Row} : NotAll zs [] := ⟨fun z _ => notInN⟩
theorem mobs_has {zs : List Row} {z : Row} (h : z ∈ zs) {M : Objs} : Has (mobs zs ++ M) z.id (ints z.xs) := by
  obtain ⟨i, hi⟩ := List.mem_iff_getElem?.1 h
  have hlt := (List.getElem?_eq_some_iff.1 hi).1
  exact ⟨i, by rw [List.getElem?_append_left (by simpa using hlt), List.getElem?_map, hi]; rfl⟩
instance hasAllH {zs : List Row} {M : Objs} : HasAll (mobs zs ++ M) zs := ⟨fun z h => mobs_has h⟩
instance hasAllO {zs : List Row} : HasAll (mobs zs) zs := ⟨fun z h => by have := mobs_has h (M := []); rwa [List.append_nil] at this⟩
instance hasAllT {zs : List Row} {x : Nat × AObj} {L : Objs} [k : HasAll L zs] : HasAll (x :: L) zs := ⟨fun z h => @hasT x L z.id _ (k.h z h)⟩
instance hasAllL {zs : List Row} {N L : Objs} [k : HasAll N zs] : HasAll (N ++ L) zs := ⟨fun z h => @hasL N L z.id _ (k.h z h)⟩
instance hasAllR {zs : List Row} {N L : Objs} [k : HasAll L zs] : HasAll (N ++ L) zs := ⟨fun z h => @hasR N L z.id _ (k.h z h)⟩
section
variable {B : List Nat} {b s : St} {L : Objs} {zs : List Row}
instance argAllOwn [H : Own B b s L] [k : HasAll L zs] [o : Fact' (RowsOk zs)] : ArgAll s zs := ⟨fun z h => by
  have h1 := k.h z h
  have := argOwn (H := H) (h := h1)
  rw [(o.h z h).1]; exact this⟩
instance argAllBase [H : Own B b s L] [k : ArgAll b zs] [n : NotAll zs B] : ArgAll s zs := ⟨fun z h => by
  have h1 := k.h z h
  have h2 := n.h z h
  exact argBase⟩
instance argAt [k : ArgAll s zs] {i : Nat} [h : Fact' (i < zs.length)] : ArgE ic s (zs.getD i Row.nil).id (zs.getD i Row.nil).off (zs.getD i Row.nil).xs := k.h _ (getD_mem h.h)
end
theorem RowsOk.append {zs ws : List Row} (h : RowsOk zs) (k : RowsOk ws) : RowsOk (zs ++ ws) := fun z hz => (List.mem_append.1 hz).elim (h z) (k z)
theorem RowsOk.one {p n : Nat} {xs : List Int} (h : n = xs.length) : RowsOk [⟨p, 0, n, xs⟩] := fun z hz => by
  obtain rfl := List.mem_singleton.1 hz; exact ⟨rfl, h⟩
theorem mobs_app {zs ws : List Row} : mobs (zs ++ ws) = mobs zs ++ mobs ws := by simp [mobs]
theorem getD_app_len {α : Type} {xs ys : List α} {i : Nat} {d : α} (h : xs.length = i) : (xs ++ ys).getD i d = ys.getD 0 d := by
  subst h; rw [List.getD_eq_getElem?_getD, List.getD_eq_getElem?_getD, List.getElem?_append_right (Nat.le_refl _), Nat.sub_self]
theorem set_app_len {α : Type} {xs ys : List α} {i : Nat} {a : α} (h : xs.length = i) : (xs ++ ys).set i a = xs ++ ys.set 0 a := by
  subst h; rw [List.set_append_right _ _ (Nat.le_refl _), Nat.sub_self]
/-- Entries of one list may stand in another order. -/
theorem Sub.perm {N L : Objs} (f : Nat → Nat) (h1 : ∀ i x, N[i]? = some x → L[f i]? = some x) (h2 : ∀ i j, i < N.length → j < N.length → i ≠ j → f i ≠ f j) : Sub N L :=
  ⟨fun B b s H => H.pick f h1 h2, fun j q o h => .inr ⟨f j, o, h1 j _ h⟩⟩
instance (priority := low) subMid {M N : Objs} {x : Nat × AObj} : Sub (M ++ x :: N) (x :: (M ++ N)) :=
  .perm (fun i => if i < M.length then i + 1 else if i = M.length then 0 else i) (fun i y h => by
    by_cases h1 : i < M.length
    · rw [if_pos h1, List.getElem?_cons_succ, List.getElem?_append_left h1]; rwa [List.getElem?_append_left h1] at h
    · rw [if_neg h1]
      by_cases h2 : i = M.length
      · rw [if_pos h2]; subst h2; simpa using h
      · rw [if_neg h2]
        obtain ⟨k, rfl⟩ : ∃ k, i = M.length + (k + 1) := ⟨i - M.length - 1, by omega⟩
        rw [List.getElem?_append_right (by omega)] at h
        rw [show M.length + (k + 1) - M.length = k + 1 by omega, List.getElem?_cons_succ] at h
        rw [show M.length + (k + 1) = (M.length + k) + 1 by omega, List.getElem?_cons_succ, List.getElem?_append_right (by omega), show M.length + k - M.length = k by omega]; exact h)
    (fun i j _ _ h => by split <;> split <;> (try split) <;> (try split) <;> omega)
theorem mobs_snoc {zs : List Row} {p n : Nat} {xs : List Int} : mobs (zs ++ [⟨p, 0, n, xs⟩]) = mobs zs ++ [(p, ints xs)] := by simp [mobs]
def slen (zs : List Row) : Nat := (zs.map fun z => z.xs.length).sum
theorem slen_app {zs ws : List Row} : slen (zs ++ ws) = slen zs + slen ws := by simp [slen]
theorem slen_mem {zs : List Row} {z : Row} (h : z ∈ zs) : z.xs.length ≤ slen zs := by
  obtain ⟨a, b, rfl⟩ := List.append_of_mem h
  rw [slen_app]; simp [slen]; omega
theorem Own.perm {B : List Nat} {b s : St} {L L' : Objs} (H : Own B b s L) (p : L.Perm L') : Own B b s L' := by
  have sym : ∀ {x y : Nat × AObj}, (2 ≤ x.1 → x.1 ≠ y.1) → (2 ≤ y.1 → y.1 ≠ x.1) := fun {x y} h h2 e => h (by omega) e.symm
  have h1 : L.Pairwise fun x y => 2 ≤ x.1 → x.1 ≠ y.1 := by
    rw [List.pairwise_iff_getElem]
    intro i j hi hj hij h2
    exact H.inj i j _ _ _ _ (List.getElem?_eq_getElem hi) (List.getElem?_eq_getElem hj) (by omega) h2
  have h2 := (p.pairwise_iff sym).1 h1
  rw [List.pairwise_iff_getElem] at h2
  refine ⟨H.wf, H.two, H.le, H.keep, fun i q o h => ?_, fun i j q o q' o' hi hj hne hq => ?_⟩
  · obtain ⟨k, hk⟩ := List.mem_iff_getElem?.1 (p.mem_iff.2 (List.mem_of_getElem? h))
    exact H.obj k q o hk
  · obtain ⟨hli, ei⟩ := List.getElem?_eq_some_iff.1 hi
    obtain ⟨hlj, ej⟩ := List.getElem?_eq_some_iff.1 hj
    rcases Nat.lt_or_gt_of_ne hne with g | g
    · have := h2 i j hli hlj g
      rw [ei, ej] at this; exact this hq
    · have := h2 j i hlj hli g
      rw [ei, ej] at this
      exact fun e => this (by simp only; omega) e.symm
theorem Sub.ofPerm {N L : Objs} (p : L.Perm N) : Sub N L := ⟨fun B b s H => H.perm p, fun j q o h => by
  obtain ⟨k, hk⟩ := List.mem_iff_getElem?.1 (p.mem_iff.2 (List.mem_of_getElem? h))
  exact .inr ⟨k, o, hk⟩⟩
theorem c_toInt64SS {s : St} [Wf s] {id off len : Nat} {zs : List Row} [h : ArgE rc s id off zs] [ha : ArgAll s zs] [hok : Fact' (RowsOk zs)] (hl : zs.length = len := by first | rfl | simp | omega) (hs : slen zs ≤ 2000000 := by omega) (hb : len ≤ 2000000 := by omega) :
    Fn [] 15 [.c (.sl id off len)] s fun R N => ∃ p ws, R = .c (.sl p 0 len) ∧ Fact' (RowsOk ws) ∧ N = (p, orow ws) :: mobs ws ∧ ws.map Row.xs = zs.map Row.xs ∧ ws.length = len ∧ slen ws ≤ 2000000 := by
  have hz : ∀ z ∈ zs, z.xs.length = z.len ∧ z.len ≤ 2000000 := fun z h => by have := hok.h z h; have := slen_mem h; omega
  refine F_start code15 ?_
  repeat' (first
 | refine A_go rfl ?_ | refine A_ifT rfl rfl ?_ | refine A_ifF rfl rfl ?_
 | refine A_add rfl rfl rfl (by omega) ?_
 | ((first | refine A_lt rfl rfl rfl ?_ ?_) <;> intro hc <;> try first | contradiction | (exfalso; omega) | exact absurd rfl hc)
 | refine A_idxN1 rfl rfl rfl (by omega) ?_ | refine A_idx1 rfl rfl rfl (by omega) ?_
 | (refine A_makeN (enc := rc) (a := Row.nil) rfl rfl rfl (by omega) ?_ <;> intro pz hpz)
 | refine A_p (by rfl) rfl ?_
 | refine A_ldI rfl (by first | omega | (simp; done) | (simp; omega)) rfl ?_ | refine A_ldB rfl (by first | omega | (simp; done) | (simp; omega)) rfl ?_ | refine A_ld rfl (by rfl) rfl ?_
 | refine A_st rfl rfl rfl ?_ | refine A_stE rfl rfl (by first | omega | (simp; done) | (simp; omega)) rfl ?_
 | ((first | refine A_makeN rfl rfl rfl (by omega) ?_ | refine A_make rfl rfl rfl (by omega) ?_) <;> intro pz hpz)
 | refine A_ret1 rfl (by exact (RP.t rfl RP.nil)) ?_)
  obtain ⟨po, hEq⟩ : ∃ p, p = pz := ⟨_, rfl⟩; subst hEq
  refine A_loopX rfl (fun m fr L => ∃ (i : Nat) (ws : List Row), m = len - i ∧ fr = [(0, .c (.sl id off len)), (3, .c (.sl po 0 len)), (4, iv i)] ∧ L = (po, orow (ws ++ List.replicate (len - i) Row.nil)) :: mobs ws ∧ i ≤ len ∧ ws.length = i ∧ RowsOk ws ∧ ws.map Row.xs = (zs.take i).map Row.xs) (n := len) ⟨[(po, orow ([] ++ List.replicate (len - 0) Row.nil))], ⟨0, [], rfl, rfl, rfl, by omega, rfl, (fun z hz => by cases hz), by simp⟩, (show Sub [(po, orow (List.replicate len Row.nil))] _ from inferInstance)⟩ ?_
  rintro m fr L ⟨i, ws, rfl, rfl, rfl, hi, hwl, hokw, hws⟩
  by_cases hi' : i < len
  · haveI : Fact' (i < zs.length) := ⟨by omega⟩
    have hzi := hz _ (getD_mem (d := Row.nil) (by omega : i < zs.length))
    have hlen : (ws ++ List.replicate (len - i) Row.nil).length = len := by simp; omega
    have hset : (ws ++ List.replicate (len - i) Row.nil).set i ⟨0, 0, 0, []⟩ = (ws ++ List.replicate (len - i) Row.nil) := by
      rw [set_app_len hwl, show len - i = (len - (i + 1)) + 1 by omega, List.replicate_succ]; rfl
    repeat' (first
 | refine A_go rfl ?_ | refine A_ifT rfl rfl ?_ | refine A_ifF rfl rfl ?_
 | refine A_add rfl rfl rfl (by omega) ?_
 | ((first | refine A_lt rfl rfl rfl ?_ ?_) <;> intro hc <;> try first | contradiction | (exfalso; omega) | exact absurd rfl hc)
 | refine A_idxN1 rfl rfl rfl (by omega) ?_ | refine A_idx1 rfl rfl rfl (by omega) ?_
 | refine A_ldR rfl (by omega) rfl ?_
 | (refine A_callM rfl rfl (fun s H => c_toInt64S (hl := hzi.1)) ?_; rintro _ _ ⟨pz, rfl, rfl⟩) | (refine A_callM0 rfl rfl (fun s H => c_toInt64S (hl := hzi.1)) ?_; rintro _ _ ⟨pz, rfl, rfl⟩)
 | refine A_stE (enc := rc) (a := ⟨pz, 0, (zs.getD i Row.nil).len, (zs.getD i Row.nil).xs⟩) rfl rfl (by omega) rfl ?_
 | refine A_p (by rfl) rfl ?_
 | refine A_ldI rfl (by first | omega | (simp; done) | (simp; omega)) rfl ?_ | refine A_ldB rfl (by first | omega | (simp; done) | (simp; omega)) rfl ?_ | refine A_ld rfl (by rfl) rfl ?_
 | refine A_st rfl rfl rfl ?_ | refine A_stE rfl rfl (by first | omega | (simp; done) | (simp; omega)) rfl ?_
 | ((first | refine A_makeN rfl rfl rfl (by omega) ?_ | refine A_make rfl rfl rfl (by omega) ?_) <;> intro pz hpz)
 | refine A_ret1 rfl (by exact (RP.t rfl RP.nil)) ?_)
    refine A_roundX rfl ⟨len - (i + 1), (po, orow ((ws ++ [⟨pz, 0, (zs.getD i Row.nil).len, (zs.getD i Row.nil).xs⟩]) ++ List.replicate (len - (i + 1)) Row.nil)) :: mobs (ws ++ [⟨pz, 0, (zs.getD i Row.nil).len, (zs.getD i Row.nil).xs⟩]), by omega, ⟨i + 1, _, rfl, rfl, rfl, by omega, by simp [hwl], hokw.append (.one hzi.1.symm), ?_⟩, ?_⟩
    · rw [List.map_append, hws, List.take_add_one, getD_some Row.nil (by omega)]; simp
    · rw [set_app_len hwl, show len - i = (len - (i + 1)) + 1 by omega, List.replicate_succ, List.set_cons_zero, mobs_snoc, List.append_assoc]
      exact .ofPerm ((List.Perm.swap _ _ _).trans (.cons _ (List.perm_append_comm (l₁ := [_]))))
  · obtain rfl : len = i := by omega
    rw [Nat.sub_self, List.replicate_zero, List.append_nil]
    repeat' (first
 | refine A_go rfl ?_ | refine A_ifT rfl rfl ?_ | refine A_ifF rfl rfl ?_
 | refine A_add rfl rfl rfl (by omega) ?_
 | ((first | refine A_lt rfl rfl rfl ?_ ?_) <;> intro hc <;> try first | contradiction | (exfalso; omega) | exact absurd rfl hc)
 | refine A_idxN1 rfl rfl rfl (by omega) ?_ | refine A_idx1 rfl rfl rfl (by omega) ?_
 | refine A_p (by rfl) rfl ?_
 | refine A_ldI rfl (by first | omega | (simp; done) | (simp; omega)) rfl ?_ | refine A_ldB rfl (by first | omega | (simp; done) | (simp; omega)) rfl ?_ | refine A_ld rfl (by rfl) rfl ?_
 | refine A_st rfl rfl rfl ?_ | refine A_stE rfl rfl (by first | omega | (simp; done) | (simp; omega)) rfl ?_
 | ((first | refine A_makeN rfl rfl rfl (by omega) ?_ | refine A_make rfl rfl rfl (by omega) ?_) <;> intro pz hpz)
 | refine A_ret1 rfl (by exact (RP.t rfl RP.nil)) ?_)
    rw [List.take_of_length_le (by omega)] at hws
    refine R_s ⟨po, ws, rfl, ⟨hokw⟩, rfl, hws, hwl, ?_⟩
    have : slen ws = slen zs := by
      have e : ∀ l : List Row, slen l = ((l.map Row.xs).map List.length).sum := fun l => by simp [slen, Function.comp_def]
      rw [e, e, hws]
    omega
theorem c_eqInt64SS {s : St} [Wf s] {id off len id2 off2 len2 : Nat} {zs ws : List Row} [h : ArgE rc s id off zs] [ha : ArgAll s zs] [h' : ArgE rc s id2 off2 ws] [ha' : ArgAll s ws] (hl : zs.length = len := by first | rfl | simp | omega) (hl2 : ws.length = len2 := by first | rfl | simp | omega) [hok : Fact' (RowsOk zs)] [hok' : Fact' (RowsOk ws)] (hs : slen zs ≤ 2000000 := by omega) (hb : len ≤ 2000000 := by omega) :
    FnB 17 [.c (.sl id off len), .c (.sl id2 off2 len2)] s (zs.map Row.xs = ws.map Row.xs) := by
  have hz : ∀ z ∈ zs, z.xs.length = z.len ∧ z.len ≤ 2000000 := fun z h => by have := hok.h z h; have := slen_mem h; omega
  have hw : ∀ z ∈ ws, z.xs.length = z.len := fun z h => (hok'.h z h).2.symm
  refine F_start code17 ?_
  repeat' (first
 | refine A_go rfl ?_ | refine A_ifT rfl rfl ?_ | refine A_ifF rfl rfl ?_
 | refine A_add rfl rfl rfl (by omega) ?_
 | ((first | refine A_lt rfl rfl rfl ?_ ?_ | refine A_ne rfl rfl rfl ?_ ?_) <;> intro hc <;> try first | contradiction | (exfalso; omega) | exact absurd rfl hc)
 | refine A_idxN1 rfl rfl rfl (by omega) ?_ | refine A_idx1 rfl rfl rfl (by omega) ?_
 | refine A_p (by rfl) rfl ?_
 | refine A_ldI rfl (by first | omega | (simp; done) | (simp; omega)) rfl ?_ | refine A_ldB rfl (by first | omega | (simp; done) | (simp; omega)) rfl ?_ | refine A_ld rfl (by rfl) rfl ?_
 | refine A_ret1 rfl (by exact (RP.t rfl RP.nil)) ?_)
  · refine R_f fun e => ?_
    have := congrArg List.length e
    simp at this; omega
  refine A_loop rfl [] (fun m fr L => ∃ i : Nat, i ≤ len ∧ m = len - i ∧ fr = [(0, .c (.sl id off len)), (1, .c (.sl id2 off2 len2)), (5, iv i)] ∧ L = [] ∧ (zs.take i).map Row.xs = (ws.take i).map Row.xs) len ⟨0, by omega, rfl, rfl, rfl, by simp⟩ ?_
  rintro m fr L ⟨i, hi, rfl, rfl, rfl, ht⟩
  by_cases hi' : i < len
  · haveI : Fact' (i < zs.length) := ⟨by omega⟩
    haveI : Fact' (i < ws.length) := ⟨by omega⟩
    have hzi := hz _ (getD_mem (d := Row.nil) (by omega : i < zs.length))
    have hwi := hw _ (getD_mem (d := Row.nil) (by omega : i < ws.length))
    repeat' (first
 | refine A_go rfl ?_ | refine A_ifT rfl rfl ?_ | refine A_ifF rfl rfl ?_
 | refine A_add rfl rfl rfl (by omega) ?_
 | ((first | refine A_lt rfl rfl rfl ?_ ?_ | refine A_ne rfl rfl rfl ?_ ?_) <;> intro hc <;> try first | contradiction | (exfalso; omega) | exact absurd rfl hc)
 | refine A_idxN1 rfl rfl rfl (by omega) ?_ | refine A_idx1 rfl rfl rfl (by omega) ?_
 | refine A_ldR rfl (by omega) rfl ?_
 | (refine A_callB rfl rfl (fun s H => c_eqInt64S (hl := hzi.1) (hl2 := hwi)) ?_ ?_ <;> intro hc <;> try first | contradiction | (exfalso; omega) | exact absurd rfl hc | exact absurd (And.intro rfl rfl) hc | exact absurd (And.intro rfl (And.intro rfl rfl)) hc | exact absurd (Eq.trans (by assumption) (Eq.symm (by assumption))) hc)
 | refine A_p (by rfl) rfl ?_
 | refine A_ldI rfl (by first | omega | (simp; done) | (simp; omega)) rfl ?_ | refine A_ldB rfl (by first | omega | (simp; done) | (simp; omega)) rfl ?_ | refine A_ld rfl (by rfl) rfl ?_
 | refine A_ret1 rfl (by exact (RP.t rfl RP.nil)) ?_)
    · refine A_round rfl [] (len - (i + 1)) (by omega) ?_
      refine ⟨i + 1, by omega, rfl, rfl, rfl, ?_⟩
      rw [List.take_add_one, List.take_add_one, getD_some Row.nil (by omega), getD_some Row.nil (by omega), List.map_append, List.map_append, ht]
      simp only [Option.toList_some, List.map_cons, List.map_nil, hc]
    · refine R_f fun e => hc ?_
      have h1 : ∀ (l : List Row), i < l.length → (l.getD i Row.nil).xs = (l.map Row.xs).getD i [] := fun l hl => by
        rw [List.getD_eq_getElem?_getD, List.getD_eq_getElem?_getD, List.getElem?_map, List.getElem?_eq_getElem hl]; rfl
      rw [h1 zs (by omega), h1 ws (by omega), e]
  · obtain rfl : len = i := by omega
    rw [List.take_of_length_le (by omega), List.take_of_length_le (by omega)] at ht
    repeat' (first
 | refine A_go rfl ?_ | refine A_ifT rfl rfl ?_ | refine A_ifF rfl rfl ?_
 | refine A_add rfl rfl rfl (by omega) ?_
 | ((first | refine A_lt rfl rfl rfl ?_ ?_ | refine A_ne rfl rfl rfl ?_ ?_) <;> intro hc <;> try first | contradiction | (exfalso; omega) | exact absurd rfl hc)
 | refine A_idxN1 rfl rfl rfl (by omega) ?_ | refine A_idx1 rfl rfl rfl (by omega) ?_
 | refine A_p (by rfl) rfl ?_
 | refine A_ldI rfl (by first | omega | (simp; done) | (simp; omega)) rfl ?_ | refine A_ldB rfl (by first | omega | (simp; done) | (simp; omega)) rfl ?_ | refine A_ld rfl (by rfl) rfl ?_
 | refine A_ret1 rfl (by exact (RP.t rfl RP.nil)) ?_)
    exact R_t ht
/-! ### lists of lists that are lent -/
/-- All lists of a row stand in a list of objects; 'M' is the rest. -/
class DelsM (L : Objs) (zs : List Row) (M : outParam Objs) : Prop where
  p : L.Perm (mobs zs ++ M)
instance delsMH {zs : List Row} {M : Objs} : DelsM (mobs zs ++ M) zs M := ⟨.refl _⟩
instance delsMO {zs : List Row} : DelsM (mobs zs) zs [] := ⟨by rw [List.append_nil]⟩
instance delsMT {zs : List Row} {L M : Objs} {x : Nat × AObj} [h : DelsM L zs M] : DelsM (x :: L) zs (x :: M) := ⟨(h.p.cons x).trans List.perm_middle.symm⟩
instance delsMR {zs : List Row} {N L M : Objs} [h : DelsM L zs M] : DelsM (N ++ L) zs (N ++ M) :=
  ⟨(h.p.append_left N).trans (by rw [← List.append_assoc, ← List.append_assoc]; exact List.perm_append_comm.append_right M)⟩
instance delsML {zs : List Row} {N L M : Objs} [h : DelsM N zs M] : DelsM (N ++ L) zs (M ++ L) :=
  ⟨by rw [← List.append_assoc]; exact h.p.append_right L⟩
instance delsRows {L M : Objs} {zs : List Row} [h : DelsM L zs M] : Dels L (zs.map Row.id) M := ⟨fun B b s H => by
  have e : zs.map Row.id = (mobs zs).map Prod.fst := by simp [mobs]
  rw [e]
  obtain ⟨h1, h2, h3⟩ := (delsAll (mobs zs) M).own B b s (H.perm h.p)
  refine ⟨fun i p o hi => ?_, h2, fun c hc => ?_⟩
  · obtain ⟨j, h4, h5⟩ := h1 i p o hi
    obtain ⟨k, hk⟩ := List.mem_iff_getElem?.1 (h.p.mem_iff.2 (List.mem_of_getElem? h4))
    exact ⟨k, hk, h5⟩
  · obtain ⟨j, o, h4⟩ := h3 c hc
    obtain ⟨k, hk⟩ := List.mem_iff_getElem?.1 (h.p.mem_iff.2 (List.mem_of_getElem? h4))
    exact ⟨k, o, hk⟩⟩
theorem erase_perm {α : Type} {l : List α} {i : Nat} (h : i < l.length) : l.Perm (l[i] :: l.eraseIdx i) := by
  have e : l = l.take i ++ l[i] :: l.drop (i + 1) := by rw [← List.drop_eq_getElem_cons h, List.take_append_drop]
  rw [List.eraseIdx_eq_take_drop_succ]
  refine List.Perm.trans (.of_eq e) List.perm_middle
/-- A list of lists is lent. -/
class BorM (s : St) (p : Nat) (zs : List Row) : Prop where
  own : Own (p :: zs.map Row.id) s s ((p, orow zs) :: mobs zs)
instance borMOwn {B : List Nat} {b s : St} {L L' M : Objs} {p : Nat} {zs : List Row} [H : Own B b s L] [h : Del L p (orow zs) L'] [k : DelsM L' zs M] : BorM s p zs := ⟨by
  obtain ⟨i, hi, rfl⟩ := h.ex
  have hlt := (List.getElem?_eq_some_iff.1 hi).1
  have p1 : L.Perm ((p, orow zs) :: L.eraseIdx i) := by
    have := (List.getElem?_eq_some_iff.1 hi).2
    rw [← this]; exact erase_perm hlt
  have p2 : L.Perm ((p, orow zs) :: mobs zs ++ M) := p1.trans (k.p.cons _)
  have := (H.perm p2).left.self
  have e : ((p, orow zs) :: mobs zs).map Prod.fst = p :: zs.map Row.id := by simp [mobs]
  rw [e] at this; exact this⟩
theorem F_startM {f nt : Nat} {res : List ARes} {body : ACode} (hc : acode Try.prog hints f = some ⟨nt, res, body⟩) {args : List AV} {s : St} {P : AV → Objs → Prop} {p : Nat} {zs : List Row} [w : BorM s p zs]
    (h : At (p :: zs.map Row.id) s ((p, orow zs) :: mobs zs) [] [] (frame0 0 args) (.thn body (.ret res P))) : Fn (p :: zs.map Row.id) f args s P := F_startB hc w.own h
/-- Numbers that rise by one, through all lists. -/
def mkRows (k : Int) : List Row → List Row
  | [] => []
  | z :: zs => ⟨z.id, 0, z.xs.length, marks k z.xs.length⟩ :: mkRows (k + z.xs.length) zs
theorem mkRows_app {zs ws : List Row} : ∀ {k : Int}, mkRows k (zs ++ ws) = mkRows k zs ++ mkRows (k + slen zs) ws := by
  induction zs with
  | nil => intro k; simp [mkRows, slen]
  | cons z zs ih =>
    intro k
    rw [List.cons_append, mkRows, ih, mkRows, List.cons_append]
    congr 2
    simp [slen, Int.add_assoc]
theorem mkRows_len {zs : List Row} : ∀ {k : Int}, (mkRows k zs).length = zs.length := by
  induction zs with
  | nil => intro k; rfl
  | cons z zs ih => intro k; simp [mkRows, ih]
theorem mkRows_rc {zs : List Row} (h : RowsOk zs) : ∀ {k : Int}, (mkRows k zs).map rc = zs.map rc := by
  induction zs with
  | nil => intro k; rfl
  | cons z zs ih =>
    intro k
    rw [mkRows, List.map_cons, List.map_cons, ih (fun z hz => h z (by simp [hz]))]
    have := h z (by simp)
    simp only [rc, this.1, this.2]
theorem mkRows_ok {k : Int} {zs : List Row} : RowsOk (mkRows k zs) := by
  induction zs generalizing k with
  | nil => intro z hz; cases hz
  | cons z zs ih =>
    intro y hy
    rcases List.mem_cons.1 hy with rfl | hy
    · exact ⟨rfl, by simp⟩
    · exact ih y hy
instance mkRowsOk {k : Int} {zs : List Row} : Fact' (RowsOk (mkRows k zs)) := ⟨mkRows_ok⟩
theorem mkRows_slen {k : Int} {zs : List Row} : slen (mkRows k zs) = slen zs := by
  induction zs generalizing k with
  | nil => rfl
  | cons z zs ih =>
    have := ih (k := k + z.xs.length)
    simp only [slen, mkRows, List.map_cons, List.sum_cons, marks_len] at this ⊢
    rw [this]
theorem c_markInt64SS {s : St} [Wf s] {p len : Nat} {zs : List Row} {k : Int} [hx : BorM s p zs] [hok : Fact' (RowsOk zs)] (hl : zs.length = len := by first | rfl | simp | omega) (hb : 0 ≤ k ∧ k + slen zs ≤ 9223372036854775807 := by omega) (hlb : len ≤ 2000000 := by omega) :
    Fn (p :: zs.map Row.id) 20 [.c (.sl p 0 len), iv k] s fun r N => r = iv (k + slen zs) ∧ N = (p, orow (mkRows k zs)) :: mobs (mkRows k zs) := by
  refine F_startM code20 ?_
  repeat' (first
 | refine A_go rfl ?_ | refine A_ifT rfl rfl ?_ | refine A_ifF rfl rfl ?_
 | refine A_add rfl rfl rfl (by omega) ?_
 | ((first | refine A_lt rfl rfl rfl ?_ ?_) <;> intro hc <;> try first | contradiction | (exfalso; omega) | exact absurd rfl hc)
 | refine A_idxN1 rfl rfl rfl (by omega) ?_ | refine A_idx1 rfl rfl rfl (by omega) ?_
 | refine A_p (by rfl) rfl ?_
 | refine A_ldI rfl (by first | omega | (simp; done) | (simp; omega)) rfl ?_ | refine A_ldB rfl (by first | omega | (simp; done) | (simp; omega)) rfl ?_ | refine A_ld rfl (by rfl) rfl ?_
 | refine A_ret1 rfl (by exact (RP.t rfl RP.nil)) ?_)
  refine A_loopX rfl (fun m fr L => ∃ (A C : List Row), zs = A ++ C ∧ m = C.length ∧ fr = [(0, .c (.sl p 0 len)), (1, iv (k + slen A)), (5, iv A.length)] ∧ L = (p, orow zs) :: (mobs (mkRows k A) ++ mobs C)) (n := zs.length) ⟨(p, orow zs) :: (mobs (mkRows k []) ++ mobs zs), ⟨[], zs, rfl, rfl, by simp only [slen, List.map_nil, List.sum_nil, Int.ofNat_zero, Int.add_zero, List.length_nil]; rfl, rfl⟩, by rw [show mobs (mkRows k []) ++ mobs zs = mobs zs from rfl]; exact inferInstance⟩ ?_
  rintro m fr L ⟨A, C, hAC, rfl, rfl, rfl⟩
  cases C with
  | nil =>
    rw [List.append_nil] at hAC
    subst hAC
    repeat' (first
 | refine A_go rfl ?_ | refine A_ifT rfl rfl ?_ | refine A_ifF rfl rfl ?_
 | refine A_add rfl rfl rfl (by omega) ?_
 | ((first | refine A_lt rfl rfl rfl ?_ ?_) <;> intro hc <;> try first | contradiction | (exfalso; omega) | exact absurd rfl hc)
 | refine A_idxN1 rfl rfl rfl (by omega) ?_ | refine A_idx1 rfl rfl rfl (by omega) ?_
 | refine A_p (by rfl) rfl ?_
 | refine A_ldI rfl (by first | omega | (simp; done) | (simp; omega)) rfl ?_ | refine A_ldB rfl (by first | omega | (simp; done) | (simp; omega)) rfl ?_ | refine A_ld rfl (by rfl) rfl ?_
 | refine A_ret1 rfl (by exact (RP.t rfl RP.nil)) ?_)
    have e : orow zs = orow (mkRows k zs) := by unfold orow; rw [mkRows_rc hok.h]
    rw [show mobs ([] : List Row) = [] from rfl, List.append_nil, e]
    exact R_s ⟨rfl, rfl⟩
  | cons z C =>
    have hz : zs.getD A.length Row.nil = z := by rw [hAC, getD_app_len rfl]; rfl
    have hzl := hok.h z (by rw [hAC]; simp)
    have hlz : zs.length = A.length + C.length + 1 := by rw [hAC]; simp; omega
    have hsl : slen zs = slen A + (z.xs.length + slen C) := by rw [hAC, slen_app]; simp [slen]
    rw [show mobs (z :: C) = (z.id, ints z.xs) :: mobs C from rfl]
    repeat' (first
 | refine A_go rfl ?_ | refine A_ifT rfl rfl ?_ | refine A_ifF rfl rfl ?_
 | refine A_add rfl rfl rfl (by omega) ?_
 | ((first | refine A_lt rfl rfl rfl ?_ ?_) <;> intro hc <;> try first | contradiction | (exfalso; omega) | exact absurd rfl hc)
 | refine A_idxN1 rfl rfl rfl (by omega) ?_ | refine A_idx1 rfl rfl rfl (by omega) ?_
 | refine A_ldR rfl (by omega) rfl ?_
 | refine A_p (by rfl) rfl ?_
 | refine A_ldI rfl (by first | omega | (simp; done) | (simp; omega)) rfl ?_ | refine A_ldB rfl (by first | omega | (simp; done) | (simp; omega)) rfl ?_ | refine A_ld rfl (by rfl) rfl ?_
 | refine A_ret1 rfl (by exact (RP.t rfl RP.nil)) ?_)
    rw [hz, show rc z = .sl z.id 0 z.len by rw [rc, hzl.1]]
    repeat' (first
 | refine A_go rfl ?_ | refine A_ifT rfl rfl ?_ | refine A_ifF rfl rfl ?_
 | refine A_add rfl rfl rfl (by omega) ?_
 | ((first | refine A_lt rfl rfl rfl ?_ ?_) <;> intro hc <;> try first | contradiction | (exfalso; omega) | exact absurd rfl hc)
 | refine A_idxN1 rfl rfl rfl (by omega) ?_ | refine A_idx1 rfl rfl rfl (by omega) ?_
 | (refine A_callM rfl rfl (fun s H => c_markInt64S (xs := z.xs) (hl := hzl.2.symm)) ?_; rintro _ _ ⟨rfl, rfl⟩) | (refine A_callM0 rfl rfl (fun s H => c_markInt64S (xs := z.xs) (hl := hzl.2.symm)) ?_; rintro _ _ ⟨rfl, rfl⟩)
 | refine A_p (by rfl) rfl ?_
 | refine A_ldI rfl (by first | omega | (simp; done) | (simp; omega)) rfl ?_ | refine A_ldB rfl (by first | omega | (simp; done) | (simp; omega)) rfl ?_ | refine A_ld rfl (by rfl) rfl ?_
 | refine A_ret1 rfl (by exact (RP.t rfl RP.nil)) ?_)
    refine A_roundX rfl ⟨C.length, (p, orow zs) :: (mobs (mkRows k (A ++ [z])) ++ mobs C), by simp, ⟨A ++ [z], C, by rw [hAC, List.append_assoc]; rfl, rfl, ?_, rfl⟩, ?_⟩
    · rw [slen_app]
      have : slen [z] = z.len := by simp [slen, hzl.2]
      rw [this, List.length_append]
      push_cast
      rw [← Int.add_assoc]; rfl
    · rw [mkRows_app, mobs_app, hzl.2]
      refine Sub.ofPerm ?_
      rw [show mobs (mkRows (k + slen A) [z]) = [(z.id, ints (marks (k + slen A) z.xs.length))] from rfl]
      simp only [List.cons_append, List.nil_append, List.append_assoc]
      exact (List.Perm.swap _ _ _).trans (.cons _ List.perm_middle.symm)
theorem c_heldInt64SS {s : St} [Wf s] {id off len : Nat} {zs : List Row} {k k' : Int} [h : ArgE rc s id off (mkRows k zs)] [ha : ArgAll s (mkRows k zs)] (hl : zs.length = len := by first | rfl | simp | omega) (hk : k' = k := by first | rfl | omega) (hb : 0 ≤ k ∧ k + slen zs ≤ 9223372036854775807 := by omega) (hlb : len ≤ 2000000 := by omega) :
    FnV 21 [.c (.sl id off len), iv k'] s (iv (k + slen zs)) := by
  subst hk
  have hml := mkRows_len (zs := zs) (k := k')
  refine F_start code21 ?_
  repeat' (first
 | refine A_go rfl ?_ | refine A_ifT rfl rfl ?_ | refine A_ifF rfl rfl ?_
 | refine A_add rfl rfl rfl (by omega) ?_
 | ((first | refine A_lt rfl rfl rfl ?_ ?_) <;> intro hc <;> try first | contradiction | (exfalso; omega) | exact absurd rfl hc)
 | refine A_idxN1 rfl rfl rfl (by omega) ?_ | refine A_idx1 rfl rfl rfl (by omega) ?_
 | refine A_p (by rfl) rfl ?_
 | refine A_ldI rfl (by first | omega | (simp; done) | (simp; omega)) rfl ?_ | refine A_ldB rfl (by first | omega | (simp; done) | (simp; omega)) rfl ?_ | refine A_ld rfl (by rfl) rfl ?_
 | refine A_ret1 rfl (by exact (RP.t rfl RP.nil)) ?_)
  refine A_loop rfl [] (fun m fr L => ∃ (A C : List Row), zs = A ++ C ∧ m = C.length ∧ fr = [(0, .c (.sl id off len)), (1, iv (k' + slen A)), (5, iv A.length)] ∧ L = []) zs.length ⟨[], zs, rfl, rfl, by simp only [slen, List.map_nil, List.sum_nil, Int.ofNat_zero, Int.add_zero, List.length_nil]; rfl, rfl⟩ ?_
  rintro m fr L ⟨A, C, hAC, rfl, rfl, rfl⟩
  cases C with
  | nil =>
    rw [List.append_nil] at hAC
    subst hAC
    repeat' (first
 | refine A_go rfl ?_ | refine A_ifT rfl rfl ?_ | refine A_ifF rfl rfl ?_
 | refine A_add rfl rfl rfl (by omega) ?_
 | ((first | refine A_lt rfl rfl rfl ?_ ?_) <;> intro hc <;> try first | contradiction | (exfalso; omega) | exact absurd rfl hc)
 | refine A_idxN1 rfl rfl rfl (by omega) ?_ | refine A_idx1 rfl rfl rfl (by omega) ?_
 | refine A_p (by rfl) rfl ?_
 | refine A_ldI rfl (by first | omega | (simp; done) | (simp; omega)) rfl ?_ | refine A_ldB rfl (by first | omega | (simp; done) | (simp; omega)) rfl ?_ | refine A_ld rfl (by rfl) rfl ?_
 | refine A_ret1 rfl (by exact (RP.t rfl RP.nil)) ?_)
    exact R_v rfl
  | cons z C =>
    have hlz : zs.length = A.length + C.length + 1 := by rw [hAC]; simp; omega
    have hsl : slen zs = slen A + (z.xs.length + slen C) := by rw [hAC, slen_app]; simp [slen]
    haveI : Fact' (A.length < (mkRows k' zs).length) := ⟨by omega⟩
    have hz : (mkRows k' zs).getD A.length Row.nil = ⟨z.id, 0, z.xs.length, marks (k' + slen A) z.xs.length⟩ := by rw [hAC, mkRows_app, getD_app_len mkRows_len]; rfl
    have hx : (((mkRows k' zs).getD A.length Row.nil).xs) = marks (k' + slen A) z.xs.length := by rw [hz]
    have hzl : ((mkRows k' zs).getD A.length Row.nil).len = z.xs.length := by rw [hz]
    haveI harg : ArgE ic s ((mkRows k' zs).getD A.length Row.nil).id ((mkRows k' zs).getD A.length Row.nil).off (marks (k' + slen A) z.xs.length) := by rw [← hx]; exact inferInstance
    repeat' (first
 | refine A_go rfl ?_ | refine A_ifT rfl rfl ?_ | refine A_ifF rfl rfl ?_
 | refine A_add rfl rfl rfl (by omega) ?_
 | ((first | refine A_lt rfl rfl rfl ?_ ?_) <;> intro hc <;> try first | contradiction | (exfalso; omega) | exact absurd rfl hc)
 | refine A_idxN1 rfl rfl rfl (by omega) ?_ | refine A_idx1 rfl rfl rfl (by omega) ?_
 | refine A_ldR rfl (by omega) rfl ?_
 | refine A_callV rfl rfl (fun s H => c_heldInt64S (n := z.xs.length) (k := k' + slen A) (hx := by rw [← hx] <;> exact inferInstance) (hl := hzl.symm)) ?_
 | refine A_p (by rfl) rfl ?_
 | refine A_ldI rfl (by first | omega | (simp; done) | (simp; omega)) rfl ?_ | refine A_ldB rfl (by first | omega | (simp; done) | (simp; omega)) rfl ?_ | refine A_ld rfl (by rfl) rfl ?_
 | refine A_ret1 rfl (by exact (RP.t rfl RP.nil)) ?_)
    refine A_round rfl [] C.length (by simp) ?_
    refine ⟨A ++ [z], C, by rw [hAC, List.append_assoc]; rfl, rfl, ?_, rfl⟩
    rw [slen_app, hzl]
    have : slen [z] = z.xs.length := by simp [slen]
    rw [this, List.length_append]
    push_cast
    rw [← Int.add_assoc]; rfl
theorem Sub.trans {N M L : Objs} (h : Sub N M) (k : Sub M L) : Sub N L := ⟨fun B b s H => h.own B b s (k.own B b s H), fun j q o hj => by
  rcases h.ids j q o hj with g | ⟨j', o', g⟩
  · exact .inl g
  · exact k.ids j' q o' g⟩
theorem rows_at {zs : List Row} {yss : List (List Int)} (h : zs.map Row.xs = yss) {i : Nat} (hi : i < zs.length) : (zs.getD i Row.nil).xs = yss.getD i [] := by
  rw [← h, List.getD_eq_getElem?_getD, List.getD_eq_getElem?_getD, List.getElem?_map, List.getElem?_eq_getElem hi]; rfl
/-- Lists of numbers, and whether there are such. -/
def MatOut (P : Prop) (yss : List (List Int)) (p : Nat) (zs : List Row) (N : Objs) : Prop := N = (p, orow zs) :: mobs zs ∧ zs.map Row.xs = sel P yss [] ∧ slen zs ≤ 2000000 ∧ zs.length ≤ 2000000
theorem R_mat {P : Prop} {yss : List (List Int)} {p n : Nat} {zs : List Row} {L : Objs} (h : P) (hok : RowsOk zs) (hm : zs.map Row.xs = yss) (hs : slen zs ≤ 2000000 ∧ zs.length ≤ 2000000) (hn : zs.length = n) (sub : Sub ((p, orow zs) :: mobs zs) L) :
    ∃ N, (∃ q ws, (.tup [.c (.sl p 0 n), .c (.bool true)] : AV) = .tup [.c (.sl q 0 ws.length), .c (.bool (tt P))] ∧ Fact' (RowsOk ws) ∧ MatOut P yss q ws N) ∧ Sub N L :=
  ⟨_, ⟨p, zs, by subst hn; rw [tt_t h], ⟨hok⟩, rfl, by rw [sel_t h, hm], hs⟩, sub⟩
theorem R_matN {P : Prop} {yss : List (List Int)} {L : Objs} (h : ¬ P) :
    ∃ N, (∃ p zs, (.tup [.c (.sl 0 0 0), .c (.bool false)] : AV) = .tup [.c (.sl p 0 zs.length), .c (.bool (tt P))] ∧ Fact' (RowsOk zs) ∧ MatOut P yss p zs N) ∧ Sub N L :=
  ⟨_, ⟨0, [], by rw [tt_f h]; rfl, ⟨fun z hz => by cases hz⟩, rfl, by rw [sel_f h]; rfl, by simp [slen], by simp⟩, subN.virt (by omega)⟩
theorem slen_le {zs : List Row} {b : Nat} (h : ∀ z ∈ zs, z.xs.length ≤ b) : slen zs ≤ zs.length * b := by
  induction zs with
  | nil => simp [slen]
  | cons z zs ih =>
    have h1 := ih fun z hz => h z (by simp [hz])
    have h2 := h z (by simp)
    have : slen (z :: zs) = z.xs.length + slen zs := by simp [slen]
    rw [this, List.length_cons, Nat.add_mul]; omega
theorem slen_take {zs : List Row} {i : Nat} (h : i < zs.length) : slen (zs.take (i + 1)) = slen (zs.take i) + (zs.getD i Row.nil).xs.length := by
  rw [List.take_add_one, getD_some Row.nil h, slen_app]; simp [slen]
theorem slen_take_le {zs : List Row} (i : Nat) : slen (zs.take i) ≤ slen zs := by
  have := slen_app (zs := zs.take i) (ws := zs.drop i)
  rw [List.take_append_drop] at this; omega
theorem c_szInt64SS {s : St} [Wf s] {id off n : Nat} {left : Int} {zs : List Row} [h : ArgE rc s id off zs] [hok : Fact' (RowsOk zs)] (hz : ∀ z ∈ zs, z.len ≤ 9223372036854775807) (hn : zs.length = n) (hl : 0 ≤ left ∧ left ≤ 2000000 := by omega) (hnb : n ≤ 9223372036854775807 := by omega) :
    Fn [] 12 [.c (.sl id off n), iv left] s fun r N => (∃ l', r = iv l' ∧ (l' < 0 ∨ (0 ≤ l' ∧ l' = left - n - slen zs))) ∧ N = [] := by
  refine F_start code12 ?_
  by_cases h0 : left - n < 0
  · repeat' (first
 | refine A_go rfl ?_ | refine A_ifT rfl rfl ?_ | refine A_ifF rfl rfl ?_
 | refine A_add rfl rfl rfl (by omega) ?_ | refine A_sub rfl rfl rfl (by omega) ?_
 | ((first | refine A_lt rfl rfl rfl ?_ ?_) <;> intro hc <;> try first | contradiction | (exfalso; omega) | exact absurd rfl hc)
 | refine A_idxN1 rfl rfl rfl (by omega) ?_ | refine A_idx1 rfl rfl rfl (by omega) ?_
 | refine A_p (by rfl) rfl ?_
 | refine A_ldI rfl (by first | omega | (simp; done) | (simp; omega)) rfl ?_ | refine A_ldB rfl (by first | omega | (simp; done) | (simp; omega)) rfl ?_ | refine A_ld rfl (by rfl) rfl ?_
 | refine A_ret1 rfl (by exact (RP.t rfl RP.nil)) ?_)
    exact R_n [] ⟨⟨_, rfl, .inl (by omega)⟩, rfl⟩
  repeat' (first
 | refine A_go rfl ?_ | refine A_ifT rfl rfl ?_ | refine A_ifF rfl rfl ?_
 | refine A_add rfl rfl rfl (by omega) ?_ | refine A_sub rfl rfl rfl (by omega) ?_
 | ((first | refine A_lt rfl rfl rfl ?_ ?_) <;> intro hc <;> try first | contradiction | (exfalso; omega) | exact absurd rfl hc)
 | refine A_idxN1 rfl rfl rfl (by omega) ?_ | refine A_idx1 rfl rfl rfl (by omega) ?_
 | refine A_p (by rfl) rfl ?_
 | refine A_ldI rfl (by first | omega | (simp; done) | (simp; omega)) rfl ?_ | refine A_ldB rfl (by first | omega | (simp; done) | (simp; omega)) rfl ?_ | refine A_ld rfl (by rfl) rfl ?_
 | refine A_ret1 rfl (by exact (RP.t rfl RP.nil)) ?_)
  refine A_loop rfl [] (fun m fr L => ∃ (i : Nat) (l : Int), m = n - i ∧ fr = [(0, .c (.sl id off n)), (1, iv l), (5, iv i)] ∧ L = [] ∧ i ≤ n ∧ 0 ≤ l ∧ l = left - n - slen (zs.take i)) n ⟨0, _, rfl, rfl, rfl, by omega, by omega, by simp [slen]⟩ ?_
  rintro m fr L ⟨i, l, rfl, rfl, rfl, hi, hl0, hle⟩
  by_cases hi' : i < n
  · have hzi := hok.h _ (getD_mem (d := Row.nil) (by omega : i < zs.length))
    have hzb := hz _ (getD_mem (d := Row.nil) (by omega : i < zs.length))
    have hst := slen_take (zs := zs) (i := i) (by omega)
    repeat' (first
 | refine A_go rfl ?_ | refine A_ifT rfl rfl ?_ | refine A_ifF rfl rfl ?_
 | refine A_add rfl rfl rfl (by omega) ?_ | refine A_sub rfl rfl rfl (by omega) ?_
 | ((first | refine A_lt rfl rfl rfl ?_ ?_) <;> intro hc <;> try first | contradiction | (exfalso; omega) | exact absurd rfl hc)
 | refine A_idxN1 rfl rfl rfl (by omega) ?_ | refine A_idx1 rfl rfl rfl (by omega) ?_
 | refine A_ldR rfl (by omega) rfl ?_
 | (refine A_callM rfl rfl (fun s H => c_szInt64S) ?_; rintro _ _ ⟨⟨l, rfl, hl1, hl2⟩, rfl⟩) | (refine A_callM0 rfl rfl (fun s H => c_szInt64S) ?_; rintro _ _ ⟨⟨l, rfl, hl1, hl2⟩, rfl⟩)
 | refine A_p (by rfl) rfl ?_
 | refine A_ldI rfl (by first | omega | (simp; done) | (simp; omega)) rfl ?_ | refine A_ldB rfl (by first | omega | (simp; done) | (simp; omega)) rfl ?_ | refine A_ld rfl (by rfl) rfl ?_
 | refine A_ret1 rfl (by exact (RP.t rfl RP.nil)) ?_)
    all_goals first
      | exact R_n [] ⟨⟨_, rfl, .inl (by omega)⟩, rfl⟩
      | (refine A_round rfl [] (n - (i + 1)) (by omega) ?_; exact ⟨i + 1, _, rfl, rfl, rfl, by omega, by omega, by omega⟩)
  · obtain rfl : n = i := by omega
    rw [List.take_of_length_le (by omega)] at hle
    repeat' (first
 | refine A_go rfl ?_ | refine A_ifT rfl rfl ?_ | refine A_ifF rfl rfl ?_
 | refine A_add rfl rfl rfl (by omega) ?_ | refine A_sub rfl rfl rfl (by omega) ?_
 | ((first | refine A_lt rfl rfl rfl ?_ ?_) <;> intro hc <;> try first | contradiction | (exfalso; omega) | exact absurd rfl hc)
 | refine A_idxN1 rfl rfl rfl (by omega) ?_ | refine A_idx1 rfl rfl rfl (by omega) ?_
 | refine A_p (by rfl) rfl ?_
 | refine A_ldI rfl (by first | omega | (simp; done) | (simp; omega)) rfl ?_ | refine A_ldB rfl (by first | omega | (simp; done) | (simp; omega)) rfl ?_ | refine A_ld rfl (by rfl) rfl ?_
 | refine A_ret1 rfl (by exact (RP.t rfl RP.nil)) ?_)
    exact R_n [] ⟨⟨_, rfl, .inr ⟨hl0, hle⟩⟩, rfl⟩

end Go.Proofs.Ytafdjnhlhepibaa
