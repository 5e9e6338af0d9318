/- All that some objects are is lent to a call of a function that is only known by its contract. -/
import Derived.Test.YtlhidckolillaaaXtoInts
import Derived.Test.YtlhidckolillaaaFB
namespace Go.Proofs.Ytlhidckolillaaa
open Go Go.RowKit
set_option linter.unusedVariables false
set_option linter.unusedSimpArgs false
set_option maxRecDepth 100000
set_option maxHeartbeats 8000000


theorem Own.self {B : List Nat} {b s : St} {N : Objs} (H : Own B b s N) : Own (N.map Prod.fst) s s N := by
  refine ⟨H.wf, H.wf.2, Nat.le_refl _, fun _ _ _ => rfl, fun i p o h => ?_, H.inj⟩
  rcases H.obj i p o h with ⟨g1, g2, g3, g4⟩ | g
  · exact .inl ⟨.inr (List.mem_map.2 ⟨(p, o), List.mem_of_getElem? h, rfl⟩), g2, g3, g4⟩
  · exact .inr g
theorem Own.right {B : List Nat} {b s : St} {M N : Objs} (H : Own B b s (M ++ N)) : Own B b s N :=
  H.pick (fun i => M.length + i) (fun i x h => by rw [List.getElem?_append_right (by omega)]; simpa using h) (fun i j _ _ h => by omega)
theorem Own.left {B : List Nat} {b s : St} {M N : Objs} (H : Own B b s (N ++ M)) : Own B b s N :=
  H.pick id (fun i x h => by
    have hlt := (List.getElem?_eq_some_iff.1 h).1
    rw [id, List.getElem?_append_left hlt]; exact h) (fun i j _ _ h => h)
theorem Own.swap {B : List Nat} {b s : St} {M N : Objs} (H : Own B b s (M ++ N)) : Own B b s (N ++ M) :=
  H.pick (fun i => if i < N.length then M.length + i else i - N.length) (fun i x h => by
    by_cases hi : i < N.length
    · rw [if_pos hi, List.getElem?_append_right (by omega), show M.length + i - M.length = i by omega]
      rw [List.getElem?_append_left hi] at h; exact h
    · rw [if_neg hi]
      rw [List.getElem?_append_right (by omega)] at h
      have hlt := (List.getElem?_eq_some_iff.1 h).1
      rw [List.getElem?_append_left hlt]; exact h) (fun i j hi hj h => by
    simp only [List.length_append] at hi hj
    split <;> split <;> omega)
theorem delsAll : ∀ (N M : Objs), Dels (N ++ M) (N.map Prod.fst) M
  | [], M => delsN
  | (p, o) :: N, M => by
    have k := delsAll N M
    exact @delsC ((p, o) :: (N ++ M)) (N ++ M) M (N.map Prod.fst) p o delH k
section
variable {B : List Nat} {b : St} {L : Objs} {l : List AStep} {hist : List Objs} {fr : Frm} {k : KK} {d : Nat} {chk : List Nat} {g : Option (Nat × Bool)}
theorem A_callI0 {f : Opd} {args : List Opd} {fn : Nat} {vs : List AV} {M N : Objs} {P : AV → Objs → Prop} (hc : callee fr f args = some (fn, vs)) (hg : gon fr g = some true) (hL : L = M ++ N)
    (hw : ∀ s, Own B b s (M ++ N) → Own (N.map Prod.fst) s s N → Fn (N.map Prod.fst) fn vs s P) (h : ∀ r N', P r N' → At B b (N' ++ M) l (hist ++ [L]) fr k) : At B b L (⟨none, .call f args, g, chk⟩ :: l) hist fr k :=
  ⟨fun s hs H Hh => O_call0 hc hg (hw s (hL ▸ H) (hL ▸ H : Own B b s (M ++ N)).right.self).ex fun r s1 ⟨N', K, hp⟩ => (h r N' hp).ok _ _ ((hL ▸ H : Own B b s (M ++ N)).swap.after (delsAll N M) K) (hist_snoc H Hh)⟩
theorem A_callI {f : Opd} {args : List Opd} {fn : Nat} {vs : List AV} {M N : Objs} {P : AV → Objs → Prop} (hc : callee fr f args = some (fn, vs)) (hg : gon fr g = some true) (hL : L = M ++ N)
    (hw : ∀ s, Own B b s (M ++ N) → Own (N.map Prod.fst) s s N → Fn (N.map Prod.fst) fn vs s P) (h : ∀ r N', P r N' → At B b (N' ++ M) l (hist ++ [L]) ((d, r) :: fr) k) : At B b L (⟨some d, .call f args, g, chk⟩ :: l) hist fr k :=
  ⟨fun s hs H Hh => O_call hc hg (hw s (hL ▸ H) (hL ▸ H : Own B b s (M ++ N)).right.self).ex fun r s1 ⟨N', K, hp⟩ => (h r N' hp).ok _ _ ((hL ▸ H : Own B b s (M ++ N)).swap.after (delsAll N M) K) (hist_snoc H Hh)⟩
theorem A_subL {L' : Objs} [hs : Sub L' L] (h : At B b L' l hist fr k) : At B b L l hist fr k :=
  ⟨fun s hs' H Hh => h.ok s hs' (hs.own _ _ _ H) Hh⟩
end
instance (priority := low) subRefl {N : Objs} : Sub N N := ⟨fun B b s H => H, fun j q o h => .inr ⟨j, o, h⟩⟩
instance (priority := low) subTail {N L : Objs} {x : Nat × AObj} [h : Sub N L] : Sub N (x :: L) :=
  ⟨fun B b s H => h.own B b s (H.pick (fun i => i + 1) (fun i y h => by simpa using h) (fun i j _ _ h => by omega)), fun j q o hj => (h.ids j q o hj).imp id fun ⟨j', o', g⟩ => ⟨j' + 1, o', by simpa using g⟩⟩
instance (priority := low) subApp {N M : Objs} : Sub N (N ++ M) :=
  ⟨fun B b s H => H.left, fun j q o hj => .inr ⟨j, o, by rw [List.getElem?_append_left (List.getElem?_eq_some_iff.1 hj).1]; exact hj⟩⟩
/-- 'append' to a list that was cut. -/
theorem O_appT {s : St} {hs : List Heap} {K : Frm → St → Prop} {fr : Frm} {d : Nat} {g : Option (Nat × Bool)} {chk : List Nat} {l : List AStep} {t e by_ p len id off m : Nat} {x y : Opd} {cs news : List AC} (hx : ev fr x = some (.c (.sl p 0 len))) (hy : ev fr y = some (.c (.sl id off m))) (hg : gon fr g = some true)
    (hn : srcCells s.h e (id, off, m) = some news) (hb : (len + m) * by_ ≤ 140737488355328 ∧ len + m ≤ 4611686018427387904) (h2 : 2 ≤ p) (ho : s.h p = some (.rw t e cs)) (hl : len * e ≤ cs.length)
    (h : wpO l (hs ++ [s.h]) ((d, .c (.sl s.n 0 (len + m))) :: fr) ⟨upd (upd s.h p .dead) s.n (.rw t e (cs.take (len * e) ++ news)), s.n + 1⟩ K) : wpO (⟨some d, .append t e by_ x y, g, chk⟩ :: l) hs fr s K := by
  refine O_h ?_ hg h
  simp only [evH, hx, hy, Option.bind_some, asSl, hn]
  rw [if_pos ⟨hb.1, hb.2⟩, if_neg (by omega)]
  simp only [ho]
  rw [if_pos ⟨trivial, trivial, trivial, hl⟩]
theorem A_appT {B : List Nat} {b : St} {L L' : Objs} {l : List AStep} {hist : List Objs} {fr : Frm} {k : KK} {d : Nat} {chk : List Nat} {g : Option (Nat × Bool)} {α : Type} {enc : α → AC} {t by_ p len id off m : Nat} {x y : Opd} {xs ys : List α} (hx : ev fr x = some (.c (.sl p 0 len))) (hy : ev fr y = some (.c (.sl id off m))) (hg : gon fr g = some true) [hd : Del L p (.rw t 1 (xs.map enc)) L'] [hn : LookE enc B b L id off ys]
    (hl : len ≤ xs.length) (hm : ys.length = m) (hb : (len + m) * by_ ≤ 140737488355328 ∧ len + m ≤ 4611686018427387904)
    (h : ∀ p', At B b ((p', .rw t 1 ((xs.take len ++ ys).map enc)) :: L') l (hist ++ [L]) ((d, .c (.sl p' 0 (len + m))) :: fr) k) : At B b L (⟨some d, .append t 1 by_ x y, g, chk⟩ :: l) hist fr k := by
  refine ⟨fun s hs H Hh => ?_⟩
  obtain ⟨i, hi, rfl⟩ := hd.ex
  have hnn := (hn.h s H).src
  rw [hm] at hnn
  have key : (xs.map enc).take (len * 1) ++ ys.map enc = (xs.take len ++ ys).map enc := by rw [Nat.mul_one, List.map_append, List.map_take]
  rcases H.obj i _ _ hi with ⟨g1, g2, g3, g4⟩ | ⟨g1, t', e', g2⟩
  · refine O_appT hx hy hg hnn hb g2 g4 (by simpa using hl) ?_
    rw [key]
    exact (h s.n).ok _ _ (H.grow hi g2 _) (hist_snoc H Hh)
  · simp only [AObj.rw.injEq, List.map_eq_nil_iff] at g2
    obtain ⟨rfl, rfl, rfl⟩ := g2
    obtain rfl : len = 0 := by simpa using hl
    by_cases hm0 : m = 0
    · subst hm0
      obtain rfl : ys = [] := by simpa using hm
      exact O_appNN hx g1 hy hg hnn ((h p).ok _ _ ((H.del i).cons (.inr ⟨g1, _, _, rfl⟩) (by omega)) (hist_snoc H Hh))
    · refine O_appN hx g1 hy hg hnn (by rw [Nat.zero_add] at hb; exact hb) hm0 ?_
      have := (h s.n).ok ⟨upd s.h s.n (.rw t 1 (ys.map enc)), s.n + 1⟩ _ ((H.del i).new (.rw t 1 (ys.map enc))) (hist_snoc H Hh)
      rw [Nat.zero_add] at this; exact this
/-- What is known of the state ahead of all is not among what is lent. -/
theorem notInLent {ids : List Nat} {s s1 : St} {N M : Objs} (H : Own ids s s1 (M ++ N)) {q : Nat} (hq : q < s.n) (hn : q ∉ ids ∨ q ≤ 1) : NotIn q (N.map Prod.fst) := by
  refine ⟨?_⟩
  by_cases h1 : q ≤ 1
  · exact .inr h1
  · refine .inl fun hm => ?_
    obtain ⟨⟨p, o⟩, hp, rfl⟩ := List.mem_map.1 hm
    obtain ⟨i, hi⟩ := List.mem_iff_getElem?.1 hp
    rcases H.right.obj i p o hi with ⟨g1, _⟩ | ⟨g1, _⟩
    · rcases g1 with g1 | g1
      · simp only at hq; omega
      · exact hn.elim (fun h => h g1) h1
    · exact h1 g1
theorem Own.ne {B : List Nat} {b s : St} {L L' : Objs} {q p : Nat} {o o' : AObj} (H : Own B b s L) [h : Del L q o L'] [k : Has L' p o'] : q ≠ p ∨ q ≤ 1 := by
  obtain ⟨i, hi, rfl⟩ := h.ex
  obtain ⟨j, hj⟩ := k.ex
  by_cases h2 : q ≤ 1
  · exact .inr h2
  · exact .inl (H.inj _ _ _ _ _ _ hi (eraseIdx_at hj) (by split <;> omega) (by omega))
theorem Own.neB {b s : St} {L : Objs} {q p : Nat} {o : AObj} (H : Own [] b s L) (hq : q < b.n) [k : Has L p o] : q ≠ p ∨ q ≤ 1 := by
  obtain ⟨j, hj⟩ := k.ex
  rcases H.obj j _ _ hj with ⟨g1, _⟩ | ⟨g1, _⟩
  · rcases g1 with g1 | g1
    · exact .inl (by omega)
    · cases g1
  · by_cases e : q = p
    · exact .inr (by omega)
    · exact .inl e
theorem NotIn.nil {q : Nat} : q ∉ ([] : List Nat) ∨ q ≤ 1 := .inl (by simp)
theorem NotIn.cons {q p : Nat} {ids : List Nat} (h : q ≠ p ∨ q ≤ 1) (k : q ∉ ids ∨ q ≤ 1) : q ∉ p :: ids ∨ q ≤ 1 := by
  rcases h with h | h
  · rcases k with k | k
    · exact .inl (by simp [h, k])
    · exact .inr k
  · exact .inr h

end Go.Proofs.Ytlhidckolillaaa
