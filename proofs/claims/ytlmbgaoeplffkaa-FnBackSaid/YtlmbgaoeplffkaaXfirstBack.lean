/- The first ring that leads to one. -/
import Derived.Test.YtlmbgaoeplffkaaXbackB
import Derived.Test.YtlmbgaoeplffkaaXfillR
import Derived.Test.YtlmbgaoeplffkaaFB
namespace Go.Proofs.Ytlmbgaoeplffkaa
open Go Go.RowKit
set_option linter.unusedVariables false
set_option linter.unusedSimpArgs false
set_option maxRecDepth 100000
set_option maxHeartbeats 8000000
-- impl.FirstBack$1
def L38 : AFun := ⟨6, [.t 3],
 (.seq (.ops false [⟨(some 3), .mv (.k (bv false)), none, []⟩])
 (.seq (.ops false [⟨(some 4), .mv (.t 0), none, []⟩,
   ⟨(some 5), .call (.f 37) [(.t 4)], none, []⟩,
   ⟨none, .store 1 (.t 1) (.t 5), none, []⟩])
 (.seq (.ops false [⟨(some 3), .mv (.k (bv false)), none, []⟩])
 .ret)))⟩
theorem code38 : acode Try.prog hints 38 = some L38 := by kernel_rfl

-- impl.FirstBack
def L12 : AFun := ⟨18, [.t 4, .t 5],
 (.seq (.ops false [⟨(some 2), .box 27 (.t 0), none, []⟩,
   ⟨(some 4), .mv (.k (.c (.sl 0 0 0))), none, []⟩,
   ⟨(some 5), .mv (.k (bv false)), none, []⟩])
 (.seq (.seq (.ops false [⟨(some 7), .load true 3 (.t 2), none, []⟩,
    ⟨(some 8), .mv (.t 1), none, []⟩,
    ⟨(some 9), .call (.f 33) [(.t 7), (.t 8)], none, []⟩,
    ⟨(some 10), .un .not (.t 9), none, []⟩])
  (.cond (.t 10) (.seq (.ops false [⟨(some 4), .mv (.k (.c (.sl 0 0 0))), none, []⟩,
     ⟨(some 5), .mv (.k (bv false)), none, []⟩])
   .ret)
   .skip))
 (.seq (.ops false [⟨(some 6), .alloc 25 [.sl 0 0 0], none, []⟩])
 (.seq (.ops false [⟨(some 11), .load true 3 (.t 2), none, []⟩,
   ⟨(some 12), .mv (.t 1), none, []⟩,
   ⟨(some 13), .mkFn 38 [(.t 6)], none, []⟩,
   ⟨(some 14), .call (.f 35) [(.t 11), (.t 12), (.t 13)], none, []⟩])
 (.seq (.ops true [⟨(some 15), .load false 1 (.t 6), none, []⟩,
   ⟨(some 16), .load false 1 (.t 6), none, []⟩,
   ⟨(some 17), .isNil true (.t 16), none, []⟩,
   ⟨(some 4), .mv (.t 15), none, []⟩,
   ⟨(some 5), .mv (.t 17), none, []⟩])
 .ret)))))⟩
theorem code12 : acode Try.prog hints 12 = some L12 := by kernel_rfl


def FbP (st re : Int) (xs to : List Int) : Prop := BackP st re xs to ∧ fwdL st re xs to ≠ []
def fbR (st re : Int) (xs to : List Int) : List Int := (fwdL st re xs to).headD []
section
variable {B : List Nat} {b : St} {L : Objs} {l : List AStep} {hist : List Objs} {fr : Frm} {kk : KK} {d : Nat} {chk : List Nat} {g : Option (Nat × Bool)}
theorem A_two {p : Nat} {xs : List Int} [h : Has L p (ints xs)] (hx : xs ≠ []) (k : 2 ≤ p → At B b L l hist fr kk) : At B b L l hist fr kk := ⟨fun s hs H Hh => by
  obtain ⟨i, hi⟩ := h.ex
  rcases H.obj i _ _ hi with ⟨_, g2, _⟩ | ⟨_, t, e, g⟩
  · exact (k g2).ok s hs H Hh
  · simp only [AObj.rw.injEq, List.map_eq_nil_iff] at g; exact absurd g.2.2 hx⟩
theorem A_notNil {x : Opd} {p off n : Nat} (hp : 2 ≤ p) (hx : ev fr x = some (.c (.sl p off n))) (hg : gon fr g = some true) (h : At B b L l hist ((d, bv true) :: fr) kk) : At B b L (⟨some d, .isNil true x, g, chk⟩ :: l) hist fr kk := by
  refine A_p ?_ hg h
  simp only [evP, hx, Option.bind_some, isNilV, if_true]
  have : (p == 0) = false := by rw [beq_eq_false_iff_ne]; omega
  rw [this]; rfl
end
abbrev FbN (po p : Nat) (ys : List Int) : Objs := [(po, .rw 25 1 [.sl p 0 ys.length]), (p, ints ys)]
def FbE (po : Nat) (acc : List (List Int)) (K : Objs) : Prop := ∃ p ys, K = FbN po p ys ∧ ((acc = [] ∧ p = 0 ∧ ys = []) ∨ (acc ≠ [] ∧ acc.getLast? = some ys))
theorem c_fb1 {s1 : St} {po n id : Nat} {acc : List (List Int)} {y : List Int} {K : Objs} (hO : Own (K.map Prod.fst) s1 s1 K) (hE : FbE po acc K) (ha : ArgE ic s1 id 0 y) (hy : y.length = n) (hni : NotIn id (K.map Prod.fst)) (hn : n ≤ 64) : Fn (K.map Prod.fst) 38 [.c (.sl id 0 n), .c (.ptr po 0)] s1 fun r K' => r = bv false ∧ FbE po (acc ++ [y]) K' := by
  obtain ⟨p, ys, rfl, h⟩ := hE
  haveI : Wf s1 := ⟨hO.wf⟩
  subst hy
  refine F_startB code38 hO ?_
  repeat' (first
 | refine A_go rfl ?_ | refine A_ifT rfl rfl ?_ | refine A_ifF rfl rfl ?_
 | (refine A_callM rfl rfl (fun s H => c_clone (xs := y)) ?_; rintro _ _ ⟨pz, rfl, rfl⟩) | (refine A_callM0 rfl rfl (fun s H => c_clone (xs := y)) ?_; rintro _ _ ⟨pz, rfl, rfl⟩)
 | refine A_p (by rfl) rfl ?_
 | refine A_st rfl rfl rfl ?_ | refine A_stE rfl rfl (by first | omega | (simp; done) | (simp; omega)) rfl ?_
 | refine A_ret1 rfl (by exact (RP.t rfl RP.nil)) ?_)
  exact ⟨_, ⟨rfl, pz, y, rfl, .inr ⟨by simp, by simp⟩⟩, inferInstance⟩
theorem c_implFirstBack {s : St} [Wf s] {st re : Int} {id_xs off_xs len_xs : Nat} {xs : List Int} [h_xs : ArgE ic s id_xs off_xs xs] (hl_xs : xs.length = len_xs := by first | rfl | simp | omega | (simp; omega)) {id_to off_to len_to : Nat} {to : List Int} [h_to : ArgE ic s id_to off_to to] (hl_to : to.length = len_to := by first | rfl | simp | omega | (simp; omega)) (hb : len_xs ≤ 2000000 ∧ len_to ≤ 2000000 := by omega) :
    Fn [] 12 [.agg [ic st, ic re, .sl id_xs off_xs len_xs], .c (.sl id_to off_to len_to)] s (IntsRes (FbP st re xs to) (fbR st re xs to)) := by
  refine F_start code12 ?_
  by_cases hp : BackP st re xs to
  case neg =>
    repeat' (first
 | refine A_go rfl ?_ | refine A_ifT rfl rfl ?_ | refine A_ifF rfl rfl ?_
 | (refine A_callB rfl rfl (fun s H => c_backRing (ys := to)) ?_ ?_ <;> intro hc <;> try first | contradiction | (exfalso; omega) | exact absurd rfl hc | exact absurd (And.intro rfl rfl) hc | exact absurd (And.intro rfl (And.intro rfl rfl)) hc | exact absurd (Eq.trans (by assumption) (Eq.symm (by assumption))) hc)
 | refine A_p (by rfl) rfl ?_
 | refine A_ldI rfl (by first | omega | (simp; done) | (simp; omega)) rfl ?_ | refine A_ldB rfl (by first | omega | (simp; done) | (simp; omega)) rfl ?_ | refine A_ld rfl (by rfl) rfl ?_
 | refine A_ldW rfl (by simp) rfl ?_
 | ((first | refine A_alloc rfl ?_ | refine A_box rfl rfl ?_ | refine A_boxC rfl rfl ?_) <;> intro pz hpz)
 | refine A_ret rfl (by exact (RP.t rfl (RP.t rfl RP.nil))) ?_)
    exact R_intsN fun h => hp h.1
  obtain ⟨S, w, E, rfl, hS, hw, hw1, hE, hl, hEb, hdg⟩ := hp.1.1.nat
  have hv := hp.1.1
  have hto := hp.1.2
  have hn := hp.2
  have hwn : w ≤ to.length := by omega
  have hval : putA S E w xs (labI re to) len_to E = fwdL S re xs to := by
    have h := putA_all (S := S) (E := E) (w := w) (xs := xs) (lab := labI re to)
    rw [labI_len, hl_to] at h
    rw [h, ← hl_to]; exact backL_eq hv hto hE hw hwn
  repeat' (first
 | refine A_go rfl ?_ | refine A_ifT rfl rfl ?_ | refine A_ifF rfl rfl ?_
 | (refine A_callB rfl rfl (fun s H => c_backRing (ys := to)) ?_ ?_ <;> intro hc <;> try first | contradiction | (exfalso; omega) | exact absurd rfl hc | exact absurd (And.intro rfl rfl) hc | exact absurd (And.intro rfl (And.intro rfl rfl)) hc | exact absurd (Eq.trans (by assumption) (Eq.symm (by assumption))) hc)
 | refine A_p (by rfl) rfl ?_
 | refine A_ldI rfl (by first | omega | (simp; done) | (simp; omega)) rfl ?_ | refine A_ldB rfl (by first | omega | (simp; done) | (simp; omega)) rfl ?_ | refine A_ld rfl (by rfl) rfl ?_
 | refine A_ldW rfl (by simp) rfl ?_
 | ((first | refine A_alloc rfl ?_ | refine A_box rfl rfl ?_ | refine A_boxC rfl rfl ?_) <;> intro pz hpz)
 | refine A_ret rfl (by exact (RP.t rfl (RP.t rfl RP.nil))) ?_)
  obtain ⟨po, hEq⟩ : ∃ p, p = pz := ⟨_, rfl⟩; subst hEq
  obtain ⟨q, hEq⟩ : ∃ p, p = pz := ⟨_, rfl⟩; subst hEq
  refine A_subL (L' := [(q, .rw 27 3 [ic S, ic re, .sl id_xs off_xs len_xs]), (po, .rw 25 1 [.sl 0 0 0]), (0, ints [])]) ?_
  refine A_callI (M := [(q, .rw 27 3 [ic S, ic re, .sl id_xs off_xs len_xs])]) (N := [(po, .rw 25 1 [.sl 0 0 0]), (0, ints [])]) (P := fun _ N => FbE po (tk false (fwdL S re xs to)) N) rfl rfl rfl (fun s' H K => ?_) ?_
  · haveI : Wf s' := ⟨K.wf⟩
    haveI : NotIn id_xs ([(po, AObj.rw 25 1 [.sl 0 0 0]), (0, ints [])].map Prod.fst) := notInLent H h_xs.lt NotIn.nil
    haveI : NotIn id_to ([(po, AObj.rw 25 1 [.sl 0 0 0]), (0, ints [])].map Prod.fst) := notInLent H h_to.lt NotIn.nil
    have h := c_back (re := re) (hw := ⟨hw, hw1⟩) (w := w) (fdo := 38) (caps := [(po, 0)]) false _ (FbE po) (xs := xs) (to := to) (id_xs := id_xs) (off_xs := off_xs) (id_to := id_to) (off_to := off_to) (hl_xs := hl_xs) (hl_to := hl_to) (hO := K) (hdo := fun acc y id s1 K _ hO hE ha hy hni => c_fb1 hO hE ha hy hni (by omega)) (h0 := ⟨0, [], rfl, .inl ⟨rfl, rfl, rfl⟩⟩) (hG := Nat.le_refl _) (hE := hE) (hl := hl)
    rw [hval] at h; exact h
  rintro r N ⟨p, ys, rfl, h⟩
  cases hf : fwdL S re xs to with
  | nil =>
    rw [hf] at h
    obtain ⟨_, rfl, rfl⟩ := h.resolve_right fun g => g.1 rfl
    repeat' (first
 | refine A_go rfl ?_ | refine A_ifT rfl rfl ?_ | refine A_ifF rfl rfl ?_
 | refine A_p (by rfl) rfl ?_
 | refine A_ldI rfl (by first | omega | (simp; done) | (simp; omega)) rfl ?_ | refine A_ldB rfl (by first | omega | (simp; done) | (simp; omega)) rfl ?_ | refine A_ld rfl (by rfl) rfl ?_
 | refine A_ldW rfl (by simp) rfl ?_
 | ((first | refine A_alloc rfl ?_ | refine A_box rfl rfl ?_ | refine A_boxC rfl rfl ?_) <;> intro pz hpz)
 | refine A_ret rfl (by exact (RP.t rfl (RP.t rfl RP.nil))) ?_)
    exact R_intsN fun h => h.2 hf
  | cons y l =>
    rw [hf] at h
    rcases h with ⟨h, _⟩ | ⟨_, h⟩
    · cases h
    obtain rfl : y = ys := Option.some.inj h
    have hy : y ∈ fwdL S re xs to := by rw [hf]; exact List.mem_cons_self
    have hyl : y.length = len_to := by rw [← hl_to]; exact (allD_mem.1 (List.mem_filter.1 hy).1).2
    have he : fbR S re xs to = y := by rw [fbR, hf]; rfl
    refine A_two (p := p) (xs := y) (by rintro rfl; simp at hyl; omega) fun hp2 => ?_
    repeat' (first
 | refine A_go rfl ?_ | refine A_ifT rfl rfl ?_ | refine A_ifF rfl rfl ?_
 | refine A_notNil hp2 rfl rfl ?_
 | refine A_p (by rfl) rfl ?_
 | refine A_ldI rfl (by first | omega | (simp; done) | (simp; omega)) rfl ?_ | refine A_ldB rfl (by first | omega | (simp; done) | (simp; omega)) rfl ?_ | refine A_ld rfl (by rfl) rfl ?_
 | refine A_ldW rfl (by simp) rfl ?_
 | ((first | refine A_alloc rfl ?_ | refine A_box rfl rfl ?_ | refine A_boxC rfl rfl ?_) <;> intro pz hpz)
 | refine A_ret rfl (by exact (RP.t rfl (RP.t rfl RP.nil))) ?_)
    rw [he]
    exact R_ints ⟨hp, by rw [hf]; simp⟩ rfl (by omega)
end Go.Proofs.Ytlmbgaoeplffkaa
