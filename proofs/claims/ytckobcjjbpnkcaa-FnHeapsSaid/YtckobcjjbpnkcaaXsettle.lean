/- Heaps settle. -/
import Derived.Test.YtckobcjjbpnkcaaXheap
import Derived.Test.YtckobcjjbpnkcaaFB
namespace Go.Proofs.Ytckobcjjbpnkcaa
open Go Go.RowKit
set_option linter.unusedVariables false
set_option linter.unusedSimpArgs false
set_option maxRecDepth 100000
set_option maxHeartbeats 8000000
-- (impl.Field).settle
def L74 : AFun := ⟨61, [.t 2],
 (.seq (.ops false [⟨(some 1), .box 25 (.t 0), none, []⟩,
   ⟨(some 2), .mv (.k (iv 0)), none, []⟩])
 (.seq (.ops false [⟨(some 3), .mv (.k (iv 0)), none, []⟩])
 (.seq (.ops false [⟨(some 7), .fieldA 2 (.t 1), none, []⟩,
   ⟨(some 8), .load false 1 (.t 7), none, []⟩,
   ⟨(some 9), .len false (.t 8), none, []⟩,
   ⟨(some 10), .call (.f 91) [(.t 9)], none, []⟩,
   ⟨(some 4), .alloc 23 [.sl 0 0 0], none, []⟩,
   ⟨none, .store 1 (.t 4) (.t 10), none, []⟩])
 (.seq (.block 0 (.loop [1, 3, 4] (.seq (.seq (.ops false [⟨(some 11), .load false 1 (.t 4), none, []⟩,
       ⟨(some 12), .len false (.t 11), none, []⟩,
       ⟨(some 13), .bin .gtr (.t 12) (.k (iv 0)), none, []⟩])
     (.cond (.t 13) .skip
      (.exit 0)))
    (.block 1 (.seq (.ops false [⟨(some 14), .load false 1 (.t 4), none, []⟩,
       ⟨(some 15), .load false 1 (.t 4), none, []⟩,
       ⟨(some 16), .len false (.t 15), none, []⟩,
       ⟨(some 17), .bin .sub (.t 16) (.k (iv 1)), none, []⟩,
       ⟨(some 18), .idxA 1 (.t 14) (.t 17), none, []⟩,
       ⟨(some 19), .load false 1 (.t 18), none, []⟩,
       ⟨(some 5), .mv (.t 19), none, []⟩])
     (.seq (.ops false [⟨(some 20), .load false 1 (.t 4), none, []⟩,
       ⟨(some 21), .load false 1 (.t 4), none, []⟩,
       ⟨(some 22), .len false (.t 21), none, []⟩,
       ⟨(some 23), .bin .sub (.t 22) (.k (iv 1)), none, []⟩,
       ⟨(some 24), .slice 1 (.t 20) none (some (.t 23)), none, []⟩,
       ⟨none, .store 1 (.t 4) (.t 24), none, []⟩])
     (.seq (.seq (.ops false [⟨(some 25), .fieldA 2 (.t 1), none, []⟩,
        ⟨(some 26), .load false 1 (.t 25), none, []⟩,
        ⟨(some 27), .mv (.t 5), none, []⟩,
        ⟨(some 28), .idxA 1 (.t 26) (.t 27), none, []⟩,
        ⟨(some 29), .load false 1 (.t 28), none, []⟩,
        ⟨(some 30), .bin .lss (.t 29) (.k (iv 4)), none, []⟩])
      (.cond (.t 30) (.exit 1)
       .skip))
     (.seq (.ops false [⟨(some 31), .fieldA 2 (.t 1), none, []⟩,
       ⟨(some 32), .load false 1 (.t 31), none, []⟩,
       ⟨(some 33), .mv (.t 5), none, []⟩,
       ⟨(some 34), .idxA 1 (.t 32) (.t 33), none, []⟩,
       ⟨(some 35), .load false 1 (.t 34), none, []⟩,
       ⟨(some 36), .bin .quo (.t 35) (.k (iv 4)), none, []⟩,
       ⟨(some 6), .alloc 2 [.int .i64 0], none, []⟩,
       ⟨none, .store 1 (.t 6) (.t 36), none, []⟩])
     (.seq (.ops false [⟨(some 37), .mv (.t 3), none, []⟩,
       ⟨(some 38), .load false 1 (.t 6), none, []⟩,
       ⟨(some 39), .bin .add (.t 37) (.t 38), none, []⟩,
       ⟨(some 3), .mv (.t 39), none, []⟩])
     (.seq (.ops true [⟨(some 40), .fieldA 2 (.t 1), none, []⟩,
       ⟨(some 41), .load false 1 (.t 40), none, []⟩,
       ⟨(some 42), .mv (.t 5), none, []⟩,
       ⟨(some 43), .idxA 1 (.t 41) (.t 42), none, []⟩,
       ⟨(some 44), .load false 1 (.t 43), none, []⟩,
       ⟨(some 45), .load false 1 (.t 6), none, []⟩,
       ⟨(some 46), .bin .mul (.k (iv 4)) (.t 45), none, []⟩,
       ⟨(some 47), .bin .sub (.t 44) (.t 46), none, []⟩,
       ⟨(some 48), .idxA 1 (.t 41) (.t 42), none, []⟩,
       ⟨none, .store 1 (.t 48) (.t 47), none, []⟩])
     (.ops true [⟨(some 49), .load true 3 (.t 1), none, []⟩,
      ⟨(some 50), .mv (.t 5), none, []⟩,
      ⟨(some 51), .fieldA 1 (.t 1), none, []⟩,
      ⟨(some 52), .load false 1 (.t 51), none, []⟩,
      ⟨(some 53), .bin .quo (.t 50) (.t 52), none, []⟩,
      ⟨(some 54), .mv (.t 5), none, []⟩,
      ⟨(some 55), .fieldA 1 (.t 1), none, []⟩,
      ⟨(some 56), .load false 1 (.t 55), none, []⟩,
      ⟨(some 57), .bin .rem (.t 54) (.t 56), none, []⟩,
      ⟨(some 58), .mkFn 92 [(.t 1), (.t 6), (.t 4)], none, []⟩,
      ⟨(some 59), .call (.f 72) [(.t 49), (.t 53), (.t 57), (.t 58)], none, []⟩])))))))))))
 (.seq (.ops false [⟨(some 60), .mv (.t 3), none, []⟩,
   ⟨(some 2), .mv (.t 60), none, []⟩])
 .ret)))))⟩
theorem code74 : acode Try.prog hints 74 = some L74 := by kernel_rfl

-- (impl.Field).settle$1
def L92 : AFun := ⟨32, [],
 (.seq (.ops false [⟨(some 8), .mv (.t 0), none, []⟩,
   ⟨(some 9), .fieldA 1 (.t 2), none, []⟩,
   ⟨(some 10), .load false 1 (.t 9), none, []⟩,
   ⟨(some 11), .bin .mul (.t 8) (.t 10), none, []⟩,
   ⟨(some 12), .mv (.t 1), none, []⟩,
   ⟨(some 13), .bin .add (.t 11) (.t 12), none, []⟩,
   ⟨(some 7), .mv (.t 13), none, []⟩])
 (.seq (.ops true [⟨(some 14), .fieldA 2 (.t 2), none, []⟩,
   ⟨(some 15), .load false 1 (.t 14), none, []⟩,
   ⟨(some 16), .mv (.t 7), none, []⟩,
   ⟨(some 17), .idxA 1 (.t 15) (.t 16), none, []⟩,
   ⟨(some 18), .load false 1 (.t 17), none, []⟩,
   ⟨(some 19), .load false 1 (.t 3), none, []⟩,
   ⟨(some 20), .bin .add (.t 18) (.t 19), none, []⟩,
   ⟨(some 21), .idxA 1 (.t 15) (.t 16), none, []⟩,
   ⟨none, .store 1 (.t 21) (.t 20), none, []⟩])
 (.seq (.ops false [⟨(some 22), .fieldA 2 (.t 2), none, []⟩,
   ⟨(some 23), .load false 1 (.t 22), none, []⟩,
   ⟨(some 24), .mv (.t 7), none, []⟩,
   ⟨(some 25), .idxA 1 (.t 23) (.t 24), none, []⟩,
   ⟨(some 26), .load false 1 (.t 25), none, []⟩,
   ⟨(some 27), .bin .geq (.t 26) (.k (iv 4)), none, []⟩])
 (.cond (.t 27) (.ops false [⟨(some 28), .load false 1 (.t 4), none, []⟩,
   ⟨(some 29), .mv (.t 7), none, []⟩,
   ⟨(some 30), .buildS 2 1 1 [.int .i64 0] [(0, 1, (.t 29))], none, []⟩,
   ⟨(some 31), .append 2 1 8 (.t 28) (.t 30), none, []⟩,
   ⟨none, .store 1 (.t 4) (.t 31), none, []⟩])
  .skip))))⟩
theorem code92 : acode Try.prog hints 92 = some L92 := by kernel_rfl

-- impl.counting
def L91 : AFun := ⟨16, [.t 2],
 (.seq (.ops false [⟨(some 2), .mv (.k (.c (.sl 0 0 0))), none, []⟩])
 (.seq (.ops false [⟨(some 5), .buildS 2 1 0 [.int .i64 0] [], none, []⟩,
   ⟨(some 3), .mv (.t 5), none, []⟩])
 (.seq (.seq (.ops false [⟨(some 6), .mv (.t 0), none, []⟩,
    ⟨(some 7), .mv (.k (iv 0)), none, []⟩])
  (.block 0 (.loop [3, 6, 7] (.seq (.ops false [⟨(some 8), .bin .lss (.t 7) (.t 6), none, []⟩])
    (.seq (.cond (.t 8) .skip
      (.exit 0))
    (.seq (.block 1 (.seq (.ops false [⟨(some 9), .mv (.t 7), none, []⟩,
        ⟨(some 4), .mv (.t 9), none, []⟩])
      (.ops false [⟨(some 10), .mv (.t 3), none, []⟩,
       ⟨(some 11), .mv (.t 4), none, []⟩,
       ⟨(some 12), .buildS 2 1 1 [.int .i64 0] [(0, 1, (.t 11))], none, []⟩,
       ⟨(some 13), .append 2 1 8 (.t 10) (.t 12), none, []⟩,
       ⟨(some 3), .mv (.t 13), none, []⟩])))
    (.ops false [⟨(some 14), .bin .add (.t 7) (.k (iv 1)), none, []⟩,
     ⟨(some 7), .mv (.t 14), none, []⟩])))))))
 (.seq (.ops false [⟨(some 15), .mv (.t 3), none, []⟩,
   ⟨(some 2), .mv (.t 15), none, []⟩])
 .ret))))⟩
theorem code91 : acode Try.prog hints 91 = some L91 := by kernel_rfl


def cntL (n : Nat) : List Int := (List.range n).map fun i : Nat => (i : Int)
@[simp] theorem cntL_len {n : Nat} : (cntL n).length = n := by simp [cntL]
theorem cntL_get {n i : Nat} (h : i < n) : (cntL n).getD i 0 = i := getD_map_range h
theorem c_counting {s : St} [Wf s] {n : Nat} (hn : n ≤ 1000000 := by omega) : Fn [] 91 [iv n] s fun R N => ∃ p, R = .c (.sl p 0 n) ∧ N = [(p, ints (cntL n))] := by
  refine F_start code91 ?_
  repeat' (first
 | refine A_go rfl ?_ | refine A_ifT rfl rfl ?_ | refine A_ifF rfl rfl ?_
 | refine A_add rfl rfl rfl (by omega) ?_
 | ((first | refine A_lt rfl rfl rfl ?_ ?_) <;> intro hc <;> try first | contradiction | (exfalso; omega) | exact absurd rfl hc)
 | refine A_p (by rfl) rfl ?_
 | ((first | refine A_bld1 rfl rfl ?_ | refine A_bld2 rfl rfl rfl ?_ | refine A_bld4 rfl rfl rfl rfl rfl ?_) <;> intro pz hpz)
 | refine A_bld0 rfl ?_
 | (refine A_app rfl rfl rfl (by first | omega | (simp; done) | (simp; omega)) (by first | omega | (simp; done) | (simp; omega)) (by omega) ?_; intro pz) | (refine A_appN (enc := ic) rfl (by decide) rfl rfl (by first | omega | (simp; done) | (simp; omega)) (by omega) ?_; intro pz)
 | refine A_ret1 rfl (by exact (RP.t rfl RP.nil)) ?_)
  refine A_loopX rfl (fun m fr L => ∃ (i p : Nat), m = n - i ∧ fr = [(3, .c (.sl p 0 i)), (6, iv n), (7, iv i)] ∧ L = [(p, ints ((cntL n).take i))] ∧ i ≤ n) (n := n) ⟨[(1, ints [])], ⟨0, 1, rfl, rfl, rfl, by omega⟩, inferInstance⟩ ?_
  rintro m fr L ⟨i, p, rfl, rfl, rfl, hi⟩
  have hl : ((cntL n).take i).length = i := by simp; omega
  by_cases hi' : i < n
  · repeat' (first
 | refine A_go rfl ?_ | refine A_ifT rfl rfl ?_ | refine A_ifF rfl rfl ?_
 | refine A_add rfl rfl rfl (by omega) ?_
 | ((first | refine A_lt rfl rfl rfl ?_ ?_) <;> intro hc <;> try first | contradiction | (exfalso; omega) | exact absurd rfl hc)
 | refine A_p (by rfl) rfl ?_
 | ((first | refine A_bld1 rfl rfl ?_ | refine A_bld2 rfl rfl rfl ?_ | refine A_bld4 rfl rfl rfl rfl rfl ?_) <;> intro pz hpz)
 | refine A_bld0 rfl ?_
 | (refine A_app rfl rfl rfl (by first | omega | (simp; done) | (simp; omega)) (by first | omega | (simp; done) | (simp; omega)) (by omega) ?_; intro pz) | (refine A_appN (enc := ic) rfl (by decide) rfl rfl (by first | omega | (simp; done) | (simp; omega)) (by omega) ?_; intro pz)
 | refine A_ret1 rfl (by exact (RP.t rfl RP.nil)) ?_)
    refine A_roundX rfl ⟨n - (i + 1), [(_, ints ((cntL n).take (i + 1)))], by omega, ⟨i + 1, _, rfl, rfl, rfl, by omega⟩, ?_⟩
    rw [List.take_add_one, getD_some 0 (by simpa using hi'), cntL_get hi', Option.toList_some]
    exact inferInstance
  · obtain rfl : n = i := by omega
    rw [List.take_of_length_le (by simp)]
    repeat' (first
 | refine A_go rfl ?_ | refine A_ifT rfl rfl ?_ | refine A_ifF rfl rfl ?_
 | refine A_add rfl rfl rfl (by omega) ?_
 | ((first | refine A_lt rfl rfl rfl ?_ ?_) <;> intro hc <;> try first | contradiction | (exfalso; omega) | exact absurd rfl hc)
 | refine A_p (by rfl) rfl ?_
 | ((first | refine A_bld1 rfl rfl ?_ | refine A_bld2 rfl rfl rfl ?_ | refine A_bld4 rfl rfl rfl rfl rfl ?_) <;> intro pz hpz)
 | refine A_bld0 rfl ?_
 | (refine A_app rfl rfl rfl (by first | omega | (simp; done) | (simp; omega)) (by first | omega | (simp; done) | (simp; omega)) (by omega) ?_; intro pz) | (refine A_appN (enc := ic) rfl (by decide) rfl rfl (by first | omega | (simp; done) | (simp; omega)) (by omega) ?_; intro pz)
 | refine A_ret1 rfl (by exact (RP.t rfl RP.nil)) ?_)
    exact R_s ⟨p, rfl, rfl⟩
def setS (b : Int) (st : List Int × List Int) (y : Int) : List Int × List Int := (addL b st.1 y, if 4 ≤ st.1.getD y.toNat 0 + b then st.2 ++ [y] else st.2)
theorem setS_fst {b : Int} : ∀ (l : List Int) (st : List Int × List Int), (l.foldl (setS b) st).1 = l.foldl (addL b) st.1
  | [], _ => rfl
  | y :: l, st => by rw [List.foldl_cons, setS_fst l]; rfl
theorem setS_len {b : Int} : ∀ (l : List Int) (st : List Int × List Int), (l.foldl (setS b) st).2.length ≤ st.2.length + l.length
  | [], st => by simp
  | y :: l, st => by
    have := setS_len (b := b) l (setS b st y)
    have h : (setS b st y).2.length ≤ st.2.length + 1 := by unfold setS; split <;> simp
    rw [List.foldl_cons, List.length_cons]; omega
/-- What is still to do. -/
structure Todo (n : Nat) (st : List Int × List Int) : Prop where
  len : st.1.length = n
  rng : ∀ y ∈ st.2, 0 ≤ y ∧ y < (n : Int)
  all : ∀ c, c < n → 4 ≤ st.1.getD c 0 → (c : Int) ∈ st.2
theorem Todo.step {n : Nat} {st : List Int × List Int} {b y : Int} (h : Todo n st) (hy : 0 ≤ y ∧ y < (n : Int)) : Todo n (setS b st y) := by
  have hl := h.len
  refine ⟨by simp [setS, addL, h.len], fun z hz => ?_, fun c hc h4 => ?_⟩
  · unfold setS at hz; split at hz
    · rcases List.mem_append.1 hz with hz | hz
      · exact h.rng z hz
      · obtain rfl := List.mem_singleton.1 hz; exact hy
    · exact h.rng z hz
  · simp only [setS, addL] at h4 ⊢
    rw [getD_set (by omega)] at h4
    by_cases e : y.toNat = c
    · rw [if_pos e, ] at h4
      rw [e] at h4
      have : y = (c : Int) := by omega
      rw [e, if_pos h4, this]; simp
    · rw [if_neg e] at h4
      have := h.all c hc h4
      split
      · exact List.mem_append.2 (.inl this)
      · exact this
theorem Todo.fold {n : Nat} {b : Int} : ∀ (l : List Int) (st : List Int × List Int), Todo n st → (∀ y ∈ l, 0 ≤ y ∧ y < (n : Int)) → Todo n (l.foldl (setS b) st)
  | [], st, h, _ => h
  | y :: l, st, h, hl => Todo.fold l _ (h.step (hl y (by simp))) (fun z hz => hl z (by simp [hz]))
theorem sg_upN {u : Nat → Int} {x : Nat} {b : Int} : ∀ n, sg (upN u x b) n = sg u n + if x < n then b else 0
  | 0 => by simp [sg]
  | n + 1 => by
    rw [sg, sg, sg_upN n, upN]
    by_cases e : n = x
    · subst e; rw [if_pos rfl, if_neg (by omega), if_pos (by omega)]; omega
    · rw [if_neg e]
      by_cases h : x < n
      · rw [if_pos h, if_pos (by omega)]; omega
      · rw [if_neg h, if_neg (by omega)]; omega
/-- Bounds on the way. -/
theorem HpOk.bnd {R C : Nat} {x0 zs : List Int} {u : Nat → Int} (h : HpOk R C x0 zs u) (hb : R ≤ 24 ∧ C ≤ 24) (hx : ∀ c, 0 ≤ x0.getD c 0 ∧ x0.getD c 0 ≤ 18) : (∀ c, c < R * C → -20000 ≤ zs.getD c 0 ∧ zs.getD c 0 ≤ 20018) ∧ 0 ≤ sg u (R * C) ∧ sg u (R * C) ≤ sg (wS R C) (R * C) ∧ sg (wS R C) (R * C) ≤ 2880000 := by
  have hcc : R * C ≤ 576 := Nat.mul_le_mul hb.1 hb.2
  have hs := wS_stab (C := C) hb.1 (x0 := x0) fun c => (hx c).2
  have hu := h.leg _ hs
  have hw : ∀ c, c < R * C → u c ≤ 5000 := fun c hc => by have := hu c hc; have := wS_in (C := C) hb.1 c; omega
  refine ⟨fun c hc => ?_, sg_nn fun c _ => h.nn c, sg_le hu, ?_⟩
  · have e := h.eq c hc
    have h1 := sN_mono hu (nbs R C (c : Int)) nbs_nat_in
    have h2 := sN_le (u := wS R C) (M := 5000) (fun c => (wS_in hb.1 c).2) (nbs R C (c : Int))
    have h3 : (nbs R C (c : Int)).length ≤ 4 := nbl_len 4
    have h4 := sN_nn h.nn (nbs R C (c : Int))
    have h5 := hw c hc
    have h6 := h.nn c
    have h7 := hx c
    have h8 : (5000 : Int) * ((nbs R C (c : Int)).length : Int) ≤ 20000 := by omega
    omega
  · have h1 : sg (wS R C) (R * C) ≤ sg (fun _ => 5000) (R * C) := sg_le fun c _ => (wS_in hb.1 c).2
    have h2 : ∀ n : Nat, sg (fun _ => 5000) n = 5000 * n := fun n => by induction n with | zero => rfl | succ n ih => rw [sg, ih]; push_cast; omega
    rw [h2] at h1; omega
theorem c_settle1 {s : St} {tb pc q bb p n R C len : Nat} {b : Int} {cs : List Int} {st : List Int × List Int} (H : Own [tb, p, pc, q, bb] s s [(tb, .rw 23 1 [.sl p 0 n]), (p, ints cs), (pc, ints st.1), (q, .rw 25 3 [ic R, ic C, .sl pc 0 len]), (bb, .rw 2 1 [ic b])])
    (hl : len = R * C) (hb : R ≤ 24 ∧ C ≤ 24) (h1 : cs.take n = st.2) (h2 : n ≤ cs.length) (h3 : st.1.length = len) (hn : n ≤ 19999999) {r c : Int} (hin : InF R C r c) (hv : -1000000 ≤ st.1.getD (r * C + c).toNat 0 ∧ st.1.getD (r * C + c).toNat 0 ≤ 1000000) (hbb : 0 ≤ b ∧ b ≤ 1000000) :
    Fn [tb, p, pc, q, bb] 92 [iv r, iv c, .c (.ptr q 0), .c (.ptr bb 0), .c (.ptr tb 0)] s fun _ N => ∃ (p n : Nat) (cs : List Int), N = [(tb, .rw 23 1 [.sl p 0 n]), (p, ints cs), (pc, ints (setS b st (r * C + c)).1), (q, .rw 25 3 [ic R, ic C, .sl pc 0 len]), (bb, .rw 2 1 [ic b])] ∧ cs.take n = (setS b st (r * C + c)).2 ∧ n ≤ cs.length := by
  have hcc : R * C ≤ 576 := Nat.mul_le_mul hb.1 hb.2
  have hm := cell_in hin.1 hin.2
  have e : ((R * C : Nat) : Int) = (R : Int) * C := by push_cast; rfl
  have hg : (st.1.set (r * C + c).toNat (st.1.getD (r * C + c).toNat 0 + b)).getD (r * C + c).toNat 0 = st.1.getD (r * C + c).toNat 0 + b := by rw [getD_set (by omega), if_pos rfl]
  refine F_startB code92 H ?_
  repeat' (first
 | refine A_go rfl ?_ | refine A_ifT rfl rfl ?_ | refine A_ifF rfl rfl ?_
 | refine A_add rfl rfl rfl (by omega) ?_ | refine A_mul rfl rfl rfl (by omega) ?_
 | ((first | refine A_ge rfl rfl rfl ?_ ?_) <;> intro hc <;> try first | contradiction | (exfalso; omega) | exact absurd rfl hc)
 | refine A_idxN1 rfl rfl rfl (by omega) ?_ | refine A_idx1 rfl rfl rfl (by omega) ?_
 | (refine A_appT rfl rfl rfl (by omega) (by simp) (by omega) ?_ <;> intro pz)
 | refine A_fld rfl rfl ?_ | refine A_p (by rfl) rfl ?_
 | refine A_ldI rfl (by first | omega | (simp; done) | (simp; omega)) rfl ?_ | refine A_ldB rfl (by first | omega | (simp; done) | (simp; omega)) rfl ?_ | refine A_ld rfl (by rfl) rfl ?_
 | refine A_st rfl rfl rfl ?_ | refine A_stE rfl rfl (by first | omega | (simp; done) | (simp; omega)) rfl ?_
 | ((first | refine A_bld1 rfl rfl ?_ | refine A_bld2 rfl rfl rfl ?_ | refine A_bld4 rfl rfl rfl rfl rfl ?_) <;> intro pz hpz)
 | refine A_bld0 rfl ?_
 | (refine A_app rfl rfl rfl (by first | omega | (simp; done) | (simp; omega)) (by first | omega | (simp; done) | (simp; omega)) (by omega) ?_; intro pz) | (refine A_appN (enc := ic) rfl (by decide) rfl rfl (by first | omega | (simp; done) | (simp; omega)) (by omega) ?_; intro pz)
 | refine A_ret0 rfl ?_)
  · rw [hg] at hc
    refine ⟨_, ⟨pz, n + 1, cs.take n ++ [r * C + c], rfl, ?_, by simp; omega⟩, ?_⟩
    · rw [List.take_of_length_le (by simp; omega), h1, setS, if_pos hc]
    · simp only [setS, addL]; exact inferInstance
  · rw [hg] at hc
    refine ⟨_, ⟨p, n, cs, rfl, ?_, h2⟩, ?_⟩
    · rw [h1, setS, if_neg (by omega)]
    · simp only [setS, addL]; exact inferInstance
theorem c_settle {s : St} [Wf s] {R C pc len : Nat} {x0 : List Int} [hp : Bor s pc (ints x0)] (hx0 : x0.length = len := by first | rfl | simp | omega) (hl : len = R * C := by omega) (hb : R ≤ 24 ∧ C ≤ 24 := by omega) (hx : ∀ c, 0 ≤ x0.getD c 0 ∧ x0.getD c 0 ≤ 18) :
    Fn [pc] 74 [.agg [ic R, ic C, .sl pc 0 len]] s fun r N => r = iv (settled R C x0).2 ∧ N = [(pc, ints (settled R C x0).1)] := by
  have hcc : R * C ≤ 576 := Nat.mul_le_mul hb.1 hb.2
  have e : ((R * C : Nat) : Int) = (R : Int) * C := by push_cast; rfl
  refine F_start1 code74 ?_
  repeat' (first
 | refine A_go rfl ?_ | refine A_ifT rfl rfl ?_ | refine A_ifF rfl rfl ?_
 | refine A_add rfl rfl rfl (by omega) ?_ | refine A_sub rfl rfl rfl (by omega) ?_ | refine A_mul rfl rfl rfl (by omega) ?_ | refine A_rem rfl rfl rfl (by omega) ?_ | refine A_remT rfl rfl rfl (by omega) ?_ | refine A_quo rfl rfl rfl (by omega) ?_
 | ((first | refine A_lt rfl rfl rfl ?_ ?_ | refine A_gt rfl rfl rfl ?_ ?_) <;> intro hc <;> try first | contradiction | (exfalso; omega) | exact absurd rfl hc)
 | refine A_idxN1 rfl rfl rfl (by omega) ?_ | refine A_idx1 rfl rfl rfl (by omega) ?_
 | (refine A_callM rfl rfl (fun s H => c_counting) ?_; rintro _ _ ⟨pz, rfl, rfl⟩) | (refine A_callM0 rfl rfl (fun s H => c_counting) ?_; rintro _ _ ⟨pz, rfl, rfl⟩)
 | refine A_fld rfl rfl ?_ | refine A_p (by rfl) rfl ?_
 | refine A_ldI rfl (by first | omega | (simp; done) | (simp; omega)) rfl ?_ | refine A_ldB rfl (by first | omega | (simp; done) | (simp; omega)) rfl ?_ | refine A_ld rfl (by rfl) rfl ?_
 | refine A_ldW rfl (by simp) rfl ?_
 | refine A_st rfl rfl rfl ?_ | refine A_stE rfl rfl (by first | omega | (simp; done) | (simp; omega)) rfl ?_
 | ((first | refine A_alloc rfl ?_ | refine A_box rfl rfl ?_ | refine A_boxC rfl rfl ?_) <;> intro pz hpz)
 | refine A_ret1 rfl (by exact (RP.t rfl RP.nil)) ?_)
  rename_i q _ p0
  obtain ⟨tb, hEq⟩ : ∃ p, p = pz := ⟨_, rfl⟩; subst hEq
  obtain ⟨W, hW⟩ : ∃ W, sg (wS R C) (R * C) = W := ⟨_, rfl⟩
  refine A_loop rfl [tb, p0, pc, q] (fun m fr L => ∃ (p n : Nat) (cs zs : List Int) (u : Nat → Int), m = (5 * (W - sg u (R * C))).toNat + n ∧ fr = [(1, .c (.ptr q 0)), (3, iv (sg u (R * C))), (4, .c (.ptr tb 0))] ∧ L = [(tb, .rw 23 1 [.sl p 0 n]), (p, ints cs), (pc, ints zs), (q, .rw 25 3 [ic R, ic C, .sl pc 0 len])] ∧ n ≤ cs.length ∧ HpOk R C x0 zs u ∧ Todo (R * C) (zs, cs.take n) ∧ n ≤ 15000000 + 0 ∧ 5 * (W - sg u (R * C)) + n ≤ 15000000) ((5 * W).toNat + len) ⟨p0, len, cntL len, x0, fun _ => 0, by rw [sg_zero, Int.sub_zero], by rw [sg_zero]; rfl, rfl, by simp, HpOk.start (by omega), ⟨by show x0.length = _; omega, fun y hy => ?_, fun c hc _ => ?_⟩, by omega, by rw [sg_zero]; have := (HpOk.start (x0 := x0) (R := R) (C := C) (by omega)).bnd hb hx; omega⟩ ?_
  · obtain ⟨i, hi, rfl⟩ := mem_get (d := 0) (List.mem_of_mem_take hy)
    rw [cntL_len] at hi
    rw [cntL_get hi]; omega
  · rw [List.take_of_length_le (by simp)]
    show (c : Int) ∈ cntL len
    rw [← cntL_get (show c < len by omega)]; exact getD_mem (by simp; omega)
  rintro m fr L ⟨p, n, cs, zs, u, rfl, rfl, rfl, hn, hok, htd, hnb, hmb⟩
  obtain ⟨b1, b2, b3, b4⟩ := hok.bnd hb hx
  rw [hW] at b3 b4
  have hzl := hok.len
  by_cases hn0 : n = 0
  · subst hn0
    have hset := settled_eq (R := R) (C := C) (x0 := x0) (p := (zs, sg u (R * C))) ⟨u, hok, fun c hc => by
      by_cases h4 : 4 ≤ zs.getD c 0
      · have := htd.all c hc h4; simp at this
      · show zs.getD c 0 ≤ 3; omega, rfl⟩
    rw [hset]
    repeat' (first
 | refine A_go rfl ?_ | refine A_ifT rfl rfl ?_ | refine A_ifF rfl rfl ?_
 | refine A_add rfl rfl rfl (by omega) ?_ | refine A_sub rfl rfl rfl (by omega) ?_ | refine A_mul rfl rfl rfl (by omega) ?_ | refine A_rem rfl rfl rfl (by omega) ?_ | refine A_remT rfl rfl rfl (by omega) ?_ | refine A_quo rfl rfl rfl (by omega) ?_
 | ((first | refine A_lt rfl rfl rfl ?_ ?_ | refine A_gt rfl rfl rfl ?_ ?_) <;> intro hc <;> try first | contradiction | (exfalso; omega) | exact absurd rfl hc)
 | refine A_idxN1 rfl rfl rfl (by omega) ?_ | refine A_idx1 rfl rfl rfl (by omega) ?_
 | refine A_fld rfl rfl ?_ | refine A_p (by rfl) rfl ?_
 | refine A_ldI rfl (by first | omega | (simp; done) | (simp; omega)) rfl ?_ | refine A_ldB rfl (by first | omega | (simp; done) | (simp; omega)) rfl ?_ | refine A_ld rfl (by rfl) rfl ?_
 | refine A_ldW rfl (by simp) rfl ?_
 | refine A_st rfl rfl rfl ?_ | refine A_stE rfl rfl (by first | omega | (simp; done) | (simp; omega)) rfl ?_
 | ((first | refine A_alloc rfl ?_ | refine A_box rfl rfl ?_ | refine A_boxC rfl rfl ?_) <;> intro pz hpz)
 | refine A_ret1 rfl (by exact (RP.t rfl RP.nil)) ?_)
    exact R_n [pc] ⟨rfl, rfl⟩
  have htl : (cs.take n).length = n := by simp; omega
  obtain ⟨l1, l2, l3⟩ := last_take (d := (0 : Int)) (rfl : cs.take n = cs.take n) (by omega) hn
  have hxr := htd.rng _ (mem_take (d := 0) (show n - 1 < n by omega) (by omega))
  have hi1 : ((n : Int) - 1).toNat = n - 1 := by omega
  rw [← hi1] at l1 l2 hxr
  generalize hj : ((n : Int) - 1).toNat = j at l1 l2 hxr
  obtain ⟨x, hxe⟩ : ∃ x : Nat, cs.getD j 0 = x := ⟨(cs.getD j 0).toNat, by omega⟩
  rw [hxe] at hxr
  have hxN : x < R * C := by omega
  obtain ⟨d1, d2, d3⟩ := div_mod_lt hxN
  have hC : 0 < C := by omega
  have hrest : Todo (R * C) (zs, cs.take j) ∨ 4 ≤ zs.getD x 0 := by
    by_cases h4 : 4 ≤ zs.getD x 0
    · exact .inr h4
    · refine .inl ⟨hzl, fun y hy => htd.rng y ?_, fun c hc h => ?_⟩
      · have : cs.take j = (cs.take n).dropLast := l2.symm
        rw [this] at hy; exact List.dropLast_subset _ hy
      · have hm := htd.all c hc h
        have hsp : cs.take n = cs.take j ++ [(x : Int)] := by
          rw [show n = j + 1 by omega, List.take_add_one, getD_some 0 (by omega), hxe]; rfl
        simp only at hm
        rw [hsp] at hm
        rcases List.mem_append.1 hm with hm | hm
        · exact hm
        · have := List.mem_singleton.1 hm
          have e5 : c = x := by omega
          subst e5; exact absurd h h4
  by_cases h4 : 4 ≤ zs.getD x 0
  case neg =>
    have hT := hrest.resolve_right h4
    repeat' (first
 | refine A_go rfl ?_ | refine A_ifT rfl rfl ?_ | refine A_ifF rfl rfl ?_
 | refine A_add rfl rfl rfl (by omega) ?_ | refine A_sub rfl rfl rfl (by omega) ?_ | refine A_mul rfl rfl rfl (by omega) ?_ | refine A_rem rfl rfl rfl (by omega) ?_ | refine A_remT rfl rfl rfl (by omega) ?_ | refine A_quo rfl rfl rfl (by omega) ?_
 | ((first | refine A_lt rfl rfl rfl ?_ ?_ | refine A_gt rfl rfl rfl ?_ ?_) <;> intro hc <;> try first | contradiction | (exfalso; omega) | exact absurd rfl hc)
 | refine A_idxN1 rfl rfl rfl (by omega) ?_ | refine A_idx1 rfl rfl rfl (by omega) ?_
 | refine A_slTo rfl rfl rfl (by omega) ?_
 | simp only [hj, hxe]
 | refine A_fld rfl rfl ?_ | refine A_p (by rfl) rfl ?_
 | refine A_ldI rfl (by first | omega | (simp; done) | (simp; omega)) rfl ?_ | refine A_ldB rfl (by first | omega | (simp; done) | (simp; omega)) rfl ?_ | refine A_ld rfl (by rfl) rfl ?_
 | refine A_ldW rfl (by simp) rfl ?_
 | refine A_st rfl rfl rfl ?_ | refine A_stE rfl rfl (by first | omega | (simp; done) | (simp; omega)) rfl ?_
 | ((first | refine A_alloc rfl ?_ | refine A_box rfl rfl ?_ | refine A_boxC rfl rfl ?_) <;> intro pz hpz)
 | refine A_ret1 rfl (by exact (RP.t rfl RP.nil)) ?_)
    refine A_round rfl [tb, p, pc, q] ((5 * (W - sg u (R * C))).toNat + j) (by omega) ?_
    exact ⟨p, j, cs, zs, u, rfl, rfl, rfl, by omega, hok, hT, by omega, by omega⟩
  obtain ⟨cs0, hcs0⟩ : ∃ c, c = cs := ⟨_, rfl⟩
  obtain ⟨bb0, hbb0⟩ : ∃ b, zs.getD x 0 / 4 = b := ⟨_, rfl⟩
  have hx4 := b1 x hxN
  have hb1 : 1 ≤ bb0 ∧ bb0 ≤ 5004 ∧ 4 * bb0 ≤ zs.getD x 0 ∧ zs.getD x 0 - 4 * bb0 ≤ 3 := by omega
  have hok' := hok.fall hxN (by omega) hb1.2.2.1
  obtain ⟨zs1, hzs1⟩ : ∃ z, zs.set x (zs.getD x 0 - 4 * bb0) = z := ⟨_, rfl⟩
  rw [hzs1] at hok'
  have hz1l : zs1.length = R * C := by rw [← hzs1]; simp [hzl]
  have hz1b : ∀ c, c < R * C → -20000 ≤ zs1.getD c 0 ∧ zs1.getD c 0 ≤ 20018 := fun c hc => by
    rw [← hzs1, getD_set (by omega)]; split
    · omega
    · exact b1 c hc
  have hsgu : sg (upN u x bb0) (R * C) = sg u (R * C) + bb0 := by rw [sg_upN, if_pos hxN]
  obtain ⟨c1, c2, c3, c4⟩ := hok'.bnd hb hx
  rw [hsgu, hW] at c3
  have hT1 : Todo (R * C) (zs1, cs.take j) := by
    refine ⟨hz1l, fun y hy => htd.rng y ?_, fun c hc h => ?_⟩
    · have : cs.take j = (cs.take n).dropLast := l2.symm
      rw [this] at hy; exact List.dropLast_subset _ hy
    · simp only at h ⊢
      rw [← hzs1, getD_set (by omega)] at h
      by_cases ec : x = c
      · rw [if_pos ec] at h; omega
      · rw [if_neg ec] at h
        have hm := htd.all c hc h
        have hsp : cs.take n = cs.take j ++ [(x : Int)] := by
          rw [show n = j + 1 by omega, List.take_add_one, getD_some 0 (by omega), hxe]; rfl
        simp only at hm
        rw [hsp] at hm
        rcases List.mem_append.1 hm with hm | hm
        · exact hm
        · have := List.mem_singleton.1 hm
          exact absurd (show x = c by omega) ec
  have hT2 := Todo.fold (b := bb0) (nbs R C (x : Int)) _ hT1 nbs_nat_in
  have hlen2 := setS_len (b := bb0) (nbs R C (x : Int)) (zs1, cs.take j)
  have hnb4 : (nbs R C (x : Int)).length ≤ 4 := nbl_len 4
  have hfst := setS_fst (b := bb0) (nbs R C (x : Int)) (zs1, cs.take j)
  have hjl : (cs.take j).length = j := by simp; omega
  obtain ⟨xd, exd⟩ : ∃ v, x / C = v := ⟨_, rfl⟩
  obtain ⟨xm, exm⟩ : ∃ v, x % C = v := ⟨_, rfl⟩
  rw [exd] at d1 d3
  rw [exm] at d2 d3
  have exd2 : (x : Int) / (C : Int) = (xd : Int) := by rw [← exd]; push_cast; rfl
  have exm2 : (x : Int) % (C : Int) = (xm : Int) := by rw [← exm]; push_cast; rfl
  have hnbs : nbs R C (x : Int) = nbl R C xd xm 4 := by rw [nbs_nat, exd, exm]
  rw [hnbs] at hok' hT2 hlen2 hnb4 hfst
  repeat' (first
 | refine A_go rfl ?_ | refine A_ifT rfl rfl ?_ | refine A_ifF rfl rfl ?_
 | refine A_add rfl rfl rfl (by omega) ?_ | refine A_sub rfl rfl rfl (by omega) ?_ | refine A_mul rfl rfl rfl (by omega) ?_ | refine A_rem rfl rfl rfl (by omega) ?_ | refine A_remT rfl rfl rfl (by omega) ?_ | refine A_quo rfl rfl rfl (by omega) ?_
 | ((first | refine A_lt rfl rfl rfl ?_ ?_ | refine A_gt rfl rfl rfl ?_ ?_) <;> intro hc <;> try first | contradiction | (exfalso; omega) | exact absurd rfl hc)
 | refine A_idxN1 rfl rfl rfl (by omega) ?_ | refine A_idx1 rfl rfl rfl (by omega) ?_
 | refine A_slTo rfl rfl rfl (by omega) ?_
 | simp only [hj, hxe, hbb0, exd2, exm2, hzs1]
 | refine A_fld rfl rfl ?_ | refine A_p (by rfl) rfl ?_
 | refine A_ldI rfl (by first | omega | (simp; done) | (simp; omega)) rfl ?_ | refine A_ldB rfl (by first | omega | (simp; done) | (simp; omega)) rfl ?_ | refine A_ld rfl (by rfl) rfl ?_
 | refine A_ldW rfl (by simp) rfl ?_
 | refine A_st rfl rfl rfl ?_ | refine A_stE rfl rfl (by first | omega | (simp; done) | (simp; omega)) rfl ?_
 | ((first | refine A_alloc rfl ?_ | refine A_box rfl rfl ?_ | refine A_boxC rfl rfl ?_) <;> intro pz hpz)
 | refine A_ret1 rfl (by exact (RP.t rfl RP.nil)) ?_)
  obtain ⟨bb, hEq⟩ : ∃ p, p = pz := ⟨_, rfl⟩; subst hEq
  obtain ⟨FS, hFS⟩ : ∃ f, (nbl R C xd xm 4).foldl (setS bb0) (zs1, cs.take j) = f := ⟨_, rfl⟩
  rw [hFS] at hT2 hlen2 hfst
  refine A_callM (C := [tb, p, pc, q, bb]) (P := fun _ N => ∃ (p n : Nat) (cs : List Int), N = [(tb, .rw 23 1 [.sl p 0 n]), (p, ints cs), (pc, ints FS.1), (q, .rw 25 3 [ic R, ic C, .sl pc 0 len]), (bb, .rw 2 1 [ic bb0])] ∧ cs.take n = FS.2 ∧ n ≤ cs.length) rfl rfl (fun s' H => ?_) ?_
  · have H2 := ((inferInstance : Sub [(tb, .rw 23 1 [.sl p 0 j]), (p, ints cs), (pc, ints zs1), (q, .rw 25 3 [ic R, ic C, .sl pc 0 len]), (bb, .rw 2 1 [ic bb0])] _).own _ _ _ H).self
    rw [← hFS]
    refine c_besideJ (ids := [tb, p, pc, q, bb]) H2 (setS bb0) (fun st N => ∃ (p n : Nat) (cs : List Int), N = [(tb, .rw 23 1 [.sl p 0 n]), (p, ints cs), (pc, ints st.1), (q, .rw 25 3 [ic R, ic C, .sl pc 0 len]), (bb, .rw 2 1 [ic bb0])] ∧ cs.take n = st.2 ∧ n ≤ cs.length) (zs1, cs.take j) ⟨p, j, cs, rfl, rfl, by omega⟩ (by omega) ?_
    rintro r c hin s1 M N st ⟨j', hj', hst⟩ H1 ⟨p, n, cs, rfl, h1, h2⟩ K
    rw [← hcs0] at hst hjl
    have f1 := setS_fst (b := bb0) (nbl R C xd xm j') (zs1, List.take j cs0)
    have f2 := setS_len (b := bb0) (nbl R C xd xm j') (zs1, List.take j cs0)
    have f3 := nbl_len (R := R) (C := C) (i := (xd : Int)) (k := (xm : Int)) j'
    rw [← hst] at f1 f2
    have f4 : st.2.length = n := by rw [← h1]; simp; omega
    have hm := cell_in hin.1 hin.2
    have hce : r * C + c = (((r * C + c).toNat : Nat) : Int) := by omega
    have f5 := add_get (b := bb0) (c := (r * C + c).toNat) (nbl R C xd xm j') zs1 (fun y hy => by have := nbl_in j' y hy; omega)
    have f6 : (nbl R C xd xm j').count (((r * C + c).toNat : Nat) : Int) ≤ 4 := Nat.le_trans List.count_le_length (by omega)
    have f7 := hz1b (r * C + c).toNat (by omega)
    have f8 := Int.mul_nonneg (show 0 ≤ bb0 by omega) (show (0 : Int) ≤ (((nbl R C xd xm j').count (((r * C + c).toNat : Nat) : Int) : Nat) : Int) by omega)
    have f9 := Int.mul_le_mul hb1.2.1 (show (((nbl R C xd xm j').count (((r * C + c).toNat : Nat) : Int) : Nat) : Int) ≤ 4 by omega) (by omega) (by omega)
    simp only at f1 f2
    exact c_settle1 K hl hb h1 h2 (by rw [f1, addL_len]; omega) (by simp at f2; omega) hin (by rw [f1, f5]; omega) (by omega)
  · rintro r N ⟨p', n', cs', rfl, g1, g2⟩
    rw [← hfst] at hok'
    have g3 : FS.2.length = n' := by rw [← g1]; simp; omega
    simp only at hlen2
    repeat' (first
 | refine A_go rfl ?_ | refine A_ifT rfl rfl ?_ | refine A_ifF rfl rfl ?_
 | refine A_add rfl rfl rfl (by omega) ?_ | refine A_sub rfl rfl rfl (by omega) ?_ | refine A_mul rfl rfl rfl (by omega) ?_ | refine A_rem rfl rfl rfl (by omega) ?_ | refine A_remT rfl rfl rfl (by omega) ?_ | refine A_quo rfl rfl rfl (by omega) ?_
 | ((first | refine A_lt rfl rfl rfl ?_ ?_ | refine A_gt rfl rfl rfl ?_ ?_) <;> intro hc <;> try first | contradiction | (exfalso; omega) | exact absurd rfl hc)
 | refine A_idxN1 rfl rfl rfl (by omega) ?_ | refine A_idx1 rfl rfl rfl (by omega) ?_
 | refine A_fld rfl rfl ?_ | refine A_p (by rfl) rfl ?_
 | refine A_ldI rfl (by first | omega | (simp; done) | (simp; omega)) rfl ?_ | refine A_ldB rfl (by first | omega | (simp; done) | (simp; omega)) rfl ?_ | refine A_ld rfl (by rfl) rfl ?_
 | refine A_ldW rfl (by simp) rfl ?_
 | refine A_st rfl rfl rfl ?_ | refine A_stE rfl rfl (by first | omega | (simp; done) | (simp; omega)) rfl ?_
 | ((first | refine A_alloc rfl ?_ | refine A_box rfl rfl ?_ | refine A_boxC rfl rfl ?_) <;> intro pz hpz)
 | refine A_ret1 rfl (by exact (RP.t rfl RP.nil)) ?_)
    refine A_round rfl [tb, p', pc, q] ((5 * (W - sg (upN u x bb0) (R * C))).toNat + n') (by rw [hsgu]; omega) ?_
    exact ⟨p', n', cs', FS.1, upN u x bb0, rfl, by rw [hsgu]; rfl, rfl, g2, hok', by rw [g1]; exact hT2, by rw [hsgu] at *; omega, by rw [hsgu]; omega⟩

end Go.Proofs.Ytckobcjjbpnkcaa
