/- All words that come. -/
import Derived.Test.YtafdjnhlhepibaaXcomesA
import Derived.Test.YtafdjnhlhepibaaXcomesB
import Derived.Test.YtafdjnhlhepibaaFB
namespace Go.Proofs.Ytafdjnhlhepibaa
open Go Go.RowKit
set_option linter.unusedVariables false
set_option linter.unusedSimpArgs false
set_option maxRecDepth 100000
set_option maxHeartbeats 8000000
-- (impl.Rule).come
def L105 : AFun := ⟨39, [.t 6],
 (.seq (.ops false [⟨(some 3), .box 30 (.t 0), none, []⟩,
   ⟨(some 6), .mv (.k (.c (.nilM))), none, []⟩])
 (.seq (.ops false [⟨(some 10), .mkMap, none, []⟩,
   ⟨(some 7), .mv (.t 10), none, []⟩])
 (.seq (.ops false [⟨(some 11), .mv (.t 1), none, []⟩,
   ⟨(some 12), .fieldA 1 (.t 3), none, []⟩,
   ⟨(some 13), .load false 1 (.t 12), none, []⟩,
   ⟨(some 14), .bin .mul (.k (iv 2)) (.t 13), none, []⟩,
   ⟨(some 15), .mv (.t 2), none, []⟩,
   ⟨(some 16), .bin .mul (.t 14) (.t 15), none, []⟩,
   ⟨(some 17), .bin .add (.t 11) (.t 16), none, []⟩,
   ⟨(some 8), .mv (.t 17), none, []⟩])
 (.seq (.seq (.ops false [⟨(some 18), .fieldA 0 (.t 3), none, []⟩,
    ⟨(some 19), .load false 1 (.t 18), none, []⟩,
    ⟨(some 20), .mv (.t 8), none, []⟩,
    ⟨(some 21), .call (.f 115) [(.t 19), (.t 20)], none, []⟩,
    ⟨(some 22), .mv (.k (iv 0)), none, []⟩])
  (.block 0 (.loop [2, 3, 7, 8, 21, 22] (.seq (.ops false [⟨(some 23), .bin .lss (.t 22) (.t 21), none, []⟩])
    (.seq (.cond (.t 23) .skip
      (.exit 0))
    (.seq (.block 1 (.seq (.ops false [⟨(some 24), .mv (.t 22), none, []⟩,
        ⟨(some 9), .mv (.t 24), none, []⟩])
      (.ops true [⟨(some 27), .mv (.t 9), none, []⟩,
       ⟨(some 28), .fieldA 0 (.t 3), none, []⟩,
       ⟨(some 29), .load false 1 (.t 28), none, []⟩,
       ⟨(some 30), .mv (.t 8), none, []⟩,
       ⟨(some 31), .call (.f 130) [(.t 27), (.t 29), (.t 30)], none, []⟩,
       ⟨(some 26), .load true 3 (.t 3), none, [0]⟩,
       ⟨(some 32), .mv (.t 2), none, []⟩,
       ⟨(some 33), .call (.f 141) [(.t 26), (.t 31), (.t 32)], none, []⟩,
       ⟨(some 34), .fieldA 0 (.t 3), none, []⟩,
       ⟨(some 35), .load false 1 (.t 34), none, [0, 1]⟩,
       ⟨(some 36), .call (.f 106) [(.t 33), (.t 35)], none, []⟩,
       ⟨(some 25), .mv (.t 7), none, []⟩,
       ⟨none, .mapSet false (.t 25) (.t 36) (.k (bv true)), none, []⟩])))
    (.ops false [⟨(some 37), .bin .add (.t 22) (.k (iv 1)), none, []⟩,
     ⟨(some 22), .mv (.t 37), none, []⟩])))))))
 (.seq (.ops false [⟨(some 38), .mv (.t 7), none, []⟩,
   ⟨(some 6), .mv (.t 38), none, []⟩])
 .ret)))))⟩
theorem code105 : acode Try.prog hints 105 = some L105 := by kernel_rfl

-- spec.l03Come
def L107 : AFun := ⟨71, [.t 6],
 (.seq (.ops false [⟨(some 6), .mv (.k (.c (.sl 0 0 0))), none, []⟩])
 (.seq (.ops false [⟨(some 13), .mv (.t 1), none, []⟩,
   ⟨(some 14), .mv (.t 0), none, []⟩,
   ⟨(some 15), .nilChk (.t 14), none, []⟩,
   ⟨(some 16), .fieldA 1 (.t 15), none, []⟩,
   ⟨(some 17), .load false 1 (.t 16), none, []⟩,
   ⟨(some 18), .bin .mul (.k (iv 2)) (.t 17), none, []⟩,
   ⟨(some 19), .mv (.t 2), none, []⟩,
   ⟨(some 20), .bin .mul (.t 18) (.t 19), none, []⟩,
   ⟨(some 21), .bin .add (.t 13) (.t 20), none, []⟩,
   ⟨(some 7), .mv (.t 21), none, []⟩])
 (.seq (.ops false [⟨(some 8), .mv (.k (iv 14)), none, []⟩])
 (.seq (.seq (.ops false [⟨(some 22), .mv (.t 0), none, []⟩,
    ⟨(some 23), .nilChk (.t 22), none, []⟩,
    ⟨(some 24), .fieldA 0 (.t 23), none, []⟩,
    ⟨(some 25), .load false 1 (.t 24), none, []⟩,
    ⟨(some 26), .bin .eql (.t 25) (.k (iv 3)), none, []⟩])
  (.cond (.t 26) (.ops false [⟨(some 8), .mv (.k (iv 9)), none, []⟩])
   .skip))
 (.seq (.seq (.ops false [⟨(some 27), .mv (.t 7), none, []⟩,
    ⟨(some 28), .mv (.t 8), none, []⟩,
    ⟨(some 29), .bin .gtr (.t 27) (.t 28), none, []⟩])
  (.cond (.t 29) (.seq (.ops false [⟨(some 6), .mv (.k (.c (.sl 0 0 0))), none, []⟩])
   .ret)
   .skip))
 (.seq (.ops false [⟨(some 30), .mv (.t 0), none, []⟩,
   ⟨(some 31), .nilChk (.t 30), none, []⟩,
   ⟨(some 32), .fieldA 0 (.t 31), none, []⟩,
   ⟨(some 33), .load false 1 (.t 32), none, []⟩,
   ⟨(some 34), .mv (.t 1), none, []⟩,
   ⟨(some 35), .call (.f 116) [(.t 33), (.t 34)], none, []⟩,
   ⟨(some 36), .makeS 4 1 1 [.bool false] (.t 35) (.t 35), none, []⟩,
   ⟨(some 9), .mv (.t 36), none, []⟩])
 (.seq (.seq (.ops false [⟨(some 10), .mv (.k (iv 0)), none, []⟩])
  (.block 0 (.loop [0, 2, 7, 9, 10] (.seq (.seq (.ops false [⟨(some 37), .mv (.t 10), none, []⟩,
       ⟨(some 38), .mv (.t 0), none, []⟩,
       ⟨(some 39), .nilChk (.t 38), none, []⟩,
       ⟨(some 40), .fieldA 0 (.t 39), none, []⟩,
       ⟨(some 41), .load false 1 (.t 40), none, []⟩,
       ⟨(some 42), .mv (.t 7), none, []⟩,
       ⟨(some 43), .call (.f 116) [(.t 41), (.t 42)], none, []⟩,
       ⟨(some 44), .bin .lss (.t 37) (.t 43), none, []⟩])
     (.cond (.t 44) .skip
      (.exit 0)))
    (.seq (.block 1 (.seq (.ops false [⟨(some 47), .mv (.t 10), none, []⟩,
        ⟨(some 48), .mv (.t 0), none, []⟩,
        ⟨(some 49), .nilChk (.t 48), none, []⟩,
        ⟨(some 50), .fieldA 0 (.t 49), none, []⟩,
        ⟨(some 51), .load false 1 (.t 50), none, []⟩,
        ⟨(some 52), .mv (.t 7), none, []⟩,
        ⟨(some 53), .call (.f 117) [(.t 47), (.t 51), (.t 52)], none, []⟩,
        ⟨(some 11), .mv (.t 53), none, []⟩])
      (.seq (.seq (.ops false [⟨(some 12), .mv (.k (iv 0)), none, []⟩])
       (.block 2 (.loop [0, 2, 7, 9, 10, 11, 12] (.seq (.seq (.ops false [⟨(some 54), .mv (.t 12), none, []⟩,
            ⟨(some 55), .mv (.t 2), none, []⟩,
            ⟨(some 56), .bin .lss (.t 54) (.t 55), none, []⟩])
          (.cond (.t 56) .skip
           (.exit 2)))
         (.seq (.block 3 (.ops false [⟨(some 59), .mv (.t 0), none, []⟩,
            ⟨(some 60), .mv (.t 11), none, []⟩,
            ⟨(some 61), .call (.f 142) [(.t 59), (.t 60)], none, []⟩,
            ⟨(some 11), .mv (.t 61), none, []⟩]))
         (.ops false [⟨(some 57), .mv (.t 12), none, []⟩,
          ⟨(some 58), .bin .add (.t 57) (.k (iv 1)), none, []⟩,
          ⟨(some 12), .mv (.t 58), none, []⟩]))))))
      (.ops false [⟨(some 62), .mv (.t 9), none, []⟩,
       ⟨(some 63), .mv (.t 11), none, []⟩,
       ⟨(some 64), .mv (.t 0), none, []⟩,
       ⟨(some 65), .nilChk (.t 64), none, []⟩,
       ⟨(some 66), .fieldA 0 (.t 65), none, []⟩,
       ⟨(some 67), .load false 1 (.t 66), none, []⟩,
       ⟨(some 68), .call (.f 143) [(.t 63), (.t 67)], none, []⟩,
       ⟨(some 69), .idxA 1 (.t 62) (.t 68), none, []⟩,
       ⟨none, .store 1 (.t 69) (.k (bv true)), none, []⟩]))))
    (.ops false [⟨(some 45), .mv (.t 10), none, []⟩,
     ⟨(some 46), .bin .add (.t 45) (.k (iv 1)), none, []⟩,
     ⟨(some 10), .mv (.t 46), none, []⟩]))))))
 (.seq (.ops false [⟨(some 70), .mv (.t 9), none, []⟩,
   ⟨(some 6), .mv (.t 70), none, []⟩])
 .ret))))))))⟩
theorem code107 : acode Try.prog hints 107 = some L107 := by kernel_rfl


theorem c_raisedN {s : St} [Wf s] {S n : Nat} (hb : S ≤ 3 := by omega) (hn : n ≤ 30 := by omega) : FnV 115 [iv S, iv n] s (iv ((S ^ n : Nat) : Int)) := by
  have := c_raised (s := s) (b0 := S) (n0 := n)
  simp only [Int.toNat_natCast] at this; exact this
theorem c_powN {s : St} [Wf s] {S n : Nat} (hb : S ≤ 3 := by omega) (hn : n ≤ 30 := by omega) : FnV 116 [iv S, iv n] s (iv ((S ^ n : Nat) : Int)) := by
  have := c_l03Power (s := s) (b0 := S) (n0 := n)
  simp only [Int.toNat_natCast] at this; exact this
/-- Words of 'n' cells behind 'T' steps that are asked for. -/
def CmP (st re : Int) (xs : List Int) (n T : Int) : Prop := VR st re xs ∧ (0 ≤ T ∧ T ≤ 4) ∧ (1 ≤ n ∧ n ≤ 12) ∧ n + 2 * re * T ≤ most st 14 9
theorem re_mul {re T : Int} (hre : 0 ≤ re ∧ re ≤ 2) (hT : 0 ≤ T ∧ T ≤ 4) : 0 ≤ 2 * re * T ∧ 2 * re * T ≤ 16 := by
  obtain rfl | rfl | rfl : re = 0 ∨ re = 1 ∨ re = 2 := by omega
  all_goals omega
abbrev cmn (S w : Nat) (xs : List Int) (n T i : Nat) : Nat := nm S (ahd S w xs (dg S i (n + (w - 1) * T)) T)
/-- The numbers of what all words lead to. -/
def cms (S w : Nat) (xs : List Int) (n T : Nat) : List Int := (List.range (S ^ (n + (w - 1) * T))).map fun i => ((cmn S w xs n T i : Nat) : Int)
@[simp] theorem cms_len {S w n T : Nat} {xs : List Int} : (cms S w xs n T).length = S ^ (n + (w - 1) * T) := by simp [cms]
theorem cms_get {S w n T i : Nat} {xs : List Int} (h : i < S ^ (n + (w - 1) * T)) : (cms S w xs n T).getD i 0 = ((cmn S w xs n T i : Nat) : Int) := getD_map_range h
theorem cmn_lt {S w E n T i : Nat} {xs : List Int} (hS : 2 ≤ S) (hE : E = S ^ (w - 1)) (hw : 1 ≤ w) (hl : xs.length = E * S) (hd : DG S xs) : cmn S w xs n T i < S ^ n := by
  have h := nm_lt (S := S) (by omega) (ahd_dg hS hE hw hl hd (dg_mem (S := S) (n := i) (w := n + (w - 1) * T) (by omega)) T) _ (Nat.le_refl _)
  have e := ahd_len (S := S) (xs := xs) (n := n) (T := T) (ys := dg S i (n + (w - 1) * T)) hw (by simp) T (Nat.le_refl _)
  rw [Nat.sub_self, Nat.mul_zero, Nat.add_zero] at e
  rw [cmn, nm]; rw [e] at h ⊢; exact h
abbrev cimg (S w : Nat) (xs : List Int) (n T : Nat) : List Bool × Int := img (S ^ n) (cms S w xs n T) (S ^ (n + (w - 1) * T))
theorem cms_in {S w E n T : Nat} {xs : List Int} (hS : 2 ≤ S) (hE : E = S ^ (w - 1)) (hw : 1 ≤ w) (hl : xs.length = E * S) (hd : DG S xs) {i : Nat} (hi : i < S ^ (n + (w - 1) * T)) : 0 ≤ (cms S w xs n T).getD i 0 ∧ (cms S w xs n T).getD i 0 < (S ^ n : Nat) := by
  rw [cms_get hi]
  have := cmn_lt (n := n) (T := T) (i := i) hS hE hw hl hd
  omega
theorem c_come {s : St} [Wf s] {S w E n T : Nat} {re : Int} {id_xs off_xs len_xs : Nat} {xs : List Int} [h_xs : ArgE ic s id_xs off_xs xs] (hl_xs : xs.length = len_xs := by first | rfl | simp | omega | (simp; omega)) (hd : DG S xs) (hE : E = S ^ (w - 1)) (hl : xs.length = E * S) (hn : 1 ≤ n ∧ n ≤ 12) (hT : T ≤ 4) (hlong : n + (w - 1) * T ≤ 14 ∧ S ^ (n + (w - 1) * T) ≤ 19683) (hS : 2 ≤ S ∧ S ≤ 3 := by omega) (hw : 2 * re + 1 = w ∧ 1 ≤ w ∧ w ≤ 5 := by omega) :
    Fn [] 105 [.agg [ic S, ic re, .sl id_xs off_xs len_xs], iv n, iv T] s fun R N => ∃ p ks, R = .c (.mp p) ∧ N = [(p, .map (ks.map st1))] ∧ Keys ks (cimg S w xs n T) := by
  have hre : 0 ≤ re ∧ re ≤ 2 := by omega
  have hm := re_mul hre (T := T) (by omega)
  have e : (n : Int) + 2 * re * (T : Int) = ((n + (w - 1) * T : Nat) : Int) := by
    have : 2 * re = ((w - 1 : Nat) : Int) := by omega
    rw [this]; push_cast; rfl
  refine F_start code105 ?_
  repeat' (first
 | refine A_go rfl ?_ | refine A_ifT rfl rfl ?_ | refine A_ifF rfl rfl ?_
 | refine A_add rfl rfl rfl (by omega) ?_ | refine A_mul rfl rfl rfl (by omega) ?_
 | ((first | refine A_lt rfl rfl rfl ?_ ?_) <;> intro hc <;> try first | contradiction | (exfalso; omega) | exact absurd rfl hc)
 | (refine A_mkMap rfl ?_ <;> intro pz hpz)
 | refine A_fld rfl rfl ?_ | refine A_p (by rfl) rfl ?_
 | refine A_ldI rfl (by first | omega | (simp; done) | (simp; omega)) rfl ?_ | refine A_ldB rfl (by first | omega | (simp; done) | (simp; omega)) rfl ?_ | refine A_ld rfl (by rfl) rfl ?_
 | refine A_ldW rfl (by simp) rfl ?_
 | ((first | refine A_box rfl rfl ?_ | refine A_boxC rfl rfl ?_) <;> intro pz hpz)
 | refine A_chk1 rfl rfl rfl ?_ | refine A_chk2 rfl rfl rfl rfl ?_ | refine A_chk3 rfl rfl rfl rfl rfl ?_ | refine A_chk4 rfl rfl rfl rfl rfl rfl ?_ | refine A_chkI rfl (by assumption) rfl (by simp) ?_
 | refine A_ret1 rfl (by exact (RP.t rfl RP.nil)) ?_)
  rw [e]
  obtain ⟨long, hlg⟩ : ∃ k, n + (w - 1) * T = k := ⟨_, rfl⟩
  rw [hlg]
  have hlong' := hlong
  have hlgS : S ^ (n + (w - 1) * T) = S ^ long := by rw [hlg]
  rw [hlg] at hlong'
  repeat' (first
 | refine A_go rfl ?_ | refine A_ifT rfl rfl ?_ | refine A_ifF rfl rfl ?_
 | refine A_add rfl rfl rfl (by omega) ?_ | refine A_mul rfl rfl rfl (by omega) ?_
 | ((first | refine A_lt rfl rfl rfl ?_ ?_) <;> intro hc <;> try first | contradiction | (exfalso; omega) | exact absurd rfl hc)
 | refine A_callV rfl rfl (fun s H => c_raisedN) ?_
 | refine A_fld rfl rfl ?_ | refine A_p (by rfl) rfl ?_
 | refine A_ldI rfl (by first | omega | (simp; done) | (simp; omega)) rfl ?_ | refine A_ldB rfl (by first | omega | (simp; done) | (simp; omega)) rfl ?_ | refine A_ld rfl (by rfl) rfl ?_
 | refine A_ldW rfl (by simp) rfl ?_
 | ((first | refine A_box rfl rfl ?_ | refine A_boxC rfl rfl ?_) <;> intro pz hpz)
 | refine A_chk1 rfl rfl rfl ?_ | refine A_chk2 rfl rfl rfl rfl ?_ | refine A_chk3 rfl rfl rfl rfl rfl ?_ | refine A_chk4 rfl rfl rfl rfl rfl rfl ?_ | refine A_chkI rfl (by assumption) rfl (by simp) ?_
 | refine A_ret1 rfl (by exact (RP.t rfl RP.nil)) ?_)
  obtain ⟨pm, hEq⟩ : ∃ p, p = pz := ⟨_, rfl⟩; subst hEq
  obtain ⟨q, hEq⟩ : ∃ p, p = pz := ⟨_, rfl⟩; subst hEq
  refine A_loop rfl [q, pm] (fun m fr L => ∃ (i : Nat) (ks : List Int), m = S ^ long - i ∧ fr = [(2, iv T), (3, .c (.ptr q 0)), (7, .c (.mp pm)), (8, iv long), (21, iv ((S ^ long : Nat) : Int)), (22, iv i)] ∧ L = [(q, .rw 30 3 [ic S, ic re, .sl id_xs off_xs len_xs]), (pm, .map (ks.map st1))] ∧ i ≤ S ^ long ∧ Keys ks (img (S ^ n) (cms S w xs n T) i)) (S ^ long) ⟨0, [], rfl, rfl, rfl, by omega, keys0⟩ ?_
  rintro m fr L ⟨i, ks, rfl, rfl, rfl, hi, hks⟩
  by_cases hi' : i < S ^ long
  · have hdd : DG S (dg S i long) := dg_mem (by omega)
    have hda := ahd_dg hS.1 hE hw.2.1 hl hd hdd T
    have hin := cms_in (n := n) (T := T) hS.1 hE hw.2.1 hl hd (i := i) (by omega)
    have hk2 := keys_step hks hin
    have hlen := ahd_len (S := S) (xs := xs) (n := n) (T := T) (ys := dg S i long) hw.2.1 (by simp; omega) T (Nat.le_refl _)
    rw [Nat.sub_self, Nat.mul_zero, Nat.add_zero] at hlen
    rw [cms_get (by omega)] at hk2
    repeat' (first
 | refine A_go rfl ?_ | refine A_ifT rfl rfl ?_ | refine A_ifF rfl rfl ?_
 | refine A_add rfl rfl rfl (by omega) ?_ | refine A_mul rfl rfl rfl (by omega) ?_
 | ((first | refine A_lt rfl rfl rfl ?_ ?_) <;> intro hc <;> try first | contradiction | (exfalso; omega) | exact absurd rfl hc)
 | (refine A_callM rfl rfl (fun s H => c_digitsOf (w := long)) ?_; rintro _ _ ⟨pz, rfl, rfl⟩) | (refine A_callM0 rfl rfl (fun s H => c_digitsOf (w := long)) ?_; rintro _ _ ⟨pz, rfl, rfl⟩)
 | (refine A_callM rfl rfl (fun s H => c_ahead (ys := dg S i long) (n := n) (hly := by simp <;> omega) (hd := hd) (hy := hdd) (hE := hE) (hl := hl)) ?_; rintro _ _ (⟨hT, rfl, rfl⟩ | ⟨hT, pz, rfl, rfl⟩)) | (refine A_callM0 rfl rfl (fun s H => c_ahead (ys := dg S i long) (n := n) (hly := by simp <;> omega) (hd := hd) (hy := hdd) (hE := hE) (hl := hl)) ?_; rintro _ _ (⟨hT, rfl, rfl⟩ | ⟨hT, pz, rfl, rfl⟩))
 | refine A_fld rfl rfl ?_ | refine A_p (by rfl) rfl ?_
 | refine A_ldI rfl (by first | omega | (simp; done) | (simp; omega)) rfl ?_ | refine A_ldB rfl (by first | omega | (simp; done) | (simp; omega)) rfl ?_ | refine A_ld rfl (by rfl) rfl ?_
 | refine A_ldW rfl (by simp) rfl ?_
 | ((first | refine A_box rfl rfl ?_ | refine A_boxC rfl rfl ?_) <;> intro pz hpz)
 | refine A_chk1 rfl rfl rfl ?_ | refine A_chk2 rfl rfl rfl rfl ?_ | refine A_chk3 rfl rfl rfl rfl rfl ?_ | refine A_chk4 rfl rfl rfl rfl rfl rfl ?_ | refine A_chkI rfl (by assumption) rfl (by simp) ?_
 | refine A_ret1 rfl (by exact (RP.t rfl RP.nil)) ?_)
    · subst hT
      rw [Nat.mul_zero, Nat.add_zero] at hlg
      subst hlg
      repeat' (first
 | refine A_go rfl ?_ | refine A_ifT rfl rfl ?_ | refine A_ifF rfl rfl ?_
 | refine A_add rfl rfl rfl (by omega) ?_ | refine A_mul rfl rfl rfl (by omega) ?_
 | ((first | refine A_lt rfl rfl rfl ?_ ?_) <;> intro hc <;> try first | contradiction | (exfalso; omega) | exact absurd rfl hc)
 | refine A_callV rfl rfl (fun s H => c_numberOf (ys := dg S i n) (h := hdd)) ?_
 | refine A_mset rfl rfl rfl set_st rfl ?_
 | refine A_fld rfl rfl ?_ | refine A_p (by rfl) rfl ?_
 | refine A_ldI rfl (by first | omega | (simp; done) | (simp; omega)) rfl ?_ | refine A_ldB rfl (by first | omega | (simp; done) | (simp; omega)) rfl ?_ | refine A_ld rfl (by rfl) rfl ?_
 | refine A_ldW rfl (by simp) rfl ?_
 | ((first | refine A_box rfl rfl ?_ | refine A_boxC rfl rfl ?_) <;> intro pz hpz)
 | refine A_chk1 rfl rfl rfl ?_ | refine A_chk2 rfl rfl rfl rfl ?_ | refine A_chk3 rfl rfl rfl rfl rfl ?_ | refine A_chk4 rfl rfl rfl rfl rfl rfl ?_ | refine A_chkI rfl (by assumption) rfl (by simp) ?_
 | refine A_ret1 rfl (by exact (RP.t rfl RP.nil)) ?_)
      refine A_round rfl [q, pm] (S ^ n - (i + 1)) (by omega) ?_
      refine ⟨i + 1, _, rfl, rfl, rfl, by omega, ?_⟩
      first | exact hk2 | (rw [cmn] at hk2; exact hk2)
    · repeat' (first
 | refine A_go rfl ?_ | refine A_ifT rfl rfl ?_ | refine A_ifF rfl rfl ?_
 | refine A_add rfl rfl rfl (by omega) ?_ | refine A_mul rfl rfl rfl (by omega) ?_
 | ((first | refine A_lt rfl rfl rfl ?_ ?_) <;> intro hc <;> try first | contradiction | (exfalso; omega) | exact absurd rfl hc)
 | refine A_callV rfl rfl (fun s H => c_numberOf (ys := ahd S w xs (dg S i long) T) (h := hda)) ?_
 | refine A_mset rfl rfl rfl set_st rfl ?_
 | refine A_fld rfl rfl ?_ | refine A_p (by rfl) rfl ?_
 | refine A_ldI rfl (by first | omega | (simp; done) | (simp; omega)) rfl ?_ | refine A_ldB rfl (by first | omega | (simp; done) | (simp; omega)) rfl ?_ | refine A_ld rfl (by rfl) rfl ?_
 | refine A_ldW rfl (by simp) rfl ?_
 | ((first | refine A_box rfl rfl ?_ | refine A_boxC rfl rfl ?_) <;> intro pz hpz)
 | refine A_chk1 rfl rfl rfl ?_ | refine A_chk2 rfl rfl rfl rfl ?_ | refine A_chk3 rfl rfl rfl rfl rfl ?_ | refine A_chk4 rfl rfl rfl rfl rfl rfl ?_ | refine A_chkI rfl (by assumption) rfl (by simp) ?_
 | refine A_ret1 rfl (by exact (RP.t rfl RP.nil)) ?_)
      refine A_round rfl [q, pm] (S ^ long - (i + 1)) (by omega) ?_
      refine ⟨i + 1, _, rfl, rfl, rfl, by omega, ?_⟩
      rw [cmn, hlg] at hk2; exact hk2
  · obtain rfl : S ^ long = i := by omega
    repeat' (first
 | refine A_go rfl ?_ | refine A_ifT rfl rfl ?_ | refine A_ifF rfl rfl ?_
 | refine A_add rfl rfl rfl (by omega) ?_ | refine A_mul rfl rfl rfl (by omega) ?_
 | ((first | refine A_lt rfl rfl rfl ?_ ?_) <;> intro hc <;> try first | contradiction | (exfalso; omega) | exact absurd rfl hc)
 | refine A_fld rfl rfl ?_ | refine A_p (by rfl) rfl ?_
 | refine A_ldI rfl (by first | omega | (simp; done) | (simp; omega)) rfl ?_ | refine A_ldB rfl (by first | omega | (simp; done) | (simp; omega)) rfl ?_ | refine A_ld rfl (by rfl) rfl ?_
 | refine A_ldW rfl (by simp) rfl ?_
 | ((first | refine A_box rfl rfl ?_ | refine A_boxC rfl rfl ?_) <;> intro pz hpz)
 | refine A_chk1 rfl rfl rfl ?_ | refine A_chk2 rfl rfl rfl rfl ?_ | refine A_chk3 rfl rfl rfl rfl rfl ?_ | refine A_chk4 rfl rfl rfl rfl rfl rfl ?_ | refine A_chkI rfl (by assumption) rfl (by simp) ?_
 | refine A_ret1 rfl (by exact (RP.t rfl RP.nil)) ?_)
    refine R_s ⟨pm, ks, rfl, rfl, ?_⟩
    rw [cimg, hlg]; exact hks
theorem cm_nat {S : Nat} {re : Int} {xs : List Int} {n T : Int} (h : CmP S re xs n T) {w : Nat} (hw : 2 * re + 1 = w) (hS : 2 ≤ S ∧ S ≤ 3) : ∃ n' T' : Nat, n = n' ∧ T = T' ∧ (1 ≤ n' ∧ n' ≤ 12) ∧ T' ≤ 4 ∧ n' + (w - 1) * T' ≤ 14 ∧ S ^ (n' + (w - 1) * T') ≤ 19683 := by
  obtain ⟨h1, h2, h3, h4⟩ := h
  obtain ⟨n', rfl⟩ : ∃ k : Nat, n = k := ⟨n.toNat, by omega⟩
  obtain ⟨T', rfl⟩ : ∃ k : Nat, T = k := ⟨T.toNat, by omega⟩
  have e : (n' : Int) + 2 * re * (T' : Int) = ((n' + (w - 1) * T' : Nat) : Int) := by
    have : 2 * re = ((w - 1 : Nat) : Int) := by omega
    rw [this]; push_cast; rfl
  rw [e] at h4
  obtain ⟨long, hlg⟩ : ∃ k, n' + (w - 1) * T' = k := ⟨_, rfl⟩
  rw [hlg] at h4
  unfold most at h4
  refine ⟨n', T', rfl, rfl, by omega, by omega, ?_⟩
  rw [hlg]
  by_cases e2 : S = 2
  · subst e2
    rw [if_pos (by omega)] at h4
    have h5 : long ≤ 14 := by omega
    have : 2 ^ long ≤ 2 ^ 14 := Nat.pow_le_pow_right (by omega) h5
    have : (2 : Nat) ^ 14 = 16384 := by decide
    omega
  · obtain rfl : S = 3 := by omega
    rw [if_neg (by omega)] at h4
    have h5 : long ≤ 9 := by omega
    have : 3 ^ long ≤ 3 ^ 9 := Nat.pow_le_pow_right (by omega) h5
    have : (3 : Nat) ^ 9 = 19683 := by decide
    omega
abbrev bools (bs : List Bool) : AObj := .rw 4 1 (bs.map bc)
theorem c_l03Come {s : St} [Wf s] {q S w E n T : Nat} {re : Int} {id_xs off_xs len_xs : Nat} {xs : List Int} [hq : Ref s q [ic S, ic re, .sl id_xs off_xs len_xs]] [h_xs : ArgE ic s id_xs off_xs xs] (hl_xs : xs.length = len_xs := by first | rfl | simp | omega) (hp : CmP S re xs n T) (hd : DG S xs) (hE : E = S ^ (w - 1)) (hl : xs.length = E * S) (hn : 1 ≤ n ∧ n ≤ 12) (hT : T ≤ 4) (hlong : n + (w - 1) * T ≤ 14 ∧ S ^ (n + (w - 1) * T) ≤ 19683) (hS : 2 ≤ S ∧ S ≤ 3 := by omega) (hw : 2 * re + 1 = w ∧ 1 ≤ w ∧ w ≤ 5 := by omega) :
    Fn [] 107 [.c (.ptr q 0), iv n, iv T] s fun R N => ∃ p, R = .c (.sl p 0 (S ^ n)) ∧ N = [(p, bools (cimg S w xs n T).1)] := by
  have hre : 0 ≤ re ∧ re ≤ 2 := by omega
  have hm := re_mul hre (T := T) (by omega)
  have e : (n : Int) + 2 * re * (T : Int) = ((n + (w - 1) * T : Nat) : Int) := by
    have : 2 * re = ((w - 1 : Nat) : Int) := by omega
    rw [this]; push_cast; rfl
  have hml := hp.2.2.2
  unfold most at hml
  have hSn : S ^ n ≤ 19683 := by
    have : S ^ n ≤ S ^ (n + (w - 1) * T) := Nat.pow_le_pow_right (by omega) (by omega)
    omega
  refine F_start code107 ?_
  repeat' (first
 | refine A_go rfl ?_ | refine A_ifT rfl rfl ?_ | refine A_ifF rfl rfl ?_
 | refine A_add rfl rfl rfl (by omega) ?_ | refine A_mul rfl rfl rfl (by omega) ?_
 | ((first | refine A_lt rfl rfl rfl ?_ ?_ | refine A_gt rfl rfl rfl ?_ ?_ | refine A_eq rfl rfl rfl ?_ ?_) <;> intro hc <;> try first | contradiction | (exfalso; omega) | exact absurd rfl hc)
 | refine A_idxN1 rfl rfl rfl (by omega) ?_ | refine A_idx1 rfl rfl rfl (by omega) ?_
 | refine A_fld rfl rfl ?_ | refine A_p (by rfl) rfl ?_
 | refine A_ldI rfl (by first | omega | (simp; done) | (simp; omega)) rfl ?_ | refine A_ldB rfl (by first | omega | (simp; done) | (simp; omega)) rfl ?_ | refine A_ld rfl (by rfl) rfl ?_
 | refine A_st rfl rfl rfl ?_ | refine A_stE rfl rfl (by first | omega | (simp; done) | (simp; omega)) rfl ?_
 | ((first | refine A_makeN rfl rfl rfl (by omega) ?_ | refine A_make rfl rfl rfl (by omega) ?_) <;> intro pz hpz)
 | refine A_ret1 rfl (by exact (RP.t rfl RP.nil)) ?_)
  all_goals first | (exfalso; (first | rw [if_pos (by omega)] at hml | rw [if_neg (by omega)] at hml); omega) | skip
  all_goals rw [e]
  all_goals obtain ⟨long, hlg⟩ : ∃ k, n + (w - 1) * T = k := ⟨_, rfl⟩
  all_goals rw [hlg]
  all_goals have hlgS : S ^ (n + (w - 1) * T) = S ^ long := by rw [hlg]
  all_goals rw [hlg] at hlong
  all_goals
    repeat' (first
 | refine A_go rfl ?_ | refine A_ifT rfl rfl ?_ | refine A_ifF rfl rfl ?_
 | refine A_add rfl rfl rfl (by omega) ?_ | refine A_mul rfl rfl rfl (by omega) ?_
 | ((first | refine A_lt rfl rfl rfl ?_ ?_ | refine A_gt rfl rfl rfl ?_ ?_ | refine A_eq rfl rfl rfl ?_ ?_) <;> intro hc <;> try first | contradiction | (exfalso; omega) | exact absurd rfl hc)
 | refine A_idxN1 rfl rfl rfl (by omega) ?_ | refine A_idx1 rfl rfl rfl (by omega) ?_
 | refine A_callV rfl rfl (fun s H => c_powN) ?_
 | refine A_fld rfl rfl ?_ | refine A_p (by rfl) rfl ?_
 | refine A_ldI rfl (by first | omega | (simp; done) | (simp; omega)) rfl ?_ | refine A_ldB rfl (by first | omega | (simp; done) | (simp; omega)) rfl ?_ | refine A_ld rfl (by rfl) rfl ?_
 | refine A_st rfl rfl rfl ?_ | refine A_stE rfl rfl (by first | omega | (simp; done) | (simp; omega)) rfl ?_
 | ((first | refine A_makeN rfl rfl rfl (by omega) ?_ | refine A_make rfl rfl rfl (by omega) ?_) <;> intro pz hpz)
 | refine A_ret1 rfl (by exact (RP.t rfl RP.nil)) ?_)
    obtain ⟨pb, hEq⟩ : ∃ p, p = pz := ⟨_, rfl⟩; subst hEq
    refine A_loop rfl [pb] (fun m fr L => ∃ (i : Nat), m = S ^ long - i ∧ fr = [(0, .c (.ptr q 0)), (2, iv T), (7, iv long), (9, .c (.sl pb 0 (S ^ n))), (10, iv i)] ∧ L = [(pb, bools (img (S ^ n) (cms S w xs n T) i).1)] ∧ i ≤ S ^ long) (S ^ long) ⟨0, rfl, rfl, rfl, by omega⟩ ?_
    rintro m fr L ⟨i, rfl, rfl, rfl, hi⟩
    by_cases hi' : i < S ^ long
    · have hdd : DG S (dg S i long) := dg_mem (by omega)
      have hda := ahd_dg hS.1 hE hw.2.1 hl hd hdd
      have hin := cms_in (n := n) (T := T) hS.1 hE hw.2.1 hl hd (i := i) (by omega)
      have hil := (img_ok (N := S ^ n) (ts := cms S w xs n T) i).1
      have hA := ahd_len (S := S) (xs := xs) (n := n) (T := T) (ys := dg S i long) hw.2.1 (by simp; omega)
      repeat' (first
 | refine A_go rfl ?_ | refine A_ifT rfl rfl ?_ | refine A_ifF rfl rfl ?_
 | refine A_add rfl rfl rfl (by omega) ?_ | refine A_mul rfl rfl rfl (by omega) ?_
 | ((first | refine A_lt rfl rfl rfl ?_ ?_ | refine A_gt rfl rfl rfl ?_ ?_ | refine A_eq rfl rfl rfl ?_ ?_) <;> intro hc <;> try first | contradiction | (exfalso; omega) | exact absurd rfl hc)
 | refine A_idxN1 rfl rfl rfl (by omega) ?_ | refine A_idx1 rfl rfl rfl (by omega) ?_
 | refine A_callV rfl rfl (fun s H => c_powN) ?_
 | (refine A_callM rfl rfl (fun s H => c_l03Cells (w := long)) ?_; rintro _ _ ⟨pz, rfl, rfl⟩) | (refine A_callM0 rfl rfl (fun s H => c_l03Cells (w := long)) ?_; rintro _ _ ⟨pz, rfl, rfl⟩)
 | refine A_fld rfl rfl ?_ | refine A_p (by rfl) rfl ?_
 | refine A_ldI rfl (by first | omega | (simp; done) | (simp; omega)) rfl ?_ | refine A_ldB rfl (by first | omega | (simp; done) | (simp; omega)) rfl ?_ | refine A_ld rfl (by rfl) rfl ?_
 | refine A_st rfl rfl rfl ?_ | refine A_stE rfl rfl (by first | omega | (simp; done) | (simp; omega)) rfl ?_
 | ((first | refine A_makeN rfl rfl rfl (by omega) ?_ | refine A_make rfl rfl rfl (by omega) ?_) <;> intro pz hpz)
 | refine A_ret1 rfl (by exact (RP.t rfl RP.nil)) ?_)
      obtain ⟨p0, hEq⟩ : ∃ p, p = pz := ⟨_, rfl⟩; subst hEq
      refine A_loop rfl [pb, p0] (fun m fr L => ∃ (t p : Nat), m = T - t ∧ fr = [(0, .c (.ptr q 0)), (2, iv T), (7, iv long), (9, .c (.sl pb 0 (S ^ n))), (10, iv i), (11, .c (.sl p 0 (n + (w - 1) * (T - t)))), (12, iv t)] ∧ L = [(pb, bools (img (S ^ n) (cms S w xs n T) i).1), (p, ints (ahd S w xs (dg S i long) t))] ∧ t ≤ T) T ⟨0, p0, rfl, by rw [Nat.sub_zero, hlg]; rfl, rfl, by omega⟩ ?_
      rintro m fr L ⟨t, p, rfl, rfl, rfl, ht⟩
      have h2 := hA t ht
      have h3 := hda t
      have hle : n + (w - 1) * (T - t) ≤ 64 := by
        have : (w - 1) * (T - t) ≤ (w - 1) * T := Nat.mul_le_mul_left _ (by omega)
        omega
      by_cases ht' : t < T
      · have h4 := hA (t + 1) (by omega)
        have e1 : (n + (w - 1) * (T - t) + 1 - w) = n + (w - 1) * (T - (t + 1)) := by rw [← h4, ahd, shr_len]; omega
        repeat' (first
 | refine A_go rfl ?_ | refine A_ifT rfl rfl ?_ | refine A_ifF rfl rfl ?_
 | refine A_add rfl rfl rfl (by omega) ?_ | refine A_mul rfl rfl rfl (by omega) ?_
 | ((first | refine A_lt rfl rfl rfl ?_ ?_ | refine A_gt rfl rfl rfl ?_ ?_ | refine A_eq rfl rfl rfl ?_ ?_) <;> intro hc <;> try first | contradiction | (exfalso; omega) | exact absurd rfl hc)
 | refine A_idxN1 rfl rfl rfl (by omega) ?_ | refine A_idx1 rfl rfl rfl (by omega) ?_
 | (refine A_callM rfl rfl (fun s H => c_l03Row (ys := ahd S w xs (dg S i long) t) (hd := hd) (hy := h3) (hE := hE) (hl := hl)) ?_; rintro _ _ ⟨pz, rfl, rfl⟩) | (refine A_callM0 rfl rfl (fun s H => c_l03Row (ys := ahd S w xs (dg S i long) t) (hd := hd) (hy := h3) (hE := hE) (hl := hl)) ?_; rintro _ _ ⟨pz, rfl, rfl⟩)
 | refine A_fld rfl rfl ?_ | refine A_p (by rfl) rfl ?_
 | refine A_ldI rfl (by first | omega | (simp; done) | (simp; omega)) rfl ?_ | refine A_ldB rfl (by first | omega | (simp; done) | (simp; omega)) rfl ?_ | refine A_ld rfl (by rfl) rfl ?_
 | refine A_st rfl rfl rfl ?_ | refine A_stE rfl rfl (by first | omega | (simp; done) | (simp; omega)) rfl ?_
 | ((first | refine A_makeN rfl rfl rfl (by omega) ?_ | refine A_make rfl rfl rfl (by omega) ?_) <;> intro pz hpz)
 | refine A_ret1 rfl (by exact (RP.t rfl RP.nil)) ?_)
        rw [e1]
        refine A_round rfl [pb, pz] (T - (t + 1)) (by omega) ?_
        exact ⟨t + 1, pz, rfl, rfl, rfl, by omega⟩
      · obtain rfl : T = t := by omega
        rw [Nat.sub_self, Nat.mul_zero, Nat.add_zero] at h2 ⊢
        rw [cms_get (by omega), cmn, hlg] at hin
        repeat' (first
 | refine A_go rfl ?_ | refine A_ifT rfl rfl ?_ | refine A_ifF rfl rfl ?_
 | refine A_add rfl rfl rfl (by omega) ?_ | refine A_mul rfl rfl rfl (by omega) ?_
 | ((first | refine A_lt rfl rfl rfl ?_ ?_ | refine A_gt rfl rfl rfl ?_ ?_ | refine A_eq rfl rfl rfl ?_ ?_) <;> intro hc <;> try first | contradiction | (exfalso; omega) | exact absurd rfl hc)
 | refine A_idxN1 rfl rfl rfl (by omega) ?_ | refine A_idx1 rfl rfl rfl (by omega) ?_
 | refine A_callV rfl rfl (fun s H => c_l03Number (ys := ahd S w xs (dg S i long) T) (h := h3)) ?_
 | refine A_fld rfl rfl ?_ | refine A_p (by rfl) rfl ?_
 | refine A_ldI rfl (by first | omega | (simp; done) | (simp; omega)) rfl ?_ | refine A_ldB rfl (by first | omega | (simp; done) | (simp; omega)) rfl ?_ | refine A_ld rfl (by rfl) rfl ?_
 | refine A_st rfl rfl rfl ?_ | refine A_stE rfl rfl (by first | omega | (simp; done) | (simp; omega)) rfl ?_
 | ((first | refine A_makeN rfl rfl rfl (by omega) ?_ | refine A_make rfl rfl rfl (by omega) ?_) <;> intro pz hpz)
 | refine A_ret1 rfl (by exact (RP.t rfl RP.nil)) ?_)
        refine A_round rfl [pb] (S ^ long - (i + 1)) (by omega) ?_
        refine ⟨i + 1, rfl, rfl, ?_, by omega⟩
        rw [img_set, cms_get (by omega), cmn, hlg, Int.toNat_natCast]
    · obtain rfl : S ^ long = i := by omega
      repeat' (first
 | refine A_go rfl ?_ | refine A_ifT rfl rfl ?_ | refine A_ifF rfl rfl ?_
 | refine A_add rfl rfl rfl (by omega) ?_ | refine A_mul rfl rfl rfl (by omega) ?_
 | ((first | refine A_lt rfl rfl rfl ?_ ?_ | refine A_gt rfl rfl rfl ?_ ?_ | refine A_eq rfl rfl rfl ?_ ?_) <;> intro hc <;> try first | contradiction | (exfalso; omega) | exact absurd rfl hc)
 | refine A_idxN1 rfl rfl rfl (by omega) ?_ | refine A_idx1 rfl rfl rfl (by omega) ?_
 | refine A_callV rfl rfl (fun s H => c_powN) ?_
 | refine A_fld rfl rfl ?_ | refine A_p (by rfl) rfl ?_
 | refine A_ldI rfl (by first | omega | (simp; done) | (simp; omega)) rfl ?_ | refine A_ldB rfl (by first | omega | (simp; done) | (simp; omega)) rfl ?_ | refine A_ld rfl (by rfl) rfl ?_
 | refine A_st rfl rfl rfl ?_ | refine A_stE rfl rfl (by first | omega | (simp; done) | (simp; omega)) rfl ?_
 | ((first | refine A_makeN rfl rfl rfl (by omega) ?_ | refine A_make rfl rfl rfl (by omega) ?_) <;> intro pz hpz)
 | refine A_ret1 rfl (by exact (RP.t rfl RP.nil)) ?_)
      refine R_n [pb] ⟨pb, rfl, ?_⟩
      rw [cimg, hlgS]
theorem c_l03ComeN {s : St} [Wf s] {q S : Nat} {re n T : Int} {id_xs off_xs len_xs : Nat} {xs : List Int} [hq : Ref s q [ic S, ic re, .sl id_xs off_xs len_xs]] [h_xs : ArgE ic s id_xs off_xs xs] (hv : VR S re xs) (hn : 1 ≤ n ∧ n ≤ 12) (hT : 0 ≤ T ∧ T ≤ 4) (hml : ¬ n + 2 * re * T ≤ most S 14 9) :
    FnV 107 [.c (.ptr q 0), iv n, iv T] s (.c (.sl 0 0 0)) := by
  have hm := re_mul hv.2.1 hT
  have hre := hv.2.1
  have hS := hv.1
  unfold most at hml
  refine F_start code107 ?_
  repeat' (first
 | refine A_go rfl ?_ | refine A_ifT rfl rfl ?_ | refine A_ifF rfl rfl ?_
 | refine A_add rfl rfl rfl (by omega) ?_ | refine A_mul rfl rfl rfl (by omega) ?_
 | ((first | refine A_lt rfl rfl rfl ?_ ?_ | refine A_gt rfl rfl rfl ?_ ?_ | refine A_eq rfl rfl rfl ?_ ?_) <;> intro hc <;> try first | contradiction | (exfalso; omega) | exact absurd rfl hc)
 | refine A_idxN1 rfl rfl rfl (by omega) ?_ | refine A_idx1 rfl rfl rfl (by omega) ?_
 | refine A_fld rfl rfl ?_ | refine A_p (by rfl) rfl ?_
 | refine A_ldI rfl (by first | omega | (simp; done) | (simp; omega)) rfl ?_ | refine A_ldB rfl (by first | omega | (simp; done) | (simp; omega)) rfl ?_ | refine A_ld rfl (by rfl) rfl ?_
 | refine A_st rfl rfl rfl ?_ | refine A_stE rfl rfl (by first | omega | (simp; done) | (simp; omega)) rfl ?_
 | ((first | refine A_makeN rfl rfl rfl (by omega) ?_ | refine A_make rfl rfl rfl (by omega) ?_) <;> intro pz hpz)
 | refine A_ret1 rfl (by exact (RP.t rfl RP.nil)) ?_)
  all_goals first | (exfalso; (first | rw [if_pos (by omega)] at hml | rw [if_neg (by omega)] at hml); omega) | exact R_v rfl

end Go.Proofs.Ytafdjnhlhepibaa
