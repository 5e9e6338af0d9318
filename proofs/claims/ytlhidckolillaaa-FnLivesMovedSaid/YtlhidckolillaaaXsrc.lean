/- Where the fields of the laws come from: choices out of bytes. -/
import Derived.Test.YtlhidckolillaaaXmade
import Derived.Test.YtlhidckolillaaaXfieldP
import Derived.Test.YtlhidckolillaaaXpart
import Derived.Test.YtlhidckolillaaaFB
namespace Go.Proofs.Ytlhidckolillaaa
open Go Go.RowKit
set_option linter.unusedVariables false
set_option linter.unusedSimpArgs false
set_option maxRecDepth 100000
set_option maxHeartbeats 8000000
-- spec.l00From
def L49 : AFun := ⟨6, [.t 2],
 (.seq (.ops false [⟨(some 2), .mv (.k (.c (.nilP))), none, []⟩])
 (.seq (.ops false [⟨(some 3), .mv (.t 0), none, []⟩,
   ⟨(some 4), .build [.sl 0 0 0, .int .i64 0, .int .u64 0] [(0, 1, (.t 3))], none, []⟩,
   ⟨(some 5), .box 94 (.t 4), none, []⟩,
   ⟨(some 2), .mv (.t 5), none, []⟩])
 .ret))⟩
theorem code49 : acode Try.prog hints 49 = some L49 := by kernel_rfl

-- (*spec.l00Src).next
def L86 : AFun := ⟨62, [.t 2],
 (.seq (.ops false [⟨(some 2), .mv (.k (iv 0)), none, []⟩])
 (.seq (.ops false [⟨(some 3), .mv (.k (iv 0)), none, []⟩])
 (.seq (.seq (.ops true [⟨(some 4), .mv (.t 0), none, []⟩,
    ⟨(some 5), .nilChk (.t 4), none, []⟩,
    ⟨(some 6), .fieldA 1 (.t 5), none, []⟩,
    ⟨(some 7), .load false 1 (.t 6), none, []⟩,
    ⟨(some 8), .mv (.t 0), none, []⟩,
    ⟨(some 9), .nilChk (.t 8), none, []⟩,
    ⟨(some 10), .fieldA 0 (.t 9), none, []⟩,
    ⟨(some 11), .load false 1 (.t 10), none, []⟩,
    ⟨(some 12), .len false (.t 11), none, []⟩,
    ⟨(some 13), .bin .lss (.t 7) (.t 12), none, []⟩])
  (.cond (.t 13) (.ops true [⟨(some 14), .mv (.t 0), none, []⟩,
    ⟨(some 15), .nilChk (.t 14), none, []⟩,
    ⟨(some 16), .fieldA 0 (.t 15), none, []⟩,
    ⟨(some 17), .load false 1 (.t 16), none, []⟩,
    ⟨(some 18), .mv (.t 0), none, []⟩,
    ⟨(some 19), .nilChk (.t 18), none, []⟩,
    ⟨(some 20), .fieldA 1 (.t 19), none, []⟩,
    ⟨(some 21), .load false 1 (.t 20), none, []⟩,
    ⟨(some 22), .idxA 1 (.t 17) (.t 21), none, []⟩,
    ⟨(some 23), .load false 1 (.t 22), none, []⟩,
    ⟨(some 24), .conv .i64 (.t 23), none, []⟩,
    ⟨(some 3), .mv (.t 24), none, []⟩])
   .skip))
 (.seq (.ops false [⟨(some 25), .mv (.t 0), none, []⟩,
   ⟨(some 26), .nilChk (.t 25), none, []⟩,
   ⟨(some 27), .fieldA 1 (.t 26), none, []⟩,
   ⟨(some 28), .load false 1 (.t 27), none, []⟩,
   ⟨(some 29), .bin .add (.t 28) (.k (iv 1)), none, []⟩,
   ⟨(some 30), .nilChk (.t 25), none, []⟩,
   ⟨(some 31), .fieldA 1 (.t 30), none, []⟩,
   ⟨none, .store 1 (.t 31) (.t 29), none, []⟩])
 (.seq (.ops false [⟨(some 32), .mv (.t 0), none, []⟩,
   ⟨(some 33), .mv (.t 0), none, []⟩,
   ⟨(some 34), .nilChk (.t 33), none, []⟩,
   ⟨(some 35), .fieldA 2 (.t 34), none, []⟩,
   ⟨(some 36), .load false 1 (.t 35), none, []⟩,
   ⟨(some 37), .bin .mul (.t 36) (.k (.c (.int .u64 6364136223846793005))), none, []⟩,
   ⟨(some 38), .mv (.t 3), none, []⟩,
   ⟨(some 39), .conv .u64 (.t 38), none, []⟩,
   ⟨(some 40), .bin .add (.t 37) (.t 39), none, []⟩,
   ⟨(some 41), .bin .add (.t 40) (.k (.c (.int .u64 1442695040888963407))), none, []⟩,
   ⟨(some 42), .nilChk (.t 32), none, []⟩,
   ⟨(some 43), .fieldA 2 (.t 42), none, []⟩,
   ⟨none, .store 1 (.t 43) (.t 41), none, []⟩])
 (.seq (.seq (.ops true [⟨(some 44), .mv (.t 0), none, []⟩,
    ⟨(some 45), .nilChk (.t 44), none, []⟩,
    ⟨(some 46), .fieldA 1 (.t 45), none, []⟩,
    ⟨(some 47), .load false 1 (.t 46), none, []⟩,
    ⟨(some 48), .mv (.t 0), none, []⟩,
    ⟨(some 49), .nilChk (.t 48), none, []⟩,
    ⟨(some 50), .fieldA 0 (.t 49), none, []⟩,
    ⟨(some 51), .load false 1 (.t 50), none, []⟩,
    ⟨(some 52), .len false (.t 51), none, []⟩,
    ⟨(some 53), .bin .leq (.t 47) (.t 52), none, []⟩])
  (.cond (.t 53) (.seq (.ops false [⟨(some 54), .mv (.t 3), none, []⟩,
     ⟨(some 2), .mv (.t 54), none, []⟩])
   .ret)
   .skip))
 (.seq (.ops false [⟨(some 55), .mv (.t 0), none, []⟩,
   ⟨(some 56), .nilChk (.t 55), none, []⟩,
   ⟨(some 57), .fieldA 2 (.t 56), none, []⟩,
   ⟨(some 58), .load false 1 (.t 57), none, []⟩,
   ⟨(some 59), .bin .shr (.t 58) (.k (.c (.int .u64 40))), none, []⟩,
   ⟨(some 60), .bin .and (.t 59) (.k (.c (.int .u64 255))), none, []⟩,
   ⟨(some 61), .conv .i64 (.t 60), none, []⟩,
   ⟨(some 2), .mv (.t 61), none, []⟩])
 .ret)))))))⟩
theorem code86 : acode Try.prog hints 86 = some L86 := by kernel_rfl

-- (*spec.l00Src).pick
def L67 : AFun := ⟨20, [.t 4],
 (.seq (.ops false [⟨(some 4), .mv (.k (iv 0)), none, []⟩])
 (.seq (.seq (.ops false [⟨(some 6), .mv (.t 1), none, []⟩,
    ⟨(some 7), .bin .leq (.t 6) (.k (iv 1)), none, []⟩])
  (.cond (.t 7) (.seq (.ops false [⟨(some 4), .mv (.k (iv 0)), none, []⟩])
   .ret)
   .skip))
 (.seq (.ops false [⟨(some 8), .mv (.t 0), none, []⟩,
   ⟨(some 9), .call (.f 86) [(.t 8)], none, []⟩,
   ⟨(some 5), .mv (.t 9), none, []⟩])
 (.seq (.seq (.ops false [⟨(some 10), .mv (.t 1), none, []⟩,
    ⟨(some 11), .bin .gtr (.t 10) (.k (iv 200)), none, []⟩])
  (.cond (.t 11) (.ops false [⟨(some 12), .mv (.t 5), none, []⟩,
    ⟨(some 13), .bin .mul (.t 12) (.k (iv 256)), none, []⟩,
    ⟨(some 14), .mv (.t 0), none, []⟩,
    ⟨(some 15), .call (.f 86) [(.t 14)], none, []⟩,
    ⟨(some 16), .bin .add (.t 13) (.t 15), none, []⟩,
    ⟨(some 5), .mv (.t 16), none, []⟩])
   .skip))
 (.seq (.ops false [⟨(some 17), .mv (.t 5), none, []⟩,
   ⟨(some 18), .mv (.t 1), none, []⟩,
   ⟨(some 19), .bin .rem (.t 17) (.t 18), none, []⟩,
   ⟨(some 4), .mv (.t 19), none, []⟩])
 .ret)))))⟩
theorem code67 : acode Try.prog hints 67 = some L67 := by kernel_rfl

-- laws.r8Long
def L16 : AFun := ⟨13, [.t 4],
 (.seq (.ops false [⟨(some 4), .mv (.k (bv false)), none, []⟩])
 (.seq (.ops false [⟨(some 5), .mv (.t 0), none, []⟩,
   ⟨(some 6), .len false (.t 5), none, []⟩,
   ⟨(some 7), .bin .gtr (.t 6) (.k (iv 48)), none, []⟩,
   ⟨(some 8), .mv (.t 7), none, []⟩,
   ⟨(some 9), .mv (.t 1), (some (8, false)), []⟩,
   ⟨(some 10), .len false (.t 9), (some (8, false)), []⟩,
   ⟨(some 11), .bin .gtr (.t 10) (.k (iv 48)), (some (8, false)), []⟩,
   ⟨(some 12), .pick (.t 8) (.k (bv true)) (.t 11), none, []⟩,
   ⟨(some 4), .mv (.t 12), none, []⟩])
 .ret))⟩
theorem code16 : acode Try.prog hints 16 = some L16 := by kernel_rfl

-- laws.r8At
def L19 : AFun := ⟨22, [.t 6],
 (.seq (.ops false [⟨(some 6), .mv (.k (iv 0)), none, []⟩])
 (.seq (.seq (.ops false [⟨(some 7), .mv (.t 2), none, []⟩,
    ⟨(some 8), .bin .leq (.t 7) (.k (iv 1)), none, []⟩,
    ⟨(some 9), .mv (.t 8), none, []⟩,
    ⟨(some 10), .mv (.t 1), (some (9, false)), []⟩,
    ⟨(some 11), .mv (.t 0), (some (9, false)), []⟩,
    ⟨(some 12), .len false (.t 11), (some (9, false)), []⟩,
    ⟨(some 13), .bin .geq (.t 10) (.t 12), (some (9, false)), []⟩,
    ⟨(some 14), .pick (.t 9) (.k (bv true)) (.t 13), none, []⟩])
  (.cond (.t 14) (.seq (.ops false [⟨(some 6), .mv (.k (iv 0)), none, []⟩])
   .ret)
   .skip))
 (.seq (.ops false [⟨(some 15), .mv (.t 0), none, []⟩,
   ⟨(some 16), .mv (.t 1), none, []⟩,
   ⟨(some 17), .idxA 1 (.t 15) (.t 16), none, []⟩,
   ⟨(some 18), .load false 1 (.t 17), none, []⟩,
   ⟨(some 19), .conv .i64 (.t 18), none, []⟩,
   ⟨(some 20), .mv (.t 2), none, []⟩,
   ⟨(some 21), .bin .rem (.t 19) (.t 20), none, []⟩,
   ⟨(some 6), .mv (.t 21), none, []⟩])
 .ret)))⟩
theorem code19 : acode Try.prog hints 19 = some L19 := by kernel_rfl


abbrev ub (n : Int) : AC := .int .u8 n
abbrev srcO (id off len : Nat) (at_ sd : Int) : AObj := .rw 94 3 [.sl id off len, ic at_, .int .u64 sd]
section
variable {B : List Nat} {b : St} {L L' : Objs} {l : List AStep} {hist : List Objs} {fr : Frm} {kk : KK} {d : Nat} {chk : List Nat} {g : Option (Nat × Bool)}
theorem A_mulU {x y : Opd} {a c : Int} (hx : ev fr x = some (.c (.int .u64 a))) (hy : ev fr y = some (.c (.int .u64 c))) (hg : gon fr g = some true) (h : ∀ v, At B b L l hist ((d, .c (.int .u64 v)) :: fr) kk) : At B b L (⟨some d, .bin .mul x y, g, chk⟩ :: l) hist fr kk :=
  A_p (v := .c (.int .u64 (IntKind.wrap .u64 (a * c)))) (by simp only [evP, hx, hy, Option.bind_some, binV, intBin]; simp) hg (h _)
theorem A_addU {x y : Opd} {a c : Int} (hx : ev fr x = some (.c (.int .u64 a))) (hy : ev fr y = some (.c (.int .u64 c))) (hg : gon fr g = some true) (h : ∀ v, At B b L l hist ((d, .c (.int .u64 v)) :: fr) kk) : At B b L (⟨some d, .bin .add x y, g, chk⟩ :: l) hist fr kk :=
  A_p (v := .c (.int .u64 (IntKind.wrap .u64 (a + c)))) (by simp only [evP, hx, hy, Option.bind_some, binV, intBin]; simp) hg (h _)
theorem A_shrU {x y : Opd} {a c : Int} {q : IntKind} (hx : ev fr x = some (.c (.int .u64 a))) (hy : ev fr y = some (.c (.int q c))) (hg : gon fr g = some true) (hc : 0 ≤ c) (h : ∀ v, At B b L l hist ((d, .c (.int .u64 v)) :: fr) kk) : At B b L (⟨some d, .bin .shr x y, g, chk⟩ :: l) hist fr kk :=
  A_p (v := .c (.int .u64 (a.fdiv (2 ^ min c.toNat (IntKind.bits .u64))))) (by simp only [evP, hx, hy, Option.bind_some, binV, intBin]; rw [if_neg (by omega)]; rfl) hg (h _)
theorem A_and255 {x : Opd} {a : Int} (hx : ev fr x = some (.c (.int .u64 a))) (hg : gon fr g = some true) (h : ∀ v, 0 ≤ v ∧ v ≤ 255 → At B b L l hist ((d, .c (.int .u64 v)) :: fr) kk) : At B b L (⟨some d, .bin .and x (.k (.c (.int .u64 255))), g, chk⟩ :: l) hist fr kk := by
  have hy : ev fr (.k (.c (.int .u64 255))) = some (.c (.int .u64 255)) := rfl
  refine A_p (v := .c (.int .u64 (IntKind.wrap .u64 ((BitVec.ofInt 64 a &&& BitVec.ofInt 64 255).toNat : Int)))) (by simp only [evP, hx, hy, Option.bind_some, binV, intBin, if_true]; rfl) hg (h _ ?_)
  have h1 : (BitVec.ofInt 64 a &&& BitVec.ofInt 64 255).toNat ≤ 255 := by
    rw [BitVec.toNat_and]
    exact Nat.le_trans Nat.and_le_right (by decide)
  generalize (BitVec.ofInt 64 a &&& BitVec.ofInt 64 255).toNat = n at h1
  have e : IntKind.wrap .u64 (n : Int) = n := by
    simp [IntKind.wrap, IntKind.bits, IntKind.signed]; omega
  rw [e]; omega
theorem A_convW {x : Opd} {a : Int} {q : IntKind} (hx : ev fr x = some (.c (.int q a))) (hg : gon fr g = some true) (ha : -9223372036854775808 ≤ a ∧ a ≤ 9223372036854775807)
    (h : At B b L l hist ((d, iv a) :: fr) kk) : At B b L (⟨some d, .conv .i64 x, g, chk⟩ :: l) hist fr kk := by
  refine A_p ?_ hg h
  simp only [evP, hx, Option.bind_some, convV]
  rw [wrap_in (by unfold in64; omega)]
theorem A_ldU {n : Nat} {x : Opd} {q off i : Nat} {xs : List Int} (hx : ev fr x = some (.c (.ptr q (off + i)))) [hl : LookE ub B b L q off xs] (hi : i < xs.length) (hg : gon fr g = some true) (h : At B b L l hist ((d, .c (ub (xs.getD i 0))) :: fr) kk) :
    At B b L (⟨some d, .load false n x, g, []⟩ :: l) hist fr kk :=
  .same (fun s hs K H h => O_load hx hg ((hl.h s H).rd (getD_some 0 hi)) h) h
end
theorem c_l00From {s : St} [Wf s] {id off len : Nat} : Fn [] 49 [.c (.sl id off len)] s fun R N => ∃ p, R = .c (.ptr p 0) ∧ 2 ≤ p ∧ N = [(p, srcO id off len 0 0)] := by
  refine F_start code49 ?_
  repeat' (first
 | refine A_go rfl ?_ | refine A_ifT rfl rfl ?_ | refine A_ifF rfl rfl ?_
 | refine A_mk3 rfl rfl rfl rfl ?_ | refine A_mk23 rfl rfl rfl ?_ | refine A_mk2 rfl rfl rfl ?_ | refine A_mk13 rfl rfl ?_ | refine A_p (by rfl) rfl ?_
 | ((first | refine A_box rfl rfl ?_ | refine A_boxC rfl rfl ?_) <;> intro pz hpz)
 | refine A_ret1 rfl (by exact (RP.t rfl RP.nil)) ?_)
  exact R_s ⟨pz, rfl, hpz, rfl⟩
theorem c_next {s : St} [Wf s] {p id off len : Nat} {at_ sd : Int} {ys : List Int} [hb : Bor s p (srcO id off len at_ sd)] [hy : ArgE ub s id off ys] (hl : ys.length = len) (hr : ∀ n ∈ ys, 0 ≤ n ∧ n ≤ 255) (hne : id ≠ p ∨ id ≤ 1) (hat : 0 ≤ at_ ∧ at_ ≤ 1000000000000) (hlen : len ≤ 1000000000000) :
    Fn [p] 86 [.c (.ptr p 0)] s fun R N => ∃ x sd', R = iv x ∧ (0 ≤ x ∧ x ≤ 255) ∧ N = [(p, srcO id off len (at_ + 1) sd')] := by
  haveI : NotIn id [p] := ⟨by rcases hne with h | h; exact .inl (by simpa using h); exact .inr h⟩
  refine F_start1 code86 ?_
  by_cases hin : at_ < len
  · obtain ⟨n, rfl⟩ : ∃ n : Nat, at_ = n := ⟨at_.toNat, by omega⟩
    have hbx := hr _ (getD_mem (d := 0) (by omega : n < ys.length))
    repeat' (first
 | refine A_go rfl ?_ | refine A_ifT rfl rfl ?_ | refine A_ifF rfl rfl ?_
 | refine A_add rfl rfl rfl (by omega) ?_ | refine A_mul rfl rfl rfl (by omega) ?_
 | ((first | refine A_lt rfl rfl rfl ?_ ?_ | refine A_le rfl rfl rfl ?_ ?_) <;> intro hc <;> try first | contradiction | (exfalso; omega) | exact absurd rfl hc)
 | refine A_idxN1 rfl rfl rfl (by omega) ?_ | refine A_idx1 rfl rfl rfl (by omega) ?_
 | refine A_ldU rfl (by omega) rfl ?_
 | refine A_convW rfl rfl (by omega) ?_
 | refine A_convU rfl rfl (by omega) ?_
 | (refine A_mulU rfl rfl rfl ?_ <;> intro v1)
 | (refine A_addU rfl rfl rfl ?_ <;> intro v2)
 | refine A_fld rfl rfl ?_ | refine A_p (by rfl) rfl ?_
 | refine A_ldI rfl (by first | omega | (simp; done) | (simp; omega)) rfl ?_ | refine A_ldB rfl (by first | omega | (simp; done) | (simp; omega)) rfl ?_ | refine A_ld rfl (by rfl) rfl ?_
 | refine A_st rfl rfl rfl ?_ | refine A_stE rfl rfl (by first | omega | (simp; done) | (simp; omega)) rfl ?_
 | refine A_ret1 rfl (by exact (RP.t rfl RP.nil)) ?_)
    all_goals exact R_n [p] ⟨_, _, rfl, by omega, rfl⟩
  · repeat' (first
 | refine A_go rfl ?_ | refine A_ifT rfl rfl ?_ | refine A_ifF rfl rfl ?_
 | refine A_add rfl rfl rfl (by omega) ?_ | refine A_mul rfl rfl rfl (by omega) ?_
 | ((first | refine A_lt rfl rfl rfl ?_ ?_ | refine A_le rfl rfl rfl ?_ ?_) <;> intro hc <;> try first | contradiction | (exfalso; omega) | exact absurd rfl hc)
 | refine A_idxN1 rfl rfl rfl (by omega) ?_ | refine A_idx1 rfl rfl rfl (by omega) ?_
 | refine A_convW rfl rfl (by omega) ?_
 | refine A_convU rfl rfl (by omega) ?_
 | (refine A_mulU rfl rfl rfl ?_ <;> intro v1)
 | (refine A_addU rfl rfl rfl ?_ <;> intro v2)
 | (refine A_shrU rfl rfl rfl (by omega) ?_ <;> intro v3)
 | (refine A_and255 rfl rfl ?_ <;> intro v4 hv4)
 | refine A_fld rfl rfl ?_ | refine A_p (by rfl) rfl ?_
 | refine A_ldI rfl (by first | omega | (simp; done) | (simp; omega)) rfl ?_ | refine A_ldB rfl (by first | omega | (simp; done) | (simp; omega)) rfl ?_ | refine A_ld rfl (by rfl) rfl ?_
 | refine A_st rfl rfl rfl ?_ | refine A_stE rfl rfl (by first | omega | (simp; done) | (simp; omega)) rfl ?_
 | refine A_ret1 rfl (by exact (RP.t rfl RP.nil)) ?_)
    all_goals exact R_n [p] ⟨_, _, rfl, by omega, rfl⟩
theorem c_pick {s : St} [Wf s] {p id off len : Nat} {at_ sd n : Int} {ys : List Int} [hb : Bor s p (srcO id off len at_ sd)] [hy : ArgE ub s id off ys] (hl : ys.length = len) (hr : ∀ n ∈ ys, 0 ≤ n ∧ n ≤ 255) (hne : id ≠ p ∨ id ≤ 1) (hat : 0 ≤ at_ ∧ at_ ≤ 100000000000) (hlen : len ≤ 1000000000000) (hn : 1 ≤ n ∧ n ≤ 1000000) :
    Fn [p] 67 [.c (.ptr p 0), iv n] s fun R N => ∃ x at' sd', R = iv x ∧ (0 ≤ x ∧ x < n) ∧ (at_ ≤ at' ∧ at' ≤ at_ + 2) ∧ N = [(p, srcO id off len at' sd')] := by
  haveI : NotIn id [p] := ⟨by rcases hne with h | h; exact .inl (by simpa using h); exact .inr h⟩
  refine F_start1 code67 ?_
  repeat' (first
 | refine A_go rfl ?_ | refine A_ifT rfl rfl ?_ | refine A_ifF rfl rfl ?_
 | refine A_add rfl rfl rfl (by omega) ?_ | refine A_mul rfl rfl rfl (by omega) ?_ | refine A_rem rfl rfl rfl (by omega) ?_ | refine A_remT rfl rfl rfl (by omega) ?_
 | ((first | refine A_le rfl rfl rfl ?_ ?_ | refine A_gt rfl rfl rfl ?_ ?_) <;> intro hc <;> try first | contradiction | (exfalso; omega) | exact absurd rfl hc)
 | (refine A_callM rfl rfl (fun s H => c_next (hl := hl) (hr := hr) (hne := hne) (hat := by omega) (hlen := hlen)) ?_; rintro _ _ ⟨x, sd, rfl, hxb, rfl⟩) | (refine A_callM0 rfl rfl (fun s H => c_next (hl := hl) (hr := hr) (hne := hne) (hat := by omega) (hlen := hlen)) ?_; rintro _ _ ⟨x, sd, rfl, hxb, rfl⟩)
 | refine A_p (by rfl) rfl ?_
 | refine A_ret1 rfl (by exact (RP.t rfl RP.nil)) ?_)
  all_goals first
    | exact R_n [p] ⟨_, at_, _, rfl, by omega, by omega, rfl⟩
    | exact R_n [p] ⟨_, at_ + 1, _, rfl, ⟨Int.emod_nonneg _ (by omega), Int.emod_lt_of_pos _ (by omega)⟩, by omega, rfl⟩
    | exact R_n [p] ⟨_, at_ + 1 + 1, _, rfl, ⟨Int.emod_nonneg _ (by omega), Int.emod_lt_of_pos _ (by omega)⟩, by omega, rfl⟩
theorem wfU8 {xs : List Int} (h : ∀ n ∈ xs, (Lit.int .u8 n).wf = true) : ∀ n ∈ xs, 0 ≤ n ∧ n ≤ 255 := fun n hn => by
  have := h n hn
  simp [Lit.wf, IntKind.min, IntKind.max, IntKind.signed, IntKind.bits] at this
  exact this
theorem c_r8Long {s : St} [Wf s] {i0 o0 n0 i1 o1 n1 : Nat} : FnB 16 [.c (.sl i0 o0 n0), .c (.sl i1 o1 n1)] s (48 < n0 ∨ 48 < n1) := by
  refine F_start code16 ?_
  repeat' (first
 | refine A_go rfl ?_ | refine A_ifT rfl rfl ?_ | refine A_ifF rfl rfl ?_
 | refine A_offP rfl rfl ?_ | refine A_offH rfl rfl ?_ | refine A_off0 rfl rfl ?_
 | ((first | refine A_gt rfl rfl rfl ?_ ?_) <;> intro hc <;> try first | contradiction | (exfalso; omega) | exact absurd rfl hc)
 | refine A_p (by rfl) rfl ?_
 | refine A_ret1 rfl (by exact (RP.t rfl RP.nil)) ?_)
  all_goals first | exact R_t (by omega) | exact R_f (by omega)
theorem c_r8At {s : St} [Wf s] {id off len : Nat} {k n : Int} {ys : List Int} [hy : ArgE ub s id off ys] (hl : ys.length = len) (hr : ∀ n ∈ ys, 0 ≤ n ∧ n ≤ 255) (hk : 0 ≤ k ∧ k ≤ 1000 := by omega) (hn : n ≤ 1000000 := by omega) :
    Fn [] 19 [.c (.sl id off len), iv k, iv n] s fun R N => (∃ x, R = iv x ∧ 0 ≤ x ∧ (1 ≤ n → x < n) ∧ (n ≤ 1 → x = 0)) ∧ N = [] := by
  refine F_start code19 ?_
  by_cases h1 : n ≤ 1
  · repeat' (first
 | refine A_go rfl ?_ | refine A_ifT rfl rfl ?_ | refine A_ifF rfl rfl ?_
 | refine A_offP rfl rfl ?_ | refine A_offH rfl rfl ?_ | refine A_off0 rfl rfl ?_
 | refine A_rem rfl rfl rfl (by omega) ?_ | refine A_remT rfl rfl rfl (by omega) ?_
 | ((first | refine A_le rfl rfl rfl ?_ ?_ | refine A_ge rfl rfl rfl ?_ ?_) <;> intro hc <;> try first | contradiction | (exfalso; omega) | exact absurd rfl hc)
 | refine A_idxN1 rfl rfl rfl (by omega) ?_ | refine A_idx1 rfl rfl rfl (by omega) ?_
 | refine A_p (by rfl) rfl ?_
 | refine A_ldI rfl (by first | omega | (simp; done) | (simp; omega)) rfl ?_ | refine A_ldB rfl (by first | omega | (simp; done) | (simp; omega)) rfl ?_ | refine A_ld rfl (by rfl) rfl ?_
 | refine A_ret1 rfl (by exact (RP.t rfl RP.nil)) ?_)
    exact R_s ⟨⟨0, rfl, by omega, by omega, by omega⟩, rfl⟩
  by_cases h2 : k < len
  · obtain ⟨j, rfl⟩ : ∃ j : Nat, k = j := ⟨k.toNat, by omega⟩
    have hb := hr _ (getD_mem (d := 0) (by omega : j < ys.length))
    repeat' (first
 | refine A_go rfl ?_ | refine A_ifT rfl rfl ?_ | refine A_ifF rfl rfl ?_
 | refine A_offP rfl rfl ?_ | refine A_offH rfl rfl ?_ | refine A_off0 rfl rfl ?_
 | refine A_rem rfl rfl rfl (by omega) ?_ | refine A_remT rfl rfl rfl (by omega) ?_
 | ((first | refine A_le rfl rfl rfl ?_ ?_ | refine A_ge rfl rfl rfl ?_ ?_) <;> intro hc <;> try first | contradiction | (exfalso; omega) | exact absurd rfl hc)
 | refine A_idxN1 rfl rfl rfl (by omega) ?_ | refine A_idx1 rfl rfl rfl (by omega) ?_
 | refine A_ldU rfl (by omega) rfl ?_
 | refine A_convW rfl rfl (by omega) ?_
 | refine A_p (by rfl) rfl ?_
 | refine A_ldI rfl (by first | omega | (simp; done) | (simp; omega)) rfl ?_ | refine A_ldB rfl (by first | omega | (simp; done) | (simp; omega)) rfl ?_ | refine A_ld rfl (by rfl) rfl ?_
 | refine A_ret1 rfl (by exact (RP.t rfl RP.nil)) ?_)
    exact R_s ⟨⟨_, rfl, Int.emod_nonneg _ (by omega), fun _ => Int.emod_lt_of_pos _ (by omega), by omega⟩, rfl⟩
  · repeat' (first
 | refine A_go rfl ?_ | refine A_ifT rfl rfl ?_ | refine A_ifF rfl rfl ?_
 | refine A_offP rfl rfl ?_ | refine A_offH rfl rfl ?_ | refine A_off0 rfl rfl ?_
 | refine A_rem rfl rfl rfl (by omega) ?_ | refine A_remT rfl rfl rfl (by omega) ?_
 | ((first | refine A_le rfl rfl rfl ?_ ?_ | refine A_ge rfl rfl rfl ?_ ?_) <;> intro hc <;> try first | contradiction | (exfalso; omega) | exact absurd rfl hc)
 | refine A_idxN1 rfl rfl rfl (by omega) ?_ | refine A_idx1 rfl rfl rfl (by omega) ?_
 | refine A_p (by rfl) rfl ?_
 | refine A_ldI rfl (by first | omega | (simp; done) | (simp; omega)) rfl ?_ | refine A_ldB rfl (by first | omega | (simp; done) | (simp; omega)) rfl ?_ | refine A_ld rfl (by rfl) rfl ?_
 | refine A_ret1 rfl (by exact (RP.t rfl RP.nil)) ?_)
    exact R_s ⟨⟨0, rfl, by omega, by omega, by omega⟩, rfl⟩
theorem A_neg {B : List Nat} {b : St} {L : Objs} {l : List AStep} {hist : List Objs} {fr : Frm} {kk : KK} {d : Nat} {chk : List Nat} {g : Option (Nat × Bool)} {x : Opd} {a : Int} (hx : ev fr x = some (iv a)) (hg : gon fr g = some true) (ha : -1000000000000 ≤ a ∧ a ≤ 1000000000000)
    (h : At B b L l hist ((d, iv (0 - a)) :: fr) kk) : At B b L (⟨some d, .un .neg x, g, chk⟩ :: l) hist fr kk := by
  refine A_p ?_ hg h
  simp only [evP, hx, Option.bind_some, unV, if_true]
  rw [wrap_in (by unfold in64; omega)]

end Go.Proofs.Ytlhidckolillaaa
