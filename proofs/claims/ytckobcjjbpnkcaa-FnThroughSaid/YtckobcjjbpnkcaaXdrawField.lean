/- Fields that are drawn by a seed and a share. -/
import Derived.Test.YtckobcjjbpnkcaaXfloats
import Derived.Test.YtckobcjjbpnkcaaXlend
import Derived.Test.YtckobcjjbpnkcaaXmadeField
import Derived.Test.YtckobcjjbpnkcaaXpart
import Derived.Test.YtckobcjjbpnkcaaFB
namespace Go.Proofs.Ytckobcjjbpnkcaa
open Go Go.RowKit
set_option linter.unusedVariables false
set_option linter.unusedSimpArgs false
set_option maxRecDepth 100000
set_option maxHeartbeats 8000000
-- impl.nextSeed
def L46 : AFun := ⟨7, [.t 2],
 (.seq (.ops false [⟨(some 2), .mv (.k (iv 0)), none, []⟩])
 (.seq (.ops false [⟨(some 3), .mv (.t 0), none, []⟩,
   ⟨(some 4), .bin .mul (.k (iv 1664525)) (.t 3), none, []⟩,
   ⟨(some 5), .bin .add (.t 4) (.k (iv 1013904223)), none, []⟩,
   ⟨(some 6), .bin .rem (.t 5) (.k (iv 4294967296)), none, []⟩,
   ⟨(some 2), .mv (.t 6), none, []⟩])
 .ret))⟩
theorem code46 : acode Try.prog hints 46 = some L46 := by kernel_rfl

-- impl.shareOf
def L48 : AFun := ⟨7, [.t 2],
 (.seq (.ops false [⟨(some 2), .mv (.k (.c (.float .f32 0))), none, []⟩])
 (.seq (.ops false [⟨(some 3), .mv (.t 0), none, []⟩,
   ⟨(some 4), .bin .quo (.t 3) (.k (iv 256)), none, []⟩,
   ⟨(some 5), .convF .f32 (.t 4), none, []⟩,
   ⟨(some 6), .bin .quo (.t 5) (.k (.c (.float .f32 1266679808))), none, []⟩,
   ⟨(some 2), .mv (.t 6), none, []⟩])
 .ret))⟩
theorem code48 : acode Try.prog hints 48 = some L48 := by kernel_rfl

-- impl.isSeed
def L43 : AFun := ⟨5, [.t 2],
 (.seq (.ops false [⟨(some 2), .mv (.k (bv false)), none, []⟩])
 (.seq (.ops false [⟨(some 3), .mv (.t 0), none, []⟩,
   ⟨(some 4), .call (.f 77) [(.t 3), (.k (iv 0)), (.k (iv 4294967295))], none, []⟩,
   ⟨(some 2), .mv (.t 4), none, []⟩])
 .ret))⟩
theorem code43 : acode Try.prog hints 43 = some L43 := by kernel_rfl

-- impl.isShare
def L42 : AFun := ⟨9, [.t 2],
 (.seq (.ops false [⟨(some 2), .mv (.k (bv false)), none, []⟩])
 (.seq (.ops false [⟨(some 3), .mv (.t 0), none, []⟩,
   ⟨(some 4), .bin .geq (.t 3) (.k (.c (.float .f32 0))), none, []⟩,
   ⟨(some 5), .mv (.t 4), none, []⟩,
   ⟨(some 6), .mv (.t 0), (some (5, true)), []⟩,
   ⟨(some 7), .bin .leq (.t 6) (.k (.c (.float .f32 1065353216))), (some (5, true)), []⟩,
   ⟨(some 8), .pick (.t 5) (.t 7) (.k (bv false)), none, []⟩,
   ⟨(some 2), .mv (.t 8), none, []⟩])
 .ret))⟩
theorem code42 : acode Try.prog hints 42 = some L42 := by kernel_rfl

-- spec.l02Share
def L38 : AFun := ⟨9, [.t 2],
 (.seq (.ops false [⟨(some 2), .mv (.k (bv false)), none, []⟩])
 (.seq (.ops false [⟨(some 3), .mv (.t 0), none, []⟩,
   ⟨(some 4), .bin .geq (.t 3) (.k (.c (.float .f32 0))), none, []⟩,
   ⟨(some 5), .mv (.t 4), none, []⟩,
   ⟨(some 6), .mv (.t 0), (some (5, true)), []⟩,
   ⟨(some 7), .bin .leq (.t 6) (.k (.c (.float .f32 1065353216))), (some (5, true)), []⟩,
   ⟨(some 8), .pick (.t 5) (.t 7) (.k (bv false)), none, []⟩,
   ⟨(some 2), .mv (.t 8), none, []⟩])
 .ret))⟩
theorem code38 : acode Try.prog hints 38 = some L38 := by kernel_rfl

-- impl.bit
def L47 : AFun := ⟨4, [.t 2],
 (.seq (.ops false [⟨(some 2), .mv (.k (iv 0)), none, []⟩])
 (.seq (.seq (.ops false [⟨(some 3), .mv (.t 0), none, []⟩])
  (.cond (.t 3) (.seq (.ops false [⟨(some 2), .mv (.k (iv 1)), none, []⟩])
   .ret)
   .skip))
 (.seq (.ops false [⟨(some 2), .mv (.k (iv 0)), none, []⟩])
 .ret)))⟩
theorem code47 : acode Try.prog hints 47 = some L47 := by kernel_rfl

-- impl.DrawField$1
def L45 : AFun := ⟨14, [.t 6],
 (.seq (.ops false [⟨(some 6), .mv (.k (iv 0)), none, []⟩])
 (.seq (.ops false [⟨(some 7), .load false 1 (.t 2), none, []⟩,
   ⟨(some 8), .call (.f 46) [(.t 7)], none, []⟩,
   ⟨none, .store 1 (.t 2) (.t 8), none, []⟩])
 (.seq (.ops true [⟨(some 9), .load false 1 (.t 2), none, []⟩,
   ⟨(some 10), .call (.f 48) [(.t 9)], none, []⟩,
   ⟨(some 11), .load false 1 (.t 3), none, [0]⟩,
   ⟨(some 12), .bin .lss (.t 10) (.t 11), none, []⟩,
   ⟨(some 13), .call (.f 47) [(.t 12)], none, []⟩,
   ⟨(some 6), .mv (.t 13), none, []⟩])
 .ret)))⟩
theorem code45 : acode Try.prog hints 45 = some L45 := by kernel_rfl

-- impl.DrawField
def L9 : AFun := ⟨37, [.cell true 3 8, .t 9, .t 10],
 (.seq (.ops false [⟨(some 6), .box 22 (.t 2), none, []⟩,
   ⟨(some 7), .box 2 (.t 3), none, []⟩,
   ⟨(some 8), .alloc 25 [.int .i64 0, .int .i64 0, .sl 0 0 0], none, []⟩,
   ⟨(some 9), .mv (.k (iv 0)), none, []⟩,
   ⟨(some 10), .mv (.k (bv false)), none, []⟩])
 (.seq (.seq (.ops false [⟨(some 12), .mv (.t 0), none, []⟩,
    ⟨(some 13), .call (.f 41) [(.t 12)], none, []⟩,
    ⟨(some 14), .un .not (.t 13), none, []⟩,
    ⟨(some 15), .mv (.t 14), none, []⟩,
    ⟨(some 16), .mv (.t 1), (some (15, false)), []⟩,
    ⟨(some 17), .call (.f 41) [(.t 16)], (some (15, false)), []⟩,
    ⟨(some 18), .un .not (.t 17), (some (15, false)), []⟩,
    ⟨(some 19), .pick (.t 15) (.k (bv true)) (.t 18), none, []⟩,
    ⟨(some 20), .mv (.t 19), none, []⟩,
    ⟨(some 21), .load false 1 (.t 6), (some (20, false)), []⟩,
    ⟨(some 22), .call (.f 42) [(.t 21)], (some (20, false)), []⟩,
    ⟨(some 23), .un .not (.t 22), (some (20, false)), []⟩,
    ⟨(some 24), .pick (.t 20) (.k (bv true)) (.t 23), none, []⟩,
    ⟨(some 25), .mv (.t 24), none, []⟩,
    ⟨(some 26), .load false 1 (.t 7), (some (25, false)), []⟩,
    ⟨(some 27), .call (.f 43) [(.t 26)], (some (25, false)), []⟩,
    ⟨(some 28), .un .not (.t 27), (some (25, false)), []⟩,
    ⟨(some 29), .pick (.t 25) (.k (bv true)) (.t 28), none, []⟩])
  (.cond (.t 29) (.seq (.ops false [⟨(some 30), .build [.int .i64 0, .int .i64 0, .sl 0 0 0] [], none, []⟩,
     ⟨none, .store 3 (.t 8) (.t 30), none, []⟩,
     ⟨(some 9), .mv (.k (iv 0)), none, []⟩,
     ⟨(some 10), .mv (.k (bv false)), none, []⟩])
   .ret)
   .skip))
 (.seq (.ops false [⟨(some 31), .mv (.t 0), none, []⟩,
   ⟨(some 32), .mv (.t 1), none, []⟩,
   ⟨(some 33), .mkFn 45 [(.t 7), (.t 6)], none, []⟩,
   ⟨(some 34), .call (.f 44) [(.t 31), (.t 32), (.t 33)], none, []⟩,
   ⟨(some 11), .alloc 25 [.int .i64 0, .int .i64 0, .sl 0 0 0], none, []⟩,
   ⟨none, .store 3 (.t 11) (.t 34), none, []⟩])
 (.seq (.ops true [⟨(some 35), .load true 3 (.t 11), none, []⟩,
   ⟨none, .store 3 (.t 8) (.t 35), none, []⟩,
   ⟨(some 36), .load false 1 (.t 7), none, [0]⟩,
   ⟨(some 9), .mv (.t 36), none, []⟩,
   ⟨(some 10), .mv (.k (bv true)), none, []⟩])
 .ret))))⟩
theorem code9 : acode Try.prog hints 9 = some L9 := by kernel_rfl

-- spec.DrawField
def L8 : AFun := ⟨54, [.cell true 3 8, .t 9, .t 10],
 (.seq (.ops false [⟨(some 8), .alloc 25 [.int .i64 0, .int .i64 0, .sl 0 0 0], none, []⟩,
   ⟨(some 9), .mv (.k (iv 0)), none, []⟩,
   ⟨(some 10), .mv (.k (bv false)), none, []⟩])
 (.seq (.seq (.ops false [⟨(some 13), .mv (.t 0), none, []⟩,
    ⟨(some 14), .mv (.t 1), none, []⟩,
    ⟨(some 15), .call (.f 37) [(.t 13), (.t 14)], none, []⟩,
    ⟨(some 16), .un .not (.t 15), none, []⟩,
    ⟨(some 17), .mv (.t 16), none, []⟩,
    ⟨(some 18), .mv (.t 2), (some (17, false)), []⟩,
    ⟨(some 19), .call (.f 38) [(.t 18)], (some (17, false)), []⟩,
    ⟨(some 20), .un .not (.t 19), (some (17, false)), []⟩,
    ⟨(some 21), .pick (.t 17) (.k (bv true)) (.t 20), none, []⟩,
    ⟨(some 22), .mv (.t 21), none, []⟩,
    ⟨(some 23), .mv (.t 3), (some (22, false)), []⟩,
    ⟨(some 24), .call (.f 39) [(.t 23), (.k (iv 0)), (.k (iv 4294967295))], (some (22, false)), []⟩,
    ⟨(some 25), .un .not (.t 24), (some (22, false)), []⟩,
    ⟨(some 26), .pick (.t 22) (.k (bv true)) (.t 25), none, []⟩])
  (.cond (.t 26) (.seq (.ops false [⟨(some 27), .build [.int .i64 0, .int .i64 0, .sl 0 0 0] [], none, []⟩,
     ⟨none, .store 3 (.t 8) (.t 27), none, []⟩,
     ⟨(some 9), .mv (.k (iv 0)), none, []⟩,
     ⟨(some 10), .mv (.k (bv false)), none, []⟩])
   .ret)
   .skip))
 (.seq (.ops false [⟨(some 28), .mv (.t 0), none, []⟩,
   ⟨(some 29), .mv (.t 1), none, []⟩,
   ⟨(some 30), .call (.f 40) [(.t 28), (.t 29)], none, []⟩,
   ⟨(some 11), .alloc 25 [.int .i64 0, .int .i64 0, .sl 0 0 0], none, []⟩,
   ⟨none, .store 3 (.t 11) (.t 30), none, []⟩])
 (.seq (.seq (.ops false [⟨(some 12), .mv (.k (iv 0)), none, []⟩])
  (.block 0 (.loop [2, 3, 8, 11, 12] (.seq (.seq (.ops false [⟨(some 31), .mv (.t 12), none, []⟩,
       ⟨(some 32), .fieldA 2 (.t 11), none, []⟩,
       ⟨(some 33), .load false 1 (.t 32), none, []⟩,
       ⟨(some 34), .len false (.t 33), none, []⟩,
       ⟨(some 35), .bin .lss (.t 31) (.t 34), none, []⟩])
     (.cond (.t 35) .skip
      (.exit 0)))
    (.seq (.block 1 (.seq (.ops false [⟨(some 38), .mv (.t 3), none, []⟩,
        ⟨(some 39), .bin .mul (.k (iv 1664525)) (.t 38), none, []⟩,
        ⟨(some 40), .bin .add (.t 39) (.k (iv 1013904223)), none, []⟩,
        ⟨(some 41), .bin .rem (.t 40) (.k (iv 4294967296)), none, []⟩,
        ⟨(some 3), .mv (.t 41), none, []⟩])
      (.seq (.ops false [⟨(some 42), .mv (.t 3), none, []⟩,
        ⟨(some 43), .bin .quo (.t 42) (.k (iv 256)), none, []⟩,
        ⟨(some 44), .convF .f32 (.t 43), none, []⟩,
        ⟨(some 45), .bin .quo (.t 44) (.k (.c (.float .f32 1266679808))), none, []⟩,
        ⟨(some 46), .mv (.t 2), none, []⟩,
        ⟨(some 47), .bin .lss (.t 45) (.t 46), none, []⟩])
      (.cond (.t 47) (.ops false [⟨(some 48), .fieldA 2 (.t 11), none, []⟩,
        ⟨(some 49), .load false 1 (.t 48), none, []⟩,
        ⟨(some 50), .mv (.t 12), none, []⟩,
        ⟨(some 51), .idxA 1 (.t 49) (.t 50), none, []⟩,
        ⟨none, .store 1 (.t 51) (.k (iv 1)), none, []⟩])
       .skip))))
    (.ops false [⟨(some 36), .mv (.t 12), none, []⟩,
     ⟨(some 37), .bin .add (.t 36) (.k (iv 1)), none, []⟩,
     ⟨(some 12), .mv (.t 37), none, []⟩]))))))
 (.seq (.ops false [⟨(some 52), .load true 3 (.t 11), none, []⟩,
   ⟨(some 53), .mv (.t 3), none, []⟩,
   ⟨none, .store 3 (.t 8) (.t 52), none, []⟩,
   ⟨(some 9), .mv (.t 53), none, []⟩,
   ⟨(some 10), .mv (.k (bv true)), none, []⟩])
 .ret)))))⟩
theorem code8 : acode Try.prog hints 8 = some L8 := by kernel_rfl


def nextS (x : Int) : Int := (1664525 * x + 1013904223) % 4294967296
theorem nextS_in {x : Int} : 0 ≤ nextS x ∧ nextS x ≤ 4294967295 := by unfold nextS; omega
def sdN (x : Int) : Nat → Int
  | 0 => x
  | n + 1 => nextS (sdN x n)
theorem sdN_in {x : Int} (h : 0 ≤ x ∧ x ≤ 4294967295) : ∀ n, 0 ≤ sdN x n ∧ sdN x n ≤ 4294967295
  | 0 => h
  | n + 1 => nextS_in
def flt (a b : Nat) : Bool := Ieee.Format.order Ieee.single a b == some .lt
noncomputable def drawC (sh : Nat) (x : Int) : Int := if flt (divV (x / 256)) sh = true then 1 else 0
noncomputable def drawL (sh : Nat) (x : Int) (n : Nat) : List Int := (List.range n).map fun i => drawC sh (sdN x (i + 1))
@[simp] theorem drawL_len {sh : Nat} {x : Int} {n : Nat} : (drawL sh x n).length = n := by simp [drawL]
theorem drawL_get {sh n i : Nat} {x : Int} (h : i < n) : (drawL sh x n).getD i 0 = drawC sh (sdN x (i + 1)) := getD_map_range h
def ShareP (sh : Nat) : Prop := ((Ieee.Format.order Ieee.single sh 0 == some .gt || Ieee.Format.order Ieee.single sh 0 == some .eq) && (Ieee.Format.order Ieee.single sh 1065353216 == some .lt || Ieee.Format.order Ieee.single sh 1065353216 == some .eq)) = true
section
variable {B : List Nat} {b : St} {L : Objs} {l : List AStep} {hist : List Objs} {fr : Frm} {kk : KK} {d : Nat} {chk : List Nat} {g : Option (Nat × Bool)}
theorem A_div24 {x : Opd} {n : Int} (hx : ev fr x = some (.c (.float .f32 (FloatKind.nearest .f32 n)))) (hg : gon fr g = some true) (hn : 0 ≤ n ∧ n < 16777216)
    (h : At B b L l hist ((d, .c (.float .f32 (divV n))) :: fr) kk) : At B b L (⟨some d, .bin .quo x (.k (.c (.float .f32 1266679808))), g, chk⟩ :: l) hist fr kk := by
  refine A_p ?_ hg h
  have hy : ev fr (.k (.c (.float .f32 1266679808))) = some (.c (.float .f32 1266679808)) := rfl
  simp only [evP, hx, hy, Option.bind_some, binV, if_true, floatBin]
  show Option.map AV.c ((Ieee.Format.div Ieee.single _ _).map _) = _
  rw [divV_eq hn]; rfl
theorem A_fltF {x y : Opd} {a c : Nat} (hx : ev fr x = some (.c (.float .f32 a))) (hy : ev fr y = some (.c (.float .f32 c))) (hg : gon fr g = some true)
    (h : At B b L l hist ((d, bv (flt a c)) :: fr) kk) : At B b L (⟨some d, .bin .lss x y, g, chk⟩ :: l) hist fr kk := by
  refine A_p ?_ hg h
  simp only [evP, hx, hy, Option.bind_some, binV, if_true, floatBin]
  rfl
theorem A_fgeF {x y : Opd} {a c : Nat} (hx : ev fr x = some (.c (.float .f32 a))) (hy : ev fr y = some (.c (.float .f32 c))) (hg : gon fr g = some true)
    (h : At B b L l hist ((d, bv (Ieee.Format.order Ieee.single a c == some .gt || Ieee.Format.order Ieee.single a c == some .eq)) :: fr) kk) : At B b L (⟨some d, .bin .geq x y, g, chk⟩ :: l) hist fr kk := by
  refine A_p ?_ hg h
  simp only [evP, hx, hy, Option.bind_some, binV, if_true, floatBin]
  rfl
theorem A_fleF {x y : Opd} {a c : Nat} (hx : ev fr x = some (.c (.float .f32 a))) (hy : ev fr y = some (.c (.float .f32 c))) (hg : gon fr g = some true)
    (h : At B b L l hist ((d, bv (Ieee.Format.order Ieee.single a c == some .lt || Ieee.Format.order Ieee.single a c == some .eq)) :: fr) kk) : At B b L (⟨some d, .bin .leq x y, g, chk⟩ :: l) hist fr kk := by
  refine A_p ?_ hg h
  simp only [evP, hx, hy, Option.bind_some, binV, if_true, floatBin]
  rfl
end
theorem c_nextSeed {s : St} [Wf s] {x : Int} (h : 0 ≤ x ∧ x ≤ 4294967295 := by omega) : FnV 46 [iv x] s (iv (nextS x)) := by
  refine F_start code46 ?_
  repeat' (first
 | refine A_go rfl ?_ | refine A_ifT rfl rfl ?_ | refine A_ifF rfl rfl ?_
 | refine A_add rfl rfl rfl (by omega) ?_ | refine A_mul rfl rfl rfl (by omega) ?_ | refine A_rem rfl rfl rfl (by omega) ?_ | refine A_remT rfl rfl rfl (by omega) ?_
 | refine A_p (by rfl) rfl ?_
 | refine A_ret1 rfl (by exact (RP.t rfl RP.nil)) ?_)
  exact R_v rfl
theorem c_shareOf {s : St} [Wf s] {x : Int} (h : 0 ≤ x ∧ x ≤ 4294967295 := by omega) : FnV 48 [iv x] s (.c (.float .f32 (divV (x / 256)))) := by
  refine F_start code48 ?_
  repeat' (first
 | refine A_go rfl ?_ | refine A_ifT rfl rfl ?_ | refine A_ifF rfl rfl ?_
 | refine A_quo rfl rfl rfl (by omega) ?_
 | refine A_div24 rfl rfl (by omega) ?_
 | refine A_p (by rfl) rfl ?_
 | refine A_ret1 rfl (by exact (RP.t rfl RP.nil)) ?_)
  exact R_v rfl
theorem c_isSeed {s : St} [Wf s] {x : Int} : FnB 43 [iv x] s (0 ≤ x ∧ x ≤ 4294967295) := by
  refine F_start code43 ?_
  repeat' (first
 | refine A_go rfl ?_ | refine A_ifT rfl rfl ?_ | refine A_ifF rfl rfl ?_
 | (refine A_callB rfl rfl (fun s H => c_within) ?_ ?_ <;> intro hc <;> try first | contradiction | (exfalso; omega) | exact absurd rfl hc | exact absurd (And.intro rfl rfl) hc | exact absurd (And.intro rfl (And.intro rfl rfl)) hc | exact absurd (Eq.trans (by assumption) (Eq.symm (by assumption))) hc)
 | refine A_p (by rfl) rfl ?_
 | refine A_ret1 rfl (by exact (RP.t rfl RP.nil)) ?_)
  · exact R_t hc
  · exact R_f hc
theorem R_b {p : Prop} {t : Bool} {L : Objs} (h : t = true ↔ p) : ∃ N, ((bv t : AV) = bv (tt p) ∧ N = []) ∧ Sub N L := by
  cases t with
  | true => exact R_t (h.1 rfl)
  | false => exact R_f fun k => by have := h.2 k; cases this
theorem c_isShare {s : St} [Wf s] {x : Nat} : FnB 42 [.c (.float .f32 x)] s (ShareP x) := by
  refine F_start code42 ?_
  cases h : (Ieee.Format.order Ieee.single x 0 == some .gt || Ieee.Format.order Ieee.single x 0 == some .eq) with
  | true =>
    repeat' (first
 | refine A_go rfl ?_ | refine A_ifT rfl rfl ?_ | refine A_ifF rfl rfl ?_
 | refine A_offP rfl rfl ?_ | refine A_offH rfl rfl ?_ | refine A_off0 rfl rfl ?_
 | ((first | refine A_le rfl rfl rfl ?_ ?_ | refine A_ge rfl rfl rfl ?_ ?_) <;> intro hc <;> try first | contradiction | (exfalso; omega) | exact absurd rfl hc)
 | refine A_fgeF rfl rfl rfl ?_
 | refine A_fleF rfl rfl rfl ?_
 | rw [h]
 | refine A_p (by rfl) rfl ?_
 | refine A_ret1 rfl (by exact (RP.t rfl RP.nil)) ?_)
    exact R_b (by unfold ShareP; rw [h, Bool.true_and])
  | false =>
    repeat' (first
 | refine A_go rfl ?_ | refine A_ifT rfl rfl ?_ | refine A_ifF rfl rfl ?_
 | refine A_offP rfl rfl ?_ | refine A_offH rfl rfl ?_ | refine A_off0 rfl rfl ?_
 | ((first | refine A_le rfl rfl rfl ?_ ?_ | refine A_ge rfl rfl rfl ?_ ?_) <;> intro hc <;> try first | contradiction | (exfalso; omega) | exact absurd rfl hc)
 | refine A_fgeF rfl rfl rfl ?_
 | refine A_fleF rfl rfl rfl ?_
 | rw [h]
 | refine A_p (by rfl) rfl ?_
 | refine A_ret1 rfl (by exact (RP.t rfl RP.nil)) ?_)
    exact R_f (by unfold ShareP; rw [h, Bool.false_and]; exact Bool.false_ne_true)
theorem c_l02Share {s : St} [Wf s] {x : Nat} : FnB 38 [.c (.float .f32 x)] s (ShareP x) := by
  refine F_start code38 ?_
  cases h : (Ieee.Format.order Ieee.single x 0 == some .gt || Ieee.Format.order Ieee.single x 0 == some .eq) with
  | true =>
    repeat' (first
 | refine A_go rfl ?_ | refine A_ifT rfl rfl ?_ | refine A_ifF rfl rfl ?_
 | refine A_offP rfl rfl ?_ | refine A_offH rfl rfl ?_ | refine A_off0 rfl rfl ?_
 | ((first | refine A_le rfl rfl rfl ?_ ?_ | refine A_ge rfl rfl rfl ?_ ?_) <;> intro hc <;> try first | contradiction | (exfalso; omega) | exact absurd rfl hc)
 | refine A_fgeF rfl rfl rfl ?_
 | refine A_fleF rfl rfl rfl ?_
 | rw [h]
 | refine A_p (by rfl) rfl ?_
 | refine A_ret1 rfl (by exact (RP.t rfl RP.nil)) ?_)
    exact R_b (by unfold ShareP; rw [h, Bool.true_and])
  | false =>
    repeat' (first
 | refine A_go rfl ?_ | refine A_ifT rfl rfl ?_ | refine A_ifF rfl rfl ?_
 | refine A_offP rfl rfl ?_ | refine A_offH rfl rfl ?_ | refine A_off0 rfl rfl ?_
 | ((first | refine A_le rfl rfl rfl ?_ ?_ | refine A_ge rfl rfl rfl ?_ ?_) <;> intro hc <;> try first | contradiction | (exfalso; omega) | exact absurd rfl hc)
 | refine A_fgeF rfl rfl rfl ?_
 | refine A_fleF rfl rfl rfl ?_
 | rw [h]
 | refine A_p (by rfl) rfl ?_
 | refine A_ret1 rfl (by exact (RP.t rfl RP.nil)) ?_)
    exact R_f (by unfold ShareP; rw [h, Bool.false_and]; exact Bool.false_ne_true)
theorem c_bitB {s : St} [Wf s] {t : Bool} : FnV 47 [bv t] s (iv (if t = true then 1 else 0)) := by
  refine F_start code47 ?_
  cases t with
  | true =>
    repeat' (first
 | refine A_go rfl ?_ | refine A_ifT rfl rfl ?_ | refine A_ifF rfl rfl ?_
 | refine A_p (by rfl) rfl ?_
 | refine A_ret1 rfl (by exact (RP.t rfl RP.nil)) ?_)
    exact R_v rfl
  | false =>
    repeat' (first
 | refine A_go rfl ?_ | refine A_ifT rfl rfl ?_ | refine A_ifF rfl rfl ?_
 | refine A_p (by rfl) rfl ?_
 | refine A_ret1 rfl (by exact (RP.t rfl RP.nil)) ?_)
    exact R_v rfl
/-- A field by a function that has a memory. -/
theorem c_madeFieldS {s : St} [Wf s] {r c : Nat} {fn : Nat} {caps : List (Nat × Nat)} {ids : List Nat} {N0 : Objs} (hO : Own ids s s N0) (Enc : Nat → Objs → Prop) (h0 : Enc 0 N0) (g : Nat → Int) (hr : r ≤ 24 ∧ c ≤ 24)
    (hdo : ∀ n, n < r * c → ∀ (i k : Nat) s1 M N, Own ids s s1 (M ++ N) → Enc n N → Own (N.map Prod.fst) s1 s1 N → Fn (N.map Prod.fst) fn ([iv i, iv k] ++ caps.map fun p => AV.c (.ptr p.1 p.2)) s1 fun v N' => v = iv (g n) ∧ Enc (n + 1) N') :
    Fn ids 44 [iv r, iv c, .c (.fn fn caps)] s fun R N => ∃ p N', R = .agg (fld r c p (r * c)) ∧ N = (p, ints ((List.range (r * c)).map g)) :: N' ∧ Enc (r * c) N' := by
  refine F_startB code44 hO ?_
  repeat' (first
 | refine A_go rfl ?_ | refine A_ifT rfl rfl ?_ | refine A_ifF rfl rfl ?_
 | refine A_add rfl rfl rfl (by omega) ?_
 | ((first | refine A_lt rfl rfl rfl ?_ ?_) <;> intro hc <;> try first | contradiction | (exfalso; omega) | exact absurd rfl hc)
 | refine A_fld rfl rfl ?_ | refine A_mk3 rfl rfl rfl rfl ?_ | refine A_mk23 rfl rfl rfl ?_ | refine A_mk2 rfl rfl rfl ?_ | refine A_mk13 rfl rfl ?_ | refine A_p (by rfl) rfl ?_
 | refine A_ldI rfl (by first | omega | (simp; done) | (simp; omega)) rfl ?_ | refine A_ldB rfl (by first | omega | (simp; done) | (simp; omega)) rfl ?_ | refine A_ld rfl (by rfl) rfl ?_
 | refine A_ldW rfl (by simp) rfl ?_
 | refine A_st rfl rfl rfl ?_ | refine A_stE rfl rfl (by first | omega | (simp; done) | (simp; omega)) rfl ?_
 | refine A_stW rfl rfl (by simp) rfl ?_
 | ((first | refine A_alloc rfl ?_ | refine A_bld1 rfl rfl ?_ | refine A_bld2 rfl rfl rfl ?_ | refine A_bld4 rfl rfl rfl rfl rfl ?_) <;> intro pz hpz)
 | refine A_bld0 rfl ?_
 | (refine A_app rfl rfl rfl (by first | omega | (simp; done) | (simp; omega)) (by first | omega | (simp; done) | (simp; omega)) (by omega) ?_; intro pz) | (refine A_appN (enc := ic) rfl (by decide) rfl rfl (by first | omega | (simp; done) | (simp; omega)) (by omega) ?_; intro pz)
 | refine A_chk1 rfl rfl rfl ?_ | refine A_chk2 rfl rfl rfl rfl ?_ | refine A_chk3 rfl rfl rfl rfl rfl ?_ | refine A_chk4 rfl rfl rfl rfl rfl rfl ?_ | refine A_chkI rfl (by assumption) rfl (by simp) ?_
 | refine A_ret1 rfl (by exact (RP.c rfl inferInstance rfl (by simp) RP.nil)) ?_)
  rename_i p6 h6
  obtain ⟨p7, hEq⟩ : ∃ p, p = pz := ⟨_, rfl⟩; subst hEq
  obtain ⟨zs, hzs⟩ : ∃ zs, (List.range (r * c)).map g = zs := ⟨_, rfl⟩
  have hzl : zs.length = r * c := by rw [← hzs]; simp
  have hzg : ∀ n, n < r * c → zs.getD n 0 = g n := fun n h => by rw [← hzs]; exact getD_map_range h
  have hz : ∀ n, n ≤ r * c → (zs.take n).length = n := fun n h => by simp; omega
  have hcc : r * c ≤ 576 := Nat.mul_le_mul hr.1 hr.2
  refine A_loopX rfl (fun m fr L => ∃ (i q : Nat) (ys : List Int) (N : Objs), m = r - i ∧ fr = [(1, iv c), (2, .c (.fn fn caps)), (6, .c (.ptr p6 0)), (7, .c (.ptr p7 0)), (13, iv r), (14, iv i)] ∧
    L = (p7, .rw 25 3 (fld r c q (i * c))) :: (p6, .rw 25 3 (fld 0 0 0 0)) :: (q, ints ys) :: N ∧ i ≤ r ∧ ys = zs.take (i * c) ∧ Enc (i * c) N) (n := r)
    ⟨(p7, .rw 25 3 (fld r c 0 0)) :: (p6, .rw 25 3 (fld 0 0 0 0)) :: (0, ints []) :: N0, ⟨0, 0, [], N0, rfl, rfl, by rw [Nat.zero_mul], by omega, by simp, by rw [Nat.zero_mul]; exact h0⟩, inferInstance⟩ ?_
  rintro m fr L ⟨i, q, ys, N, rfl, rfl, rfl, hi, hys, hN⟩
  by_cases hi' : i < r
  · repeat' (first
 | refine A_go rfl ?_ | refine A_ifT rfl rfl ?_ | refine A_ifF rfl rfl ?_
 | refine A_add rfl rfl rfl (by omega) ?_
 | ((first | refine A_lt rfl rfl rfl ?_ ?_) <;> intro hc <;> try first | contradiction | (exfalso; omega) | exact absurd rfl hc)
 | refine A_fld rfl rfl ?_ | refine A_mk3 rfl rfl rfl rfl ?_ | refine A_mk23 rfl rfl rfl ?_ | refine A_mk2 rfl rfl rfl ?_ | refine A_mk13 rfl rfl ?_ | refine A_p (by rfl) rfl ?_
 | refine A_ldI rfl (by first | omega | (simp; done) | (simp; omega)) rfl ?_ | refine A_ldB rfl (by first | omega | (simp; done) | (simp; omega)) rfl ?_ | refine A_ld rfl (by rfl) rfl ?_
 | refine A_ldW rfl (by simp) rfl ?_
 | refine A_st rfl rfl rfl ?_ | refine A_stE rfl rfl (by first | omega | (simp; done) | (simp; omega)) rfl ?_
 | refine A_stW rfl rfl (by simp) rfl ?_
 | ((first | refine A_alloc rfl ?_ | refine A_bld1 rfl rfl ?_ | refine A_bld2 rfl rfl rfl ?_ | refine A_bld4 rfl rfl rfl rfl rfl ?_) <;> intro pz hpz)
 | refine A_bld0 rfl ?_
 | (refine A_app rfl rfl rfl (by first | omega | (simp; done) | (simp; omega)) (by first | omega | (simp; done) | (simp; omega)) (by omega) ?_; intro pz) | (refine A_appN (enc := ic) rfl (by decide) rfl rfl (by first | omega | (simp; done) | (simp; omega)) (by omega) ?_; intro pz)
 | refine A_chk1 rfl rfl rfl ?_ | refine A_chk2 rfl rfl rfl rfl ?_ | refine A_chk3 rfl rfl rfl rfl rfl ?_ | refine A_chk4 rfl rfl rfl rfl rfl rfl ?_ | refine A_chkI rfl (by assumption) rfl (by simp) ?_
 | refine A_ret1 rfl (by exact (RP.c rfl inferInstance rfl (by simp) RP.nil)) ?_)
    refine A_loopX rfl (fun m fr L => ∃ (k q : Nat) (ys : List Int) (N : Objs), m = c - k ∧ fr = [(1, iv c), (2, .c (.fn fn caps)), (6, .c (.ptr p6 0)), (7, .c (.ptr p7 0)), (8, iv i), (13, iv r), (14, iv i), (17, iv c), (18, iv k)] ∧
      L = (p7, .rw 25 3 (fld r c q (i * c + k))) :: (p6, .rw 25 3 (fld 0 0 0 0)) :: (q, ints ys) :: N ∧ k ≤ c ∧ ys = zs.take (i * c + k) ∧ Enc (i * c + k) N) (n := c)
      ⟨_, ⟨0, q, ys, N, rfl, rfl, rfl, by omega, hys, hN⟩, inferInstance⟩ ?_
    rintro m fr L ⟨k, q, ys, N, rfl, rfl, rfl, hk, hys, hN⟩
    have hle : i * c + k ≤ r * c := by
      have : (i + 1) * c ≤ r * c := Nat.mul_le_mul_right c hi'
      rw [Nat.add_mul] at this; omega
    have hl : ys.length = i * c + k := by rw [hys]; exact hz _ hle
    by_cases hk' : k < c
    · have hlt : i * c + k < r * c := lt_mul hi' hk'
      repeat' (first
 | refine A_go rfl ?_ | refine A_ifT rfl rfl ?_ | refine A_ifF rfl rfl ?_
 | refine A_add rfl rfl rfl (by omega) ?_
 | ((first | refine A_lt rfl rfl rfl ?_ ?_) <;> intro hc <;> try first | contradiction | (exfalso; omega) | exact absurd rfl hc)
 | refine A_fld rfl rfl ?_ | refine A_mk3 rfl rfl rfl rfl ?_ | refine A_mk23 rfl rfl rfl ?_ | refine A_mk2 rfl rfl rfl ?_ | refine A_mk13 rfl rfl ?_ | refine A_p (by rfl) rfl ?_
 | refine A_ldI rfl (by first | omega | (simp; done) | (simp; omega)) rfl ?_ | refine A_ldB rfl (by first | omega | (simp; done) | (simp; omega)) rfl ?_ | refine A_ld rfl (by rfl) rfl ?_
 | refine A_ldW rfl (by simp) rfl ?_
 | refine A_st rfl rfl rfl ?_ | refine A_stE rfl rfl (by first | omega | (simp; done) | (simp; omega)) rfl ?_
 | refine A_stW rfl rfl (by simp) rfl ?_
 | ((first | refine A_alloc rfl ?_ | refine A_bld1 rfl rfl ?_ | refine A_bld2 rfl rfl rfl ?_ | refine A_bld4 rfl rfl rfl rfl rfl ?_) <;> intro pz hpz)
 | refine A_bld0 rfl ?_
 | (refine A_app rfl rfl rfl (by first | omega | (simp; done) | (simp; omega)) (by first | omega | (simp; done) | (simp; omega)) (by omega) ?_; intro pz) | (refine A_appN (enc := ic) rfl (by decide) rfl rfl (by first | omega | (simp; done) | (simp; omega)) (by omega) ?_; intro pz)
 | refine A_chk1 rfl rfl rfl ?_ | refine A_chk2 rfl rfl rfl rfl ?_ | refine A_chk3 rfl rfl rfl rfl rfl ?_ | refine A_chk4 rfl rfl rfl rfl rfl rfl ?_ | refine A_chkI rfl (by assumption) rfl (by simp) ?_
 | refine A_ret1 rfl (by exact (RP.c rfl inferInstance rfl (by simp) RP.nil)) ?_)
      refine A_callI (M := [(p7, .rw 25 3 (fld r c q (i * c + k))), (p6, .rw 25 3 (fld 0 0 0 0)), (q, ints ys)]) (N := N) rfl rfl rfl (fun s' H K => hdo (i * c + k) hlt i k s' _ N H hN K) ?_
      rintro _ N' ⟨rfl, hN'⟩
      repeat' (first
 | refine A_go rfl ?_ | refine A_ifT rfl rfl ?_ | refine A_ifF rfl rfl ?_
 | refine A_add rfl rfl rfl (by omega) ?_
 | ((first | refine A_lt rfl rfl rfl ?_ ?_) <;> intro hc <;> try first | contradiction | (exfalso; omega) | exact absurd rfl hc)
 | refine A_fld rfl rfl ?_ | refine A_mk3 rfl rfl rfl rfl ?_ | refine A_mk23 rfl rfl rfl ?_ | refine A_mk2 rfl rfl rfl ?_ | refine A_mk13 rfl rfl ?_ | refine A_p (by rfl) rfl ?_
 | refine A_ldI rfl (by first | omega | (simp; done) | (simp; omega)) rfl ?_ | refine A_ldB rfl (by first | omega | (simp; done) | (simp; omega)) rfl ?_ | refine A_ld rfl (by rfl) rfl ?_
 | refine A_ldW rfl (by simp) rfl ?_
 | refine A_st rfl rfl rfl ?_ | refine A_stE rfl rfl (by first | omega | (simp; done) | (simp; omega)) rfl ?_
 | refine A_stW rfl rfl (by simp) rfl ?_
 | ((first | refine A_alloc rfl ?_ | refine A_bld1 rfl rfl ?_ | refine A_bld2 rfl rfl rfl ?_ | refine A_bld4 rfl rfl rfl rfl rfl ?_) <;> intro pz hpz)
 | refine A_bld0 rfl ?_
 | (refine A_app rfl rfl rfl (by first | omega | (simp; done) | (simp; omega)) (by first | omega | (simp; done) | (simp; omega)) (by omega) ?_; intro pz) | (refine A_appN (enc := ic) rfl (by decide) rfl rfl (by first | omega | (simp; done) | (simp; omega)) (by omega) ?_; intro pz)
 | refine A_chk1 rfl rfl rfl ?_ | refine A_chk2 rfl rfl rfl rfl ?_ | refine A_chk3 rfl rfl rfl rfl rfl ?_ | refine A_chk4 rfl rfl rfl rfl rfl rfl ?_ | refine A_chkI rfl (by assumption) rfl (by simp) ?_
 | refine A_ret1 rfl (by exact (RP.c rfl inferInstance rfl (by simp) RP.nil)) ?_)
      refine A_roundX rfl ⟨c - (k + 1), (p7, .rw 25 3 (fld r c pz (i * c + k + 1))) :: (p6, .rw 25 3 (fld 0 0 0 0)) :: (pz, ints (ys ++ [g (i * c + k)])) :: N', by omega, ⟨k + 1, pz, _, N', rfl, rfl, rfl, by omega, ?_, hN'⟩, inferInstance⟩
      rw [hys, ← hzg _ hlt, show i * c + (k + 1) = i * c + k + 1 by omega, List.take_add_one, getD_some 0 (by omega)]; rfl
    · have e : i * c + k = (i + 1) * c := by rw [Nat.add_mul]; omega
      repeat' (first
 | refine A_go rfl ?_ | refine A_ifT rfl rfl ?_ | refine A_ifF rfl rfl ?_
 | refine A_add rfl rfl rfl (by omega) ?_
 | ((first | refine A_lt rfl rfl rfl ?_ ?_) <;> intro hc <;> try first | contradiction | (exfalso; omega) | exact absurd rfl hc)
 | refine A_fld rfl rfl ?_ | refine A_mk3 rfl rfl rfl rfl ?_ | refine A_mk23 rfl rfl rfl ?_ | refine A_mk2 rfl rfl rfl ?_ | refine A_mk13 rfl rfl ?_ | refine A_p (by rfl) rfl ?_
 | refine A_ldI rfl (by first | omega | (simp; done) | (simp; omega)) rfl ?_ | refine A_ldB rfl (by first | omega | (simp; done) | (simp; omega)) rfl ?_ | refine A_ld rfl (by rfl) rfl ?_
 | refine A_ldW rfl (by simp) rfl ?_
 | refine A_st rfl rfl rfl ?_ | refine A_stE rfl rfl (by first | omega | (simp; done) | (simp; omega)) rfl ?_
 | refine A_stW rfl rfl (by simp) rfl ?_
 | ((first | refine A_alloc rfl ?_ | refine A_bld1 rfl rfl ?_ | refine A_bld2 rfl rfl rfl ?_ | refine A_bld4 rfl rfl rfl rfl rfl ?_) <;> intro pz hpz)
 | refine A_bld0 rfl ?_
 | (refine A_app rfl rfl rfl (by first | omega | (simp; done) | (simp; omega)) (by first | omega | (simp; done) | (simp; omega)) (by omega) ?_; intro pz) | (refine A_appN (enc := ic) rfl (by decide) rfl rfl (by first | omega | (simp; done) | (simp; omega)) (by omega) ?_; intro pz)
 | refine A_chk1 rfl rfl rfl ?_ | refine A_chk2 rfl rfl rfl rfl ?_ | refine A_chk3 rfl rfl rfl rfl rfl ?_ | refine A_chk4 rfl rfl rfl rfl rfl rfl ?_ | refine A_chkI rfl (by assumption) rfl (by simp) ?_
 | refine A_ret1 rfl (by exact (RP.c rfl inferInstance rfl (by simp) RP.nil)) ?_)
      rw [e] at hys hN ⊢
      refine A_roundX rfl ⟨r - (i + 1), (p7, .rw 25 3 (fld r c q ((i + 1) * c))) :: (p6, .rw 25 3 (fld 0 0 0 0)) :: (q, ints ys) :: N, by omega, ⟨i + 1, q, ys, N, rfl, rfl, rfl, by omega, hys, hN⟩, inferInstance⟩
  · have hi' : i = r := by omega
    subst hi'
    repeat' (first
 | refine A_go rfl ?_ | refine A_ifT rfl rfl ?_ | refine A_ifF rfl rfl ?_
 | refine A_add rfl rfl rfl (by omega) ?_
 | ((first | refine A_lt rfl rfl rfl ?_ ?_) <;> intro hc <;> try first | contradiction | (exfalso; omega) | exact absurd rfl hc)
 | refine A_fld rfl rfl ?_ | refine A_mk3 rfl rfl rfl rfl ?_ | refine A_mk23 rfl rfl rfl ?_ | refine A_mk2 rfl rfl rfl ?_ | refine A_mk13 rfl rfl ?_ | refine A_p (by rfl) rfl ?_
 | refine A_ldI rfl (by first | omega | (simp; done) | (simp; omega)) rfl ?_ | refine A_ldB rfl (by first | omega | (simp; done) | (simp; omega)) rfl ?_ | refine A_ld rfl (by rfl) rfl ?_
 | refine A_ldW rfl (by simp) rfl ?_
 | refine A_st rfl rfl rfl ?_ | refine A_stE rfl rfl (by first | omega | (simp; done) | (simp; omega)) rfl ?_
 | refine A_stW rfl rfl (by simp) rfl ?_
 | ((first | refine A_alloc rfl ?_ | refine A_bld1 rfl rfl ?_ | refine A_bld2 rfl rfl rfl ?_ | refine A_bld4 rfl rfl rfl rfl rfl ?_) <;> intro pz hpz)
 | refine A_bld0 rfl ?_
 | (refine A_app rfl rfl rfl (by first | omega | (simp; done) | (simp; omega)) (by first | omega | (simp; done) | (simp; omega)) (by omega) ?_; intro pz) | (refine A_appN (enc := ic) rfl (by decide) rfl rfl (by first | omega | (simp; done) | (simp; omega)) (by omega) ?_; intro pz)
 | refine A_chk1 rfl rfl rfl ?_ | refine A_chk2 rfl rfl rfl rfl ?_ | refine A_chk3 rfl rfl rfl rfl rfl ?_ | refine A_chk4 rfl rfl rfl rfl rfl rfl ?_ | refine A_chkI rfl (by assumption) rfl (by simp) ?_
 | refine A_ret1 rfl (by exact (RP.c rfl inferInstance rfl (by simp) RP.nil)) ?_)
    refine ⟨(q, ints ys) :: N, ⟨q, N, rfl, ?_, hN⟩, inferInstance⟩
    rw [hzs, hys, List.take_of_length_le (by omega)]
theorem c_draw1 {s : St} [Wf s] {ps ph : Nat} {sh : Nat} {x i k : Int} (hO : Own [ps, ph] s s [(ps, .rw 2 1 [ic x]), (ph, .rw 22 1 [.float .f32 sh])]) (hx : 0 ≤ x ∧ x ≤ 4294967295) :
    Fn [ps, ph] 45 [iv i, iv k, .c (.ptr ps 0), .c (.ptr ph 0)] s fun v N => v = iv (drawC sh (nextS x)) ∧ N = [(ps, .rw 2 1 [ic (nextS x)]), (ph, .rw 22 1 [.float .f32 sh])] := by
  have h2 := nextS_in (x := x)
  refine F_startB code45 hO ?_
  repeat' (first
 | refine A_go rfl ?_ | refine A_ifT rfl rfl ?_ | refine A_ifF rfl rfl ?_
 | ((first | refine A_lt rfl rfl rfl ?_ ?_) <;> intro hc <;> try first | contradiction | (exfalso; omega) | exact absurd rfl hc)
 | refine A_callV rfl rfl (fun s H => c_nextSeed) ?_
 | refine A_callV rfl rfl (fun s H => c_shareOf) ?_
 | refine A_callV rfl rfl (fun s H => c_bitB) ?_
 | refine A_fltF rfl rfl rfl ?_
 | refine A_p (by rfl) rfl ?_
 | refine A_ldI rfl (by first | omega | (simp; done) | (simp; omega)) rfl ?_ | refine A_ldB rfl (by first | omega | (simp; done) | (simp; omega)) rfl ?_ | refine A_ld rfl (by rfl) rfl ?_
 | refine A_st rfl rfl rfl ?_ | refine A_stE rfl rfl (by first | omega | (simp; done) | (simp; omega)) rfl ?_
 | refine A_chk1 rfl rfl rfl ?_ | refine A_chk2 rfl rfl rfl rfl ?_ | refine A_chk3 rfl rfl rfl rfl rfl ?_ | refine A_chk4 rfl rfl rfl rfl rfl rfl ?_ | refine A_chkI rfl (by assumption) rfl (by simp) ?_
 | refine A_ret1 rfl (by exact (RP.t rfl RP.nil)) ?_)
  exact R_n [ps, ph] ⟨rfl, rfl⟩
abbrev DrawP (r c : Int) (sh : Nat) (x : Int) : Prop := ((1 ≤ r ∧ r ≤ 24) ∧ 1 ≤ c ∧ c ≤ 24) ∧ ShareP sh ∧ 0 ≤ x ∧ x ≤ 4294967295
theorem c_implDrawField {s : St} [Wf s] {r c x : Int} {sh : Nat} : Fn [] 9 [iv r, iv c, .c (.float .f32 sh), iv x] s (FldNum (DrawP r c sh x) r c (drawL sh x (r.toNat * c.toNat)) (sdN x (r.toNat * c.toNat))) := by
  refine F_start code9 ?_
  by_cases h1 : (1 ≤ r ∧ r ≤ 24) ∧ 1 ≤ c ∧ c ≤ 24
  case neg =>
    repeat' (first
 | refine A_go rfl ?_ | refine A_ifT rfl rfl ?_ | refine A_ifF rfl rfl ?_
 | refine A_offP rfl rfl ?_ | refine A_offH rfl rfl ?_ | refine A_off0 rfl rfl ?_
 | (refine A_callB rfl rfl (fun s H => c_isSide) ?_ ?_ <;> intro hc <;> try first | contradiction | (exfalso; omega) | exact absurd rfl hc | exact absurd (And.intro rfl rfl) hc | exact absurd (And.intro rfl (And.intro rfl rfl)) hc | exact absurd (Eq.trans (by assumption) (Eq.symm (by assumption))) hc)
 | (refine A_callB rfl rfl (fun s H => c_isShare) ?_ ?_ <;> intro hc <;> try first | contradiction | (exfalso; omega) | exact absurd rfl hc | exact absurd (And.intro rfl rfl) hc | exact absurd (And.intro rfl (And.intro rfl rfl)) hc | exact absurd (Eq.trans (by assumption) (Eq.symm (by assumption))) hc)
 | (refine A_callB rfl rfl (fun s H => c_isSeed) ?_ ?_ <;> intro hc <;> try first | contradiction | (exfalso; omega) | exact absurd rfl hc | exact absurd (And.intro rfl rfl) hc | exact absurd (And.intro rfl (And.intro rfl rfl)) hc | exact absurd (Eq.trans (by assumption) (Eq.symm (by assumption))) hc)
 | refine A_mk3 rfl rfl rfl rfl ?_ | refine A_mk23 rfl rfl rfl ?_ | refine A_mk2 rfl rfl rfl ?_ | refine A_mk13 rfl rfl ?_ | refine A_p (by rfl) rfl ?_
 | refine A_ldI rfl (by first | omega | (simp; done) | (simp; omega)) rfl ?_ | refine A_ldB rfl (by first | omega | (simp; done) | (simp; omega)) rfl ?_ | refine A_ld rfl (by rfl) rfl ?_
 | refine A_ldW rfl (by simp) rfl ?_
 | refine A_stW rfl rfl (by simp) rfl ?_
 | ((first | refine A_alloc rfl ?_ | refine A_box rfl rfl ?_ | refine A_boxC rfl rfl ?_) <;> intro pz hpz)
 | refine A_chk1 rfl rfl rfl ?_ | refine A_chk2 rfl rfl rfl rfl ?_ | refine A_chk3 rfl rfl rfl rfl rfl ?_ | refine A_chk4 rfl rfl rfl rfl rfl rfl ?_ | refine A_chkI rfl (by assumption) rfl (by simp) ?_
 | refine A_ret rfl (by exact (RP.c rfl inferInstance rfl (by simp) (RP.t rfl (RP.t rfl RP.nil)))) ?_)
    all_goals exact R_fldNumN fun h => h1 h.1
  by_cases h2 : ShareP sh
  case neg =>
    repeat' (first
 | refine A_go rfl ?_ | refine A_ifT rfl rfl ?_ | refine A_ifF rfl rfl ?_
 | refine A_offP rfl rfl ?_ | refine A_offH rfl rfl ?_ | refine A_off0 rfl rfl ?_
 | (refine A_callB rfl rfl (fun s H => c_isSide) ?_ ?_ <;> intro hc <;> try first | contradiction | (exfalso; omega) | exact absurd rfl hc | exact absurd (And.intro rfl rfl) hc | exact absurd (And.intro rfl (And.intro rfl rfl)) hc | exact absurd (Eq.trans (by assumption) (Eq.symm (by assumption))) hc)
 | (refine A_callB rfl rfl (fun s H => c_isShare) ?_ ?_ <;> intro hc <;> try first | contradiction | (exfalso; omega) | exact absurd rfl hc | exact absurd (And.intro rfl rfl) hc | exact absurd (And.intro rfl (And.intro rfl rfl)) hc | exact absurd (Eq.trans (by assumption) (Eq.symm (by assumption))) hc)
 | (refine A_callB rfl rfl (fun s H => c_isSeed) ?_ ?_ <;> intro hc <;> try first | contradiction | (exfalso; omega) | exact absurd rfl hc | exact absurd (And.intro rfl rfl) hc | exact absurd (And.intro rfl (And.intro rfl rfl)) hc | exact absurd (Eq.trans (by assumption) (Eq.symm (by assumption))) hc)
 | refine A_mk3 rfl rfl rfl rfl ?_ | refine A_mk23 rfl rfl rfl ?_ | refine A_mk2 rfl rfl rfl ?_ | refine A_mk13 rfl rfl ?_ | refine A_p (by rfl) rfl ?_
 | refine A_ldI rfl (by first | omega | (simp; done) | (simp; omega)) rfl ?_ | refine A_ldB rfl (by first | omega | (simp; done) | (simp; omega)) rfl ?_ | refine A_ld rfl (by rfl) rfl ?_
 | refine A_ldW rfl (by simp) rfl ?_
 | refine A_stW rfl rfl (by simp) rfl ?_
 | ((first | refine A_alloc rfl ?_ | refine A_box rfl rfl ?_ | refine A_boxC rfl rfl ?_) <;> intro pz hpz)
 | refine A_chk1 rfl rfl rfl ?_ | refine A_chk2 rfl rfl rfl rfl ?_ | refine A_chk3 rfl rfl rfl rfl rfl ?_ | refine A_chk4 rfl rfl rfl rfl rfl rfl ?_ | refine A_chkI rfl (by assumption) rfl (by simp) ?_
 | refine A_ret rfl (by exact (RP.c rfl inferInstance rfl (by simp) (RP.t rfl (RP.t rfl RP.nil)))) ?_)
    all_goals exact R_fldNumN fun h => h2 h.2.1
  by_cases h3 : 0 ≤ x ∧ x ≤ 4294967295
  case neg =>
    repeat' (first
 | refine A_go rfl ?_ | refine A_ifT rfl rfl ?_ | refine A_ifF rfl rfl ?_
 | refine A_offP rfl rfl ?_ | refine A_offH rfl rfl ?_ | refine A_off0 rfl rfl ?_
 | (refine A_callB rfl rfl (fun s H => c_isSide) ?_ ?_ <;> intro hc <;> try first | contradiction | (exfalso; omega) | exact absurd rfl hc | exact absurd (And.intro rfl rfl) hc | exact absurd (And.intro rfl (And.intro rfl rfl)) hc | exact absurd (Eq.trans (by assumption) (Eq.symm (by assumption))) hc)
 | (refine A_callB rfl rfl (fun s H => c_isShare) ?_ ?_ <;> intro hc <;> try first | contradiction | (exfalso; omega) | exact absurd rfl hc | exact absurd (And.intro rfl rfl) hc | exact absurd (And.intro rfl (And.intro rfl rfl)) hc | exact absurd (Eq.trans (by assumption) (Eq.symm (by assumption))) hc)
 | (refine A_callB rfl rfl (fun s H => c_isSeed) ?_ ?_ <;> intro hc <;> try first | contradiction | (exfalso; omega) | exact absurd rfl hc | exact absurd (And.intro rfl rfl) hc | exact absurd (And.intro rfl (And.intro rfl rfl)) hc | exact absurd (Eq.trans (by assumption) (Eq.symm (by assumption))) hc)
 | refine A_mk3 rfl rfl rfl rfl ?_ | refine A_mk23 rfl rfl rfl ?_ | refine A_mk2 rfl rfl rfl ?_ | refine A_mk13 rfl rfl ?_ | refine A_p (by rfl) rfl ?_
 | refine A_ldI rfl (by first | omega | (simp; done) | (simp; omega)) rfl ?_ | refine A_ldB rfl (by first | omega | (simp; done) | (simp; omega)) rfl ?_ | refine A_ld rfl (by rfl) rfl ?_
 | refine A_ldW rfl (by simp) rfl ?_
 | refine A_stW rfl rfl (by simp) rfl ?_
 | ((first | refine A_alloc rfl ?_ | refine A_box rfl rfl ?_ | refine A_boxC rfl rfl ?_) <;> intro pz hpz)
 | refine A_chk1 rfl rfl rfl ?_ | refine A_chk2 rfl rfl rfl rfl ?_ | refine A_chk3 rfl rfl rfl rfl rfl ?_ | refine A_chk4 rfl rfl rfl rfl rfl rfl ?_ | refine A_chkI rfl (by assumption) rfl (by simp) ?_
 | refine A_ret rfl (by exact (RP.c rfl inferInstance rfl (by simp) (RP.t rfl (RP.t rfl RP.nil)))) ?_)
    all_goals exact R_fldNumN fun h => h3 h.2.2
  obtain ⟨R, rfl⟩ : ∃ R : Nat, r = R := ⟨r.toNat, by omega⟩
  obtain ⟨C, rfl⟩ : ∃ C : Nat, c = C := ⟨c.toNat, by omega⟩
  have hcc : R * C ≤ 576 := Nat.mul_le_mul (show R ≤ 24 by omega) (show C ≤ 24 by omega)
  simp only [Int.toNat_natCast]
  repeat' (first
 | refine A_go rfl ?_ | refine A_ifT rfl rfl ?_ | refine A_ifF rfl rfl ?_
 | refine A_offP rfl rfl ?_ | refine A_offH rfl rfl ?_ | refine A_off0 rfl rfl ?_
 | (refine A_callB rfl rfl (fun s H => c_isSide) ?_ ?_ <;> intro hc <;> try first | contradiction | (exfalso; omega) | exact absurd rfl hc | exact absurd (And.intro rfl rfl) hc | exact absurd (And.intro rfl (And.intro rfl rfl)) hc | exact absurd (Eq.trans (by assumption) (Eq.symm (by assumption))) hc)
 | (refine A_callB rfl rfl (fun s H => c_isShare) ?_ ?_ <;> intro hc <;> try first | contradiction | (exfalso; omega) | exact absurd rfl hc | exact absurd (And.intro rfl rfl) hc | exact absurd (And.intro rfl (And.intro rfl rfl)) hc | exact absurd (Eq.trans (by assumption) (Eq.symm (by assumption))) hc)
 | (refine A_callB rfl rfl (fun s H => c_isSeed) ?_ ?_ <;> intro hc <;> try first | contradiction | (exfalso; omega) | exact absurd rfl hc | exact absurd (And.intro rfl rfl) hc | exact absurd (And.intro rfl (And.intro rfl rfl)) hc | exact absurd (Eq.trans (by assumption) (Eq.symm (by assumption))) hc)
 | refine A_mk3 rfl rfl rfl rfl ?_ | refine A_mk23 rfl rfl rfl ?_ | refine A_mk2 rfl rfl rfl ?_ | refine A_mk13 rfl rfl ?_ | refine A_p (by rfl) rfl ?_
 | refine A_ldI rfl (by first | omega | (simp; done) | (simp; omega)) rfl ?_ | refine A_ldB rfl (by first | omega | (simp; done) | (simp; omega)) rfl ?_ | refine A_ld rfl (by rfl) rfl ?_
 | refine A_ldW rfl (by simp) rfl ?_
 | refine A_stW rfl rfl (by simp) rfl ?_
 | ((first | refine A_alloc rfl ?_ | refine A_box rfl rfl ?_ | refine A_boxC rfl rfl ?_) <;> intro pz hpz)
 | refine A_chk1 rfl rfl rfl ?_ | refine A_chk2 rfl rfl rfl rfl ?_ | refine A_chk3 rfl rfl rfl rfl rfl ?_ | refine A_chk4 rfl rfl rfl rfl rfl rfl ?_ | refine A_chkI rfl (by assumption) rfl (by simp) ?_
 | refine A_ret rfl (by exact (RP.c rfl inferInstance rfl (by simp) (RP.t rfl (RP.t rfl RP.nil)))) ?_)
  rename_i p6 h6 p7 h7 _ _ _
  obtain ⟨p8, hEq⟩ : ∃ p, p = pz := ⟨_, rfl⟩; subst hEq
  refine A_callM (C := [p7, p6]) (P := fun V N => ∃ p, V = .agg (fld R C p (R * C)) ∧ N = [(p, ints (drawL sh x (R * C))), (p7, .rw 2 1 [ic (sdN x (R * C))]), (p6, .rw 22 1 [.float .f32 sh])]) rfl rfl (fun s' H => ?_) ?_
  · have H2 := ((inferInstance : Sub [(p7, .rw 2 1 [ic x]), (p6, .rw 22 1 [.float .f32 sh])] _).own _ _ _ H).self
    refine (c_madeFieldS (caps := [(p7, 0), (p6, 0)]) H2 (fun n N => N = [(p7, .rw 2 1 [ic (sdN x n)]), (p6, .rw 22 1 [.float .f32 sh])]) rfl (fun n => drawC sh (sdN x (n + 1))) (by omega) ?_).mono ?_
    · rintro n hn i k s1 M N H1 rfl K
      haveI : Wf s1 := ⟨K.wf⟩
      exact c_draw1 K (sdN_in h3 n)
    · rintro V N ⟨p, N', rfl, rfl, rfl⟩
      exact ⟨p, rfl, rfl⟩
  rintro _ _ ⟨pf, rfl, rfl⟩
  have hi := sdN_in h3 (R * C)
  repeat' (first
 | refine A_go rfl ?_ | refine A_ifT rfl rfl ?_ | refine A_ifF rfl rfl ?_
 | refine A_offP rfl rfl ?_ | refine A_offH rfl rfl ?_ | refine A_off0 rfl rfl ?_
 | refine A_mk3 rfl rfl rfl rfl ?_ | refine A_mk23 rfl rfl rfl ?_ | refine A_mk2 rfl rfl rfl ?_ | refine A_mk13 rfl rfl ?_ | refine A_p (by rfl) rfl ?_
 | refine A_ldI rfl (by first | omega | (simp; done) | (simp; omega)) rfl ?_ | refine A_ldB rfl (by first | omega | (simp; done) | (simp; omega)) rfl ?_ | refine A_ld rfl (by rfl) rfl ?_
 | refine A_ldW rfl (by simp) rfl ?_
 | refine A_stW rfl rfl (by simp) rfl ?_
 | ((first | refine A_alloc rfl ?_ | refine A_box rfl rfl ?_ | refine A_boxC rfl rfl ?_) <;> intro pz hpz)
 | refine A_chk1 rfl rfl rfl ?_ | refine A_chk2 rfl rfl rfl rfl ?_ | refine A_chk3 rfl rfl rfl rfl rfl ?_ | refine A_chk4 rfl rfl rfl rfl rfl rfl ?_ | refine A_chkI rfl (by assumption) rfl (by simp) ?_
 | refine A_ret rfl (by exact (RP.c rfl inferInstance rfl (by simp) (RP.t rfl (RP.t rfl RP.nil)))) ?_)
  exact R_fldNum ⟨h1, h2, h3⟩ rfl (by simp) (by omega)
theorem c_specDrawField {s : St} [Wf s] {r c x : Int} {sh : Nat} : Fn [] 8 [iv r, iv c, .c (.float .f32 sh), iv x] s (FldNum (DrawP r c sh x) r c (drawL sh x (r.toNat * c.toNat)) (sdN x (r.toNat * c.toNat))) := by
  refine F_start code8 ?_
  by_cases h1 : (1 ≤ r ∧ r ≤ 24) ∧ 1 ≤ c ∧ c ≤ 24
  case neg =>
    repeat' (first
 | refine A_go rfl ?_ | refine A_ifT rfl rfl ?_ | refine A_ifF rfl rfl ?_
 | refine A_offP rfl rfl ?_ | refine A_offH rfl rfl ?_ | refine A_off0 rfl rfl ?_
 | refine A_add rfl rfl rfl (by omega) ?_ | refine A_mul rfl rfl rfl (by omega) ?_ | refine A_rem rfl rfl rfl (by omega) ?_ | refine A_remT rfl rfl rfl (by omega) ?_ | refine A_quo rfl rfl rfl (by omega) ?_
 | ((first | refine A_lt rfl rfl rfl ?_ ?_) <;> intro hc <;> try first | contradiction | (exfalso; omega) | exact absurd rfl hc)
 | refine A_idxN1 rfl rfl rfl (by omega) ?_ | refine A_idx1 rfl rfl rfl (by omega) ?_
 | (refine A_callB rfl rfl (fun s H => c_l04Sides) ?_ ?_ <;> intro hc <;> try first | contradiction | (exfalso; omega) | exact absurd rfl hc | exact absurd (And.intro rfl rfl) hc | exact absurd (And.intro rfl (And.intro rfl rfl)) hc | exact absurd (Eq.trans (by assumption) (Eq.symm (by assumption))) hc)
 | (refine A_callB rfl rfl (fun s H => c_l02Share) ?_ ?_ <;> intro hc <;> try first | contradiction | (exfalso; omega) | exact absurd rfl hc | exact absurd (And.intro rfl rfl) hc | exact absurd (And.intro rfl (And.intro rfl rfl)) hc | exact absurd (Eq.trans (by assumption) (Eq.symm (by assumption))) hc)
 | (refine A_callB rfl rfl (fun s H => c_l00In) ?_ ?_ <;> intro hc <;> try first | contradiction | (exfalso; omega) | exact absurd rfl hc | exact absurd (And.intro rfl rfl) hc | exact absurd (And.intro rfl (And.intro rfl rfl)) hc | exact absurd (Eq.trans (by assumption) (Eq.symm (by assumption))) hc)
 | refine A_fld rfl rfl ?_ | refine A_mk3 rfl rfl rfl rfl ?_ | refine A_mk23 rfl rfl rfl ?_ | refine A_mk2 rfl rfl rfl ?_ | refine A_mk13 rfl rfl ?_ | refine A_p (by rfl) rfl ?_
 | refine A_ldI rfl (by first | omega | (simp; done) | (simp; omega)) rfl ?_ | refine A_ldB rfl (by first | omega | (simp; done) | (simp; omega)) rfl ?_ | refine A_ld rfl (by rfl) rfl ?_
 | refine A_ldW rfl (by simp) rfl ?_
 | refine A_st rfl rfl rfl ?_ | refine A_stE rfl rfl (by first | omega | (simp; done) | (simp; omega)) rfl ?_
 | refine A_stW rfl rfl (by simp) rfl ?_
 | ((first | refine A_alloc rfl ?_) <;> intro pz hpz)
 | refine A_ret rfl (by exact (RP.c rfl inferInstance rfl (by simp) (RP.t rfl (RP.t rfl RP.nil)))) ?_)
    all_goals exact R_fldNumN fun h => h1 h.1
  by_cases h2 : ShareP sh
  case neg =>
    repeat' (first
 | refine A_go rfl ?_ | refine A_ifT rfl rfl ?_ | refine A_ifF rfl rfl ?_
 | refine A_offP rfl rfl ?_ | refine A_offH rfl rfl ?_ | refine A_off0 rfl rfl ?_
 | refine A_add rfl rfl rfl (by omega) ?_ | refine A_mul rfl rfl rfl (by omega) ?_ | refine A_rem rfl rfl rfl (by omega) ?_ | refine A_remT rfl rfl rfl (by omega) ?_ | refine A_quo rfl rfl rfl (by omega) ?_
 | ((first | refine A_lt rfl rfl rfl ?_ ?_) <;> intro hc <;> try first | contradiction | (exfalso; omega) | exact absurd rfl hc)
 | refine A_idxN1 rfl rfl rfl (by omega) ?_ | refine A_idx1 rfl rfl rfl (by omega) ?_
 | (refine A_callB rfl rfl (fun s H => c_l04Sides) ?_ ?_ <;> intro hc <;> try first | contradiction | (exfalso; omega) | exact absurd rfl hc | exact absurd (And.intro rfl rfl) hc | exact absurd (And.intro rfl (And.intro rfl rfl)) hc | exact absurd (Eq.trans (by assumption) (Eq.symm (by assumption))) hc)
 | (refine A_callB rfl rfl (fun s H => c_l02Share) ?_ ?_ <;> intro hc <;> try first | contradiction | (exfalso; omega) | exact absurd rfl hc | exact absurd (And.intro rfl rfl) hc | exact absurd (And.intro rfl (And.intro rfl rfl)) hc | exact absurd (Eq.trans (by assumption) (Eq.symm (by assumption))) hc)
 | (refine A_callB rfl rfl (fun s H => c_l00In) ?_ ?_ <;> intro hc <;> try first | contradiction | (exfalso; omega) | exact absurd rfl hc | exact absurd (And.intro rfl rfl) hc | exact absurd (And.intro rfl (And.intro rfl rfl)) hc | exact absurd (Eq.trans (by assumption) (Eq.symm (by assumption))) hc)
 | refine A_fld rfl rfl ?_ | refine A_mk3 rfl rfl rfl rfl ?_ | refine A_mk23 rfl rfl rfl ?_ | refine A_mk2 rfl rfl rfl ?_ | refine A_mk13 rfl rfl ?_ | refine A_p (by rfl) rfl ?_
 | refine A_ldI rfl (by first | omega | (simp; done) | (simp; omega)) rfl ?_ | refine A_ldB rfl (by first | omega | (simp; done) | (simp; omega)) rfl ?_ | refine A_ld rfl (by rfl) rfl ?_
 | refine A_ldW rfl (by simp) rfl ?_
 | refine A_st rfl rfl rfl ?_ | refine A_stE rfl rfl (by first | omega | (simp; done) | (simp; omega)) rfl ?_
 | refine A_stW rfl rfl (by simp) rfl ?_
 | ((first | refine A_alloc rfl ?_) <;> intro pz hpz)
 | refine A_ret rfl (by exact (RP.c rfl inferInstance rfl (by simp) (RP.t rfl (RP.t rfl RP.nil)))) ?_)
    all_goals exact R_fldNumN fun h => h2 h.2.1
  by_cases h3 : 0 ≤ x ∧ x ≤ 4294967295
  case neg =>
    repeat' (first
 | refine A_go rfl ?_ | refine A_ifT rfl rfl ?_ | refine A_ifF rfl rfl ?_
 | refine A_offP rfl rfl ?_ | refine A_offH rfl rfl ?_ | refine A_off0 rfl rfl ?_
 | refine A_add rfl rfl rfl (by omega) ?_ | refine A_mul rfl rfl rfl (by omega) ?_ | refine A_rem rfl rfl rfl (by omega) ?_ | refine A_remT rfl rfl rfl (by omega) ?_ | refine A_quo rfl rfl rfl (by omega) ?_
 | ((first | refine A_lt rfl rfl rfl ?_ ?_) <;> intro hc <;> try first | contradiction | (exfalso; omega) | exact absurd rfl hc)
 | refine A_idxN1 rfl rfl rfl (by omega) ?_ | refine A_idx1 rfl rfl rfl (by omega) ?_
 | (refine A_callB rfl rfl (fun s H => c_l04Sides) ?_ ?_ <;> intro hc <;> try first | contradiction | (exfalso; omega) | exact absurd rfl hc | exact absurd (And.intro rfl rfl) hc | exact absurd (And.intro rfl (And.intro rfl rfl)) hc | exact absurd (Eq.trans (by assumption) (Eq.symm (by assumption))) hc)
 | (refine A_callB rfl rfl (fun s H => c_l02Share) ?_ ?_ <;> intro hc <;> try first | contradiction | (exfalso; omega) | exact absurd rfl hc | exact absurd (And.intro rfl rfl) hc | exact absurd (And.intro rfl (And.intro rfl rfl)) hc | exact absurd (Eq.trans (by assumption) (Eq.symm (by assumption))) hc)
 | (refine A_callB rfl rfl (fun s H => c_l00In) ?_ ?_ <;> intro hc <;> try first | contradiction | (exfalso; omega) | exact absurd rfl hc | exact absurd (And.intro rfl rfl) hc | exact absurd (And.intro rfl (And.intro rfl rfl)) hc | exact absurd (Eq.trans (by assumption) (Eq.symm (by assumption))) hc)
 | refine A_fld rfl rfl ?_ | refine A_mk3 rfl rfl rfl rfl ?_ | refine A_mk23 rfl rfl rfl ?_ | refine A_mk2 rfl rfl rfl ?_ | refine A_mk13 rfl rfl ?_ | refine A_p (by rfl) rfl ?_
 | refine A_ldI rfl (by first | omega | (simp; done) | (simp; omega)) rfl ?_ | refine A_ldB rfl (by first | omega | (simp; done) | (simp; omega)) rfl ?_ | refine A_ld rfl (by rfl) rfl ?_
 | refine A_ldW rfl (by simp) rfl ?_
 | refine A_st rfl rfl rfl ?_ | refine A_stE rfl rfl (by first | omega | (simp; done) | (simp; omega)) rfl ?_
 | refine A_stW rfl rfl (by simp) rfl ?_
 | ((first | refine A_alloc rfl ?_) <;> intro pz hpz)
 | refine A_ret rfl (by exact (RP.c rfl inferInstance rfl (by simp) (RP.t rfl (RP.t rfl RP.nil)))) ?_)
    all_goals exact R_fldNumN fun h => h3 h.2.2
  obtain ⟨R, rfl⟩ : ∃ R : Nat, r = R := ⟨r.toNat, by omega⟩
  obtain ⟨C, rfl⟩ : ∃ C : Nat, c = C := ⟨c.toNat, by omega⟩
  have hcc : R * C ≤ 576 := Nat.mul_le_mul (show R ≤ 24 by omega) (show C ≤ 24 by omega)
  simp only [Int.toNat_natCast]
  repeat' (first
 | refine A_go rfl ?_ | refine A_ifT rfl rfl ?_ | refine A_ifF rfl rfl ?_
 | refine A_offP rfl rfl ?_ | refine A_offH rfl rfl ?_ | refine A_off0 rfl rfl ?_
 | refine A_add rfl rfl rfl (by omega) ?_ | refine A_mul rfl rfl rfl (by omega) ?_ | refine A_rem rfl rfl rfl (by omega) ?_ | refine A_remT rfl rfl rfl (by omega) ?_ | refine A_quo rfl rfl rfl (by omega) ?_
 | ((first | refine A_lt rfl rfl rfl ?_ ?_) <;> intro hc <;> try first | contradiction | (exfalso; omega) | exact absurd rfl hc)
 | refine A_idxN1 rfl rfl rfl (by omega) ?_ | refine A_idx1 rfl rfl rfl (by omega) ?_
 | (refine A_callB rfl rfl (fun s H => c_l04Sides) ?_ ?_ <;> intro hc <;> try first | contradiction | (exfalso; omega) | exact absurd rfl hc | exact absurd (And.intro rfl rfl) hc | exact absurd (And.intro rfl (And.intro rfl rfl)) hc | exact absurd (Eq.trans (by assumption) (Eq.symm (by assumption))) hc)
 | (refine A_callB rfl rfl (fun s H => c_l02Share) ?_ ?_ <;> intro hc <;> try first | contradiction | (exfalso; omega) | exact absurd rfl hc | exact absurd (And.intro rfl rfl) hc | exact absurd (And.intro rfl (And.intro rfl rfl)) hc | exact absurd (Eq.trans (by assumption) (Eq.symm (by assumption))) hc)
 | (refine A_callB rfl rfl (fun s H => c_l00In) ?_ ?_ <;> intro hc <;> try first | contradiction | (exfalso; omega) | exact absurd rfl hc | exact absurd (And.intro rfl rfl) hc | exact absurd (And.intro rfl (And.intro rfl rfl)) hc | exact absurd (Eq.trans (by assumption) (Eq.symm (by assumption))) hc)
 | refine A_fld rfl rfl ?_ | refine A_mk3 rfl rfl rfl rfl ?_ | refine A_mk23 rfl rfl rfl ?_ | refine A_mk2 rfl rfl rfl ?_ | refine A_mk13 rfl rfl ?_ | refine A_p (by rfl) rfl ?_
 | refine A_ldI rfl (by first | omega | (simp; done) | (simp; omega)) rfl ?_ | refine A_ldB rfl (by first | omega | (simp; done) | (simp; omega)) rfl ?_ | refine A_ld rfl (by rfl) rfl ?_
 | refine A_ldW rfl (by simp) rfl ?_
 | refine A_st rfl rfl rfl ?_ | refine A_stE rfl rfl (by first | omega | (simp; done) | (simp; omega)) rfl ?_
 | refine A_stW rfl rfl (by simp) rfl ?_
 | ((first | refine A_alloc rfl ?_) <;> intro pz hpz)
 | refine A_ret rfl (by exact (RP.c rfl inferInstance rfl (by simp) (RP.t rfl (RP.t rfl RP.nil)))) ?_)
  obtain ⟨p8, hEq⟩ : ∃ p, p = pz := ⟨_, rfl⟩; subst hEq
  repeat' (first
 | refine A_go rfl ?_ | refine A_ifT rfl rfl ?_ | refine A_ifF rfl rfl ?_
 | refine A_offP rfl rfl ?_ | refine A_offH rfl rfl ?_ | refine A_off0 rfl rfl ?_
 | refine A_add rfl rfl rfl (by omega) ?_ | refine A_mul rfl rfl rfl (by omega) ?_ | refine A_rem rfl rfl rfl (by omega) ?_ | refine A_remT rfl rfl rfl (by omega) ?_ | refine A_quo rfl rfl rfl (by omega) ?_
 | ((first | refine A_lt rfl rfl rfl ?_ ?_) <;> intro hc <;> try first | contradiction | (exfalso; omega) | exact absurd rfl hc)
 | refine A_idxN1 rfl rfl rfl (by omega) ?_ | refine A_idx1 rfl rfl rfl (by omega) ?_
 | (refine A_callM rfl rfl (fun s H => c_l04New) ?_; rintro _ _ ⟨pz, rfl, rfl⟩) | (refine A_callM0 rfl rfl (fun s H => c_l04New) ?_; rintro _ _ ⟨pz, rfl, rfl⟩)
 | refine A_fld rfl rfl ?_ | refine A_mk3 rfl rfl rfl rfl ?_ | refine A_mk23 rfl rfl rfl ?_ | refine A_mk2 rfl rfl rfl ?_ | refine A_mk13 rfl rfl ?_ | refine A_p (by rfl) rfl ?_
 | refine A_ldI rfl (by first | omega | (simp; done) | (simp; omega)) rfl ?_ | refine A_ldB rfl (by first | omega | (simp; done) | (simp; omega)) rfl ?_ | refine A_ld rfl (by rfl) rfl ?_
 | refine A_ldW rfl (by simp) rfl ?_
 | refine A_st rfl rfl rfl ?_ | refine A_stE rfl rfl (by first | omega | (simp; done) | (simp; omega)) rfl ?_
 | refine A_stW rfl rfl (by simp) rfl ?_
 | ((first | refine A_alloc rfl ?_) <;> intro pz hpz)
 | refine A_ret rfl (by exact (RP.c rfl inferInstance rfl (by simp) (RP.t rfl (RP.t rfl RP.nil)))) ?_)
  obtain ⟨p11, hEq⟩ : ∃ p, p = pz := ⟨_, rfl⟩; subst hEq
  obtain ⟨pc, hEq⟩ : ∃ p, p = pz := ⟨_, rfl⟩; subst hEq
  obtain ⟨T, hT⟩ : ∃ T, R * C = T := ⟨_, rfl⟩
  rw [hT] at hcc ⊢
  refine A_loop rfl [p11, p8, pc] (fun m fr L => ∃ (i : Nat) (ys : List Int), m = T - i ∧ fr = [(2, .c (.float .f32 sh)), (3, iv (sdN x i)), (8, .c (.ptr p8 0)), (11, .c (.ptr p11 0)), (12, iv i)] ∧ L = [(p11, .rw 25 3 (fld R C pc T)), (p8, .rw 25 3 (fld 0 0 0 0)), (pc, ints ys)] ∧ i ≤ T ∧ ys.length = T ∧ ys.take i = (drawL sh x T).take i ∧ ∀ j, i ≤ j → ys.getD j 0 = 0) T ⟨0, List.replicate T 0, rfl, rfl, rfl, by omega, by simp, by simp, fun j _ => by rw [List.getD_eq_getElem?_getD, List.getElem?_replicate]; split <;> rfl⟩ ?_
  rintro m fr L ⟨i, ys, rfl, rfl, rfl, hi, hyl, ht, hz⟩
  have hs := sdN_in h3 i
  have hs2 := nextS_in (x := sdN x i)
  by_cases hi' : i < T
  · have hz' := hz i (Nat.le_refl i)
    have hnx : (1664525 * sdN x i + 1013904223) % 4294967296 = sdN x (i + 1) := rfl
    have hg := drawL_get (sh := sh) (x := x) hi'
    have key : ∀ v, v = drawC sh (sdN x (i + 1)) → (ys.set i v).take (i + 1) = (drawL sh x T).take (i + 1) := fun v hv => by
      rw [hv, ← hg]; exact take_set ht (by omega) (by simp; omega)
    repeat' (first
 | refine A_go rfl ?_ | refine A_ifT rfl rfl ?_ | refine A_ifF rfl rfl ?_
 | refine A_offP rfl rfl ?_ | refine A_offH rfl rfl ?_ | refine A_off0 rfl rfl ?_
 | refine A_add rfl rfl rfl (by omega) ?_ | refine A_mul rfl rfl rfl (by omega) ?_ | refine A_rem rfl rfl rfl (by omega) ?_ | refine A_remT rfl rfl rfl (by omega) ?_ | refine A_quo rfl rfl rfl (by omega) ?_
 | ((first | refine A_lt rfl rfl rfl ?_ ?_) <;> intro hc <;> try first | contradiction | (exfalso; omega) | exact absurd rfl hc)
 | refine A_idxN1 rfl rfl rfl (by omega) ?_ | refine A_idx1 rfl rfl rfl (by omega) ?_
 | rw [hnx]
 | refine A_div24 rfl rfl (by omega) ?_
 | refine A_fltF rfl rfl rfl ?_
 | (refine A_ifB rfl rfl ?_ ?_ <;> intro hc)
 | refine A_fld rfl rfl ?_ | refine A_mk3 rfl rfl rfl rfl ?_ | refine A_mk23 rfl rfl rfl ?_ | refine A_mk2 rfl rfl rfl ?_ | refine A_mk13 rfl rfl ?_ | refine A_p (by rfl) rfl ?_
 | refine A_ldI rfl (by first | omega | (simp; done) | (simp; omega)) rfl ?_ | refine A_ldB rfl (by first | omega | (simp; done) | (simp; omega)) rfl ?_ | refine A_ld rfl (by rfl) rfl ?_
 | refine A_ldW rfl (by simp) rfl ?_
 | refine A_st rfl rfl rfl ?_ | refine A_stE rfl rfl (by first | omega | (simp; done) | (simp; omega)) rfl ?_
 | refine A_stW rfl rfl (by simp) rfl ?_
 | ((first | refine A_alloc rfl ?_) <;> intro pz hpz)
 | refine A_ret rfl (by exact (RP.c rfl inferInstance rfl (by simp) (RP.t rfl (RP.t rfl RP.nil)))) ?_)
    · have hv : (1 : Int) = drawC sh (sdN x (i + 1)) := by rw [drawC, if_pos hc]
      repeat' (first
 | refine A_go rfl ?_ | refine A_ifT rfl rfl ?_ | refine A_ifF rfl rfl ?_
 | refine A_offP rfl rfl ?_ | refine A_offH rfl rfl ?_ | refine A_off0 rfl rfl ?_
 | refine A_add rfl rfl rfl (by omega) ?_ | refine A_mul rfl rfl rfl (by omega) ?_ | refine A_rem rfl rfl rfl (by omega) ?_ | refine A_remT rfl rfl rfl (by omega) ?_ | refine A_quo rfl rfl rfl (by omega) ?_
 | ((first | refine A_lt rfl rfl rfl ?_ ?_) <;> intro hc <;> try first | contradiction | (exfalso; omega) | exact absurd rfl hc)
 | refine A_idxN1 rfl rfl rfl (by omega) ?_ | refine A_idx1 rfl rfl rfl (by omega) ?_
 | refine A_fld rfl rfl ?_ | refine A_mk3 rfl rfl rfl rfl ?_ | refine A_mk23 rfl rfl rfl ?_ | refine A_mk2 rfl rfl rfl ?_ | refine A_mk13 rfl rfl ?_ | refine A_p (by rfl) rfl ?_
 | refine A_ldI rfl (by first | omega | (simp; done) | (simp; omega)) rfl ?_ | refine A_ldB rfl (by first | omega | (simp; done) | (simp; omega)) rfl ?_ | refine A_ld rfl (by rfl) rfl ?_
 | refine A_ldW rfl (by simp) rfl ?_
 | refine A_st rfl rfl rfl ?_ | refine A_stE rfl rfl (by first | omega | (simp; done) | (simp; omega)) rfl ?_
 | refine A_stW rfl rfl (by simp) rfl ?_
 | ((first | refine A_alloc rfl ?_) <;> intro pz hpz)
 | refine A_ret rfl (by exact (RP.c rfl inferInstance rfl (by simp) (RP.t rfl (RP.t rfl RP.nil)))) ?_)
      refine A_round rfl [p11, p8, pc] (T - (i + 1)) (by omega) ?_
      refine ⟨i + 1, _, rfl, rfl, rfl, by omega, by simp [hyl], key 1 hv, fun j hj => ?_⟩
      rw [getD_set (by omega), if_neg (by omega)]; exact hz j (by omega)
    · have hv : (0 : Int) = drawC sh (sdN x (i + 1)) := by rw [drawC, if_neg (by rw [hc]; exact Bool.false_ne_true)]
      repeat' (first
 | refine A_go rfl ?_ | refine A_ifT rfl rfl ?_ | refine A_ifF rfl rfl ?_
 | refine A_offP rfl rfl ?_ | refine A_offH rfl rfl ?_ | refine A_off0 rfl rfl ?_
 | refine A_add rfl rfl rfl (by omega) ?_ | refine A_mul rfl rfl rfl (by omega) ?_ | refine A_rem rfl rfl rfl (by omega) ?_ | refine A_remT rfl rfl rfl (by omega) ?_ | refine A_quo rfl rfl rfl (by omega) ?_
 | ((first | refine A_lt rfl rfl rfl ?_ ?_) <;> intro hc <;> try first | contradiction | (exfalso; omega) | exact absurd rfl hc)
 | refine A_idxN1 rfl rfl rfl (by omega) ?_ | refine A_idx1 rfl rfl rfl (by omega) ?_
 | refine A_fld rfl rfl ?_ | refine A_mk3 rfl rfl rfl rfl ?_ | refine A_mk23 rfl rfl rfl ?_ | refine A_mk2 rfl rfl rfl ?_ | refine A_mk13 rfl rfl ?_ | refine A_p (by rfl) rfl ?_
 | refine A_ldI rfl (by first | omega | (simp; done) | (simp; omega)) rfl ?_ | refine A_ldB rfl (by first | omega | (simp; done) | (simp; omega)) rfl ?_ | refine A_ld rfl (by rfl) rfl ?_
 | refine A_ldW rfl (by simp) rfl ?_
 | refine A_st rfl rfl rfl ?_ | refine A_stE rfl rfl (by first | omega | (simp; done) | (simp; omega)) rfl ?_
 | refine A_stW rfl rfl (by simp) rfl ?_
 | ((first | refine A_alloc rfl ?_) <;> intro pz hpz)
 | refine A_ret rfl (by exact (RP.c rfl inferInstance rfl (by simp) (RP.t rfl (RP.t rfl RP.nil)))) ?_)
      refine A_round rfl [p11, p8, pc] (T - (i + 1)) (by omega) ?_
      refine ⟨i + 1, _, rfl, rfl, rfl, by omega, hyl, ?_, fun j hj => hz j (by omega)⟩
      rw [List.take_add_one, List.take_add_one, ht, getD_some 0 (by omega), getD_some 0 (by simpa using hi'), hz', hg, ← hv]
  · obtain rfl : T = i := by omega
    obtain rfl : ys = drawL sh x T := take_end ht (by omega) (by simp)
    repeat' (first
 | refine A_go rfl ?_ | refine A_ifT rfl rfl ?_ | refine A_ifF rfl rfl ?_
 | refine A_offP rfl rfl ?_ | refine A_offH rfl rfl ?_ | refine A_off0 rfl rfl ?_
 | refine A_add rfl rfl rfl (by omega) ?_ | refine A_mul rfl rfl rfl (by omega) ?_ | refine A_rem rfl rfl rfl (by omega) ?_ | refine A_remT rfl rfl rfl (by omega) ?_ | refine A_quo rfl rfl rfl (by omega) ?_
 | ((first | refine A_lt rfl rfl rfl ?_ ?_) <;> intro hc <;> try first | contradiction | (exfalso; omega) | exact absurd rfl hc)
 | refine A_idxN1 rfl rfl rfl (by omega) ?_ | refine A_idx1 rfl rfl rfl (by omega) ?_
 | refine A_fld rfl rfl ?_ | refine A_mk3 rfl rfl rfl rfl ?_ | refine A_mk23 rfl rfl rfl ?_ | refine A_mk2 rfl rfl rfl ?_ | refine A_mk13 rfl rfl ?_ | refine A_p (by rfl) rfl ?_
 | refine A_ldI rfl (by first | omega | (simp; done) | (simp; omega)) rfl ?_ | refine A_ldB rfl (by first | omega | (simp; done) | (simp; omega)) rfl ?_ | refine A_ld rfl (by rfl) rfl ?_
 | refine A_ldW rfl (by simp) rfl ?_
 | refine A_st rfl rfl rfl ?_ | refine A_stE rfl rfl (by first | omega | (simp; done) | (simp; omega)) rfl ?_
 | refine A_stW rfl rfl (by simp) rfl ?_
 | ((first | refine A_alloc rfl ?_) <;> intro pz hpz)
 | refine A_ret rfl (by exact (RP.c rfl inferInstance rfl (by simp) (RP.t rfl (RP.t rfl RP.nil)))) ?_)
    exact R_fldNum ⟨h1, h2, h3⟩ rfl (by simp) (by omega)

end Go.Proofs.Ytckobcjjbpnkcaa
