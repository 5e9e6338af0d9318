/- Logarithms: the program's and the reference's. -/
import Derived.Test.YtlmbgaoeplffkaaXentP
import Derived.Test.YtlmbgaoeplffkaaFB
namespace Go.Proofs.Ytlmbgaoeplffkaa
open Go Go.RowKit
set_option linter.unusedVariables false
set_option linter.unusedSimpArgs false
set_option maxRecDepth 100000
set_option maxHeartbeats 8000000
-- impl.naturalLog
def L85 : AFun := ⟨45, [.t 2],
 (.seq (.ops false [⟨(some 2), .mv (.k (.c (.float .f64 0))), none, []⟩])
 (.seq (.ops false [⟨(some 3), .mv (.k (.c (.float .f64 0))), none, []⟩])
 (.seq (.block 0 (.loop [0, 3] (.seq (.seq (.ops false [⟨(some 8), .mv (.t 0), none, []⟩,
       ⟨(some 9), .bin .geq (.t 8) (.k (.c (.float .f64 4609434218613702656))), none, []⟩])
     (.cond (.t 9) .skip
      (.exit 0)))
    (.block 1 (.seq (.ops false [⟨(some 10), .mv (.t 0), none, []⟩,
       ⟨(some 11), .bin .quo (.t 10) (.k (.c (.float .f64 4611686018427387904))), none, []⟩,
       ⟨(some 0), .mv (.t 11), none, []⟩])
     (.ops false [⟨(some 12), .mv (.t 3), none, []⟩,
      ⟨(some 13), .bin .add (.t 12) (.k (.c (.float .f64 4607182418800017408))), none, []⟩,
      ⟨(some 3), .mv (.t 13), none, []⟩]))))))
 (.seq (.block 2 (.loop [0, 3] (.seq (.seq (.ops false [⟨(some 14), .mv (.t 0), none, []⟩,
       ⟨(some 15), .bin .lss (.t 14) (.k (.c (.float .f64 4604930618986332160))), none, []⟩])
     (.cond (.t 15) .skip
      (.exit 2)))
    (.block 3 (.seq (.ops false [⟨(some 16), .mv (.t 0), none, []⟩,
       ⟨(some 17), .bin .mul (.t 16) (.k (.c (.float .f64 4611686018427387904))), none, []⟩,
       ⟨(some 0), .mv (.t 17), none, []⟩])
     (.ops false [⟨(some 18), .mv (.t 3), none, []⟩,
      ⟨(some 19), .bin .sub (.t 18) (.k (.c (.float .f64 4607182418800017408))), none, []⟩,
      ⟨(some 3), .mv (.t 19), none, []⟩]))))))
 (.seq (.ops false [⟨(some 20), .mv (.t 0), none, []⟩,
   ⟨(some 21), .bin .sub (.t 20) (.k (.c (.float .f64 4607182418800017408))), none, []⟩,
   ⟨(some 22), .mv (.t 0), none, []⟩,
   ⟨(some 23), .bin .add (.t 22) (.k (.c (.float .f64 4607182418800017408))), none, []⟩,
   ⟨(some 24), .bin .quo (.t 21) (.t 23), none, []⟩,
   ⟨(some 4), .mv (.t 24), none, []⟩])
 (.seq (.ops false [⟨(some 25), .mv (.t 4), none, []⟩,
   ⟨(some 26), .mv (.t 4), none, []⟩,
   ⟨(some 27), .bin .mul (.t 25) (.t 26), none, []⟩,
   ⟨(some 5), .mv (.t 27), none, []⟩])
 (.seq (.ops false [⟨(some 6), .mv (.k (.c (.float .f64 0))), none, []⟩])
 (.seq (.seq (.ops false [⟨(some 7), .mv (.k (.c (.float .f64 4627730092099895296))), none, []⟩])
  (.block 4 (.loop [3, 4, 5, 6, 7] (.seq (.seq (.ops false [⟨(some 28), .mv (.t 7), none, []⟩,
       ⟨(some 29), .bin .geq (.t 28) (.k (.c (.float .f64 4607182418800017408))), none, []⟩])
     (.cond (.t 29) .skip
      (.exit 4)))
    (.seq (.block 5 (.ops false [⟨(some 32), .mv (.t 7), none, []⟩,
       ⟨(some 33), .bin .quo (.k (.c (.float .f64 4607182418800017408))) (.t 32), none, []⟩,
       ⟨(some 34), .mv (.t 5), none, []⟩,
       ⟨(some 35), .mv (.t 6), none, []⟩,
       ⟨(some 36), .bin .mul (.t 34) (.t 35), none, []⟩,
       ⟨(some 37), .bin .add (.t 33) (.t 36), none, []⟩,
       ⟨(some 6), .mv (.t 37), none, []⟩]))
    (.ops false [⟨(some 30), .mv (.t 7), none, []⟩,
     ⟨(some 31), .bin .sub (.t 30) (.k (.c (.float .f64 4611686018427387904))), none, []⟩,
     ⟨(some 7), .mv (.t 31), none, []⟩]))))))
 (.seq (.ops false [⟨(some 38), .mv (.t 4), none, []⟩,
   ⟨(some 39), .mv (.t 6), none, []⟩,
   ⟨(some 40), .bin .mul (.t 38) (.t 39), none, []⟩,
   ⟨(some 41), .bin .mul (.k (.c (.float .f64 4611686018427387904))) (.t 40), none, []⟩,
   ⟨(some 42), .mv (.t 3), none, []⟩,
   ⟨(some 43), .bin .mul (.t 42) (.k (.c (.float .f64 4604418534313441775))), none, []⟩,
   ⟨(some 44), .bin .add (.t 41) (.t 43), none, []⟩,
   ⟨(some 2), .mv (.t 44), none, []⟩])
 .ret)))))))))⟩
theorem code85 : acode Try.prog hints 85 = some L85 := by kernel_rfl

-- impl.IsFinite
def L84 : AFun := ⟨7, [.t 2],
 (.seq (.ops false [⟨(some 2), .mv (.k (bv false)), none, []⟩])
 (.seq (.ops false [⟨(some 3), .mv (.t 0), none, []⟩,
   ⟨(some 4), .mv (.t 0), none, []⟩,
   ⟨(some 5), .bin .sub (.t 3) (.t 4), none, []⟩,
   ⟨(some 6), .bin .eql (.t 5) (.k (.c (.float .f32 0))), none, []⟩,
   ⟨(some 2), .mv (.t 6), none, []⟩])
 .ret))⟩
theorem code84 : acode Try.prog hints 84 = some L84 := by kernel_rfl

-- impl.LogNumber
def L57 : AFun := ⟨27, [.t 2],
 (.seq (.ops false [⟨(some 2), .mv (.k (.c (.float .f32 0))), none, []⟩])
 (.seq (.block 0 (.seq (.ops false [⟨(some 4), .mv (.t 0), none, []⟩,
     ⟨(some 5), .bin .eql (.t 4) (.k (.c (.float .f32 0))), none, []⟩,
     ⟨(some 3), .mv (.t 5), none, []⟩])
   (.cond (.t 3) (.seq (.ops false [⟨(some 6), .call (.f 82) [(.k (iv (-1)))], none, []⟩,
      ⟨(some 7), .convF .f32 (.t 6), none, []⟩,
      ⟨(some 2), .mv (.t 7), none, []⟩])
    .ret)
    (.seq (.ops false [⟨(some 9), .mv (.t 0), none, []⟩,
      ⟨(some 10), .bin .lss (.t 9) (.k (.c (.float .f32 0))), none, []⟩,
      ⟨(some 11), .mv (.t 10), none, []⟩,
      ⟨(some 12), .mv (.t 0), (some (11, false)), []⟩,
      ⟨(some 13), .mv (.t 0), (some (11, false)), []⟩,
      ⟨(some 14), .bin .neq (.t 12) (.t 13), (some (11, false)), []⟩,
      ⟨(some 15), .pick (.t 11) (.k (bv true)) (.t 14), none, []⟩,
      ⟨(some 8), .mv (.t 15), none, []⟩])
    (.cond (.t 8) (.seq (.ops false [⟨(some 16), .call (.f 83) [], none, []⟩,
       ⟨(some 17), .convF .f32 (.t 16), none, []⟩,
       ⟨(some 2), .mv (.t 17), none, []⟩])
     .ret)
     (.seq (.ops false [⟨(some 19), .mv (.t 0), none, []⟩,
       ⟨(some 20), .call (.f 84) [(.t 19)], none, []⟩,
       ⟨(some 21), .un .not (.t 20), none, []⟩,
       ⟨(some 18), .mv (.t 21), none, []⟩])
     (.cond (.t 18) (.seq (.ops false [⟨(some 22), .mv (.t 0), none, []⟩,
        ⟨(some 2), .mv (.t 22), none, []⟩])
      .ret)
      .skip)))))))
 (.seq (.ops false [⟨(some 23), .mv (.t 0), none, []⟩,
   ⟨(some 24), .convF .f64 (.t 23), none, []⟩,
   ⟨(some 25), .call (.f 85) [(.t 24)], none, []⟩,
   ⟨(some 26), .convF .f32 (.t 25), none, []⟩,
   ⟨(some 2), .mv (.t 26), none, []⟩])
 .ret)))⟩
theorem code57 : acode Try.prog hints 57 = some L57 := by kernel_rfl

-- math.IsInf
def L93 : AFun := ⟨15, [.t 4],
 (.seq (.ops false [⟨(some 4), .mv (.k (bv false)), none, []⟩])
 (.seq (.seq (.ops false [⟨(some 5), .mv (.t 1), none, []⟩,
    ⟨(some 6), .bin .eql (.t 5) (.k (iv 0)), none, []⟩])
  (.cond (.t 6) (.ops false [⟨(some 7), .mv (.t 0), none, []⟩,
    ⟨(some 8), .call (.f 97) [(.t 7)], none, []⟩,
    ⟨(some 0), .mv (.t 8), none, []⟩])
   (.seq (.ops false [⟨(some 9), .mv (.t 1), none, []⟩,
     ⟨(some 10), .bin .lss (.t 9) (.k (iv 0)), none, []⟩])
   (.cond (.t 10) (.ops false [⟨(some 11), .mv (.t 0), none, []⟩,
     ⟨(some 12), .un .neg (.t 11), none, []⟩,
     ⟨(some 0), .mv (.t 12), none, []⟩])
    .skip))))
 (.seq (.ops false [⟨(some 13), .mv (.t 0), none, []⟩,
   ⟨(some 14), .bin .gtr (.t 13) (.k (.c (.float .f64 9218868437227405311))), none, []⟩,
   ⟨(some 4), .mv (.t 14), none, []⟩])
 .ret)))⟩
theorem code93 : acode Try.prog hints 93 = some L93 := by kernel_rfl

-- spec.l01LogWide
def L79 : AFun := ⟨64, [.t 2],
 (.seq (.ops false [⟨(some 2), .mv (.k (.c (.float .f64 0))), none, []⟩])
 (.seq (.block 0 (.seq (.ops false [⟨(some 9), .mv (.t 0), none, []⟩,
     ⟨(some 10), .mv (.t 0), none, []⟩,
     ⟨(some 11), .bin .neq (.t 9) (.t 10), none, []⟩,
     ⟨(some 12), .mv (.t 11), none, []⟩,
     ⟨(some 13), .mv (.t 0), (some (12, false)), []⟩,
     ⟨(some 14), .bin .lss (.t 13) (.k (.c (.float .f64 0))), (some (12, false)), []⟩,
     ⟨(some 15), .pick (.t 12) (.k (bv true)) (.t 14), none, []⟩,
     ⟨(some 8), .mv (.t 15), none, []⟩])
   (.cond (.t 8) (.seq (.ops false [⟨(some 16), .call (.f 83) [], none, []⟩,
      ⟨(some 2), .mv (.t 16), none, []⟩])
    .ret)
    (.seq (.ops false [⟨(some 18), .mv (.t 0), none, []⟩,
      ⟨(some 19), .bin .eql (.t 18) (.k (.c (.float .f64 0))), none, []⟩,
      ⟨(some 17), .mv (.t 19), none, []⟩])
    (.cond (.t 17) (.seq (.ops false [⟨(some 20), .call (.f 82) [(.k (iv (-1)))], none, []⟩,
       ⟨(some 2), .mv (.t 20), none, []⟩])
     .ret)
     (.seq (.ops false [⟨(some 22), .mv (.t 0), none, []⟩,
       ⟨(some 23), .call (.f 93) [(.t 22), (.k (iv 1))], none, []⟩,
       ⟨(some 21), .mv (.t 23), none, []⟩])
     (.cond (.t 21) (.seq (.ops false [⟨(some 24), .mv (.t 0), none, []⟩,
        ⟨(some 2), .mv (.t 24), none, []⟩])
      .ret)
      .skip)))))))
 (.seq (.ops false [⟨(some 3), .mv (.k (iv 0)), none, []⟩])
 (.seq (.block 1 (.loop [0, 3] (.seq (.seq (.ops false [⟨(some 25), .mv (.t 0), none, []⟩,
       ⟨(some 26), .bin .geq (.t 25) (.k (.c (.float .f64 4609434218613702656))), none, []⟩])
     (.cond (.t 26) .skip
      (.exit 1)))
    (.block 2 (.seq (.ops false [⟨(some 27), .mv (.t 0), none, []⟩,
       ⟨(some 28), .bin .quo (.t 27) (.k (.c (.float .f64 4611686018427387904))), none, []⟩,
       ⟨(some 0), .mv (.t 28), none, []⟩])
     (.ops false [⟨(some 29), .mv (.t 3), none, []⟩,
      ⟨(some 30), .bin .add (.t 29) (.k (iv 1)), none, []⟩,
      ⟨(some 3), .mv (.t 30), none, []⟩]))))))
 (.seq (.block 3 (.loop [0, 3] (.seq (.seq (.ops false [⟨(some 31), .mv (.t 0), none, []⟩,
       ⟨(some 32), .bin .lss (.t 31) (.k (.c (.float .f64 4604930618986332160))), none, []⟩])
     (.cond (.t 32) .skip
      (.exit 3)))
    (.block 4 (.seq (.ops false [⟨(some 33), .mv (.t 0), none, []⟩,
       ⟨(some 34), .bin .mul (.t 33) (.k (.c (.float .f64 4611686018427387904))), none, []⟩,
       ⟨(some 0), .mv (.t 34), none, []⟩])
     (.ops false [⟨(some 35), .mv (.t 3), none, []⟩,
      ⟨(some 36), .bin .sub (.t 35) (.k (iv 1)), none, []⟩,
      ⟨(some 3), .mv (.t 36), none, []⟩]))))))
 (.seq (.ops false [⟨(some 37), .mv (.t 0), none, []⟩,
   ⟨(some 38), .bin .sub (.t 37) (.k (.c (.float .f64 4607182418800017408))), none, []⟩,
   ⟨(some 39), .mv (.t 0), none, []⟩,
   ⟨(some 40), .bin .add (.t 39) (.k (.c (.float .f64 4607182418800017408))), none, []⟩,
   ⟨(some 41), .bin .quo (.t 38) (.t 40), none, []⟩,
   ⟨(some 4), .mv (.t 41), none, []⟩])
 (.seq (.ops false [⟨(some 42), .mv (.t 4), none, []⟩,
   ⟨(some 43), .mv (.t 4), none, []⟩,
   ⟨(some 44), .bin .mul (.t 42) (.t 43), none, []⟩,
   ⟨(some 5), .mv (.t 44), none, []⟩])
 (.seq (.ops false [⟨(some 6), .mv (.k (.c (.float .f64 0))), none, []⟩])
 (.seq (.seq (.ops false [⟨(some 7), .mv (.k (iv 25)), none, []⟩])
  (.block 5 (.loop [3, 4, 5, 6, 7] (.seq (.seq (.ops false [⟨(some 45), .mv (.t 7), none, []⟩,
       ⟨(some 46), .bin .geq (.t 45) (.k (iv 1)), none, []⟩])
     (.cond (.t 46) .skip
      (.exit 5)))
    (.seq (.block 6 (.ops false [⟨(some 49), .mv (.t 7), none, []⟩,
       ⟨(some 50), .convF .f64 (.t 49), none, []⟩,
       ⟨(some 51), .bin .quo (.k (.c (.float .f64 4607182418800017408))) (.t 50), none, []⟩,
       ⟨(some 52), .mv (.t 5), none, []⟩,
       ⟨(some 53), .mv (.t 6), none, []⟩,
       ⟨(some 54), .bin .mul (.t 52) (.t 53), none, []⟩,
       ⟨(some 55), .bin .add (.t 51) (.t 54), none, []⟩,
       ⟨(some 6), .mv (.t 55), none, []⟩]))
    (.ops false [⟨(some 47), .mv (.t 7), none, []⟩,
     ⟨(some 48), .bin .sub (.t 47) (.k (iv 2)), none, []⟩,
     ⟨(some 7), .mv (.t 48), none, []⟩]))))))
 (.seq (.ops false [⟨(some 56), .mv (.t 4), none, []⟩,
   ⟨(some 57), .mv (.t 6), none, []⟩,
   ⟨(some 58), .bin .mul (.t 56) (.t 57), none, []⟩,
   ⟨(some 59), .bin .mul (.k (.c (.float .f64 4611686018427387904))) (.t 58), none, []⟩,
   ⟨(some 60), .mv (.t 3), none, []⟩,
   ⟨(some 61), .convF .f64 (.t 60), none, []⟩,
   ⟨(some 62), .bin .mul (.t 61) (.k (.c (.float .f64 4604418534313441775))), none, []⟩,
   ⟨(some 63), .bin .add (.t 59) (.t 62), none, []⟩,
   ⟨(some 2), .mv (.t 63), none, []⟩])
 .ret))))))))))⟩
theorem code79 : acode Try.prog hints 79 = some L79 := by kernel_rfl

-- spec.l01Narrow
def L78 : AFun := ⟨5, [.t 2],
 (.seq (.ops false [⟨(some 2), .mv (.k (.c (.float .f32 0))), none, []⟩])
 (.seq (.ops false [⟨(some 3), .mv (.t 0), none, []⟩,
   ⟨(some 4), .convF .f32 (.t 3), none, []⟩,
   ⟨(some 2), .mv (.t 4), none, []⟩])
 .ret))⟩
theorem code78 : acode Try.prog hints 78 = some L78 := by kernel_rfl

-- spec.l01Log
def L54 : AFun := ⟨7, [.t 2],
 (.seq (.ops false [⟨(some 2), .mv (.k (.c (.float .f32 0))), none, []⟩])
 (.seq (.ops false [⟨(some 3), .mv (.t 0), none, []⟩,
   ⟨(some 4), .convF .f64 (.t 3), none, []⟩,
   ⟨(some 5), .call (.f 79) [(.t 4)], none, []⟩,
   ⟨(some 6), .call (.f 78) [(.t 5)], none, []⟩,
   ⟨(some 2), .mv (.t 6), none, []⟩])
 .ret))⟩
theorem code54 : acode Try.prog hints 54 = some L54 := by kernel_rfl

-- spec.l01Finite
def L80 : AFun := ⟨7, [.t 2],
 (.seq (.ops false [⟨(some 2), .mv (.k (bv false)), none, []⟩])
 (.seq (.ops false [⟨(some 3), .mv (.t 0), none, []⟩,
   ⟨(some 4), .mv (.t 0), none, []⟩,
   ⟨(some 5), .bin .sub (.t 3) (.t 4), none, []⟩,
   ⟨(some 6), .bin .eql (.t 5) (.k (.c (.float .f32 0))), none, []⟩,
   ⟨(some 2), .mv (.t 6), none, []⟩])
 .ret))⟩
theorem code80 : acode Try.prog hints 80 = some L80 := by kernel_rfl

-- spec.l02Number
def L55 : AFun := ⟨8, [.t 2, .t 3],
 (.seq (.ops false [⟨(some 2), .mv (.k (.c (.float .f32 0))), none, []⟩,
   ⟨(some 3), .mv (.k (bv false)), none, []⟩])
 (.seq (.seq (.ops false [⟨(some 4), .mv (.t 0), none, []⟩,
    ⟨(some 5), .call (.f 80) [(.t 4)], none, []⟩,
    ⟨(some 6), .un .not (.t 5), none, []⟩])
  (.cond (.t 6) (.seq (.ops false [⟨(some 2), .mv (.k (.c (.float .f32 0))), none, []⟩,
     ⟨(some 3), .mv (.k (bv false)), none, []⟩])
   .ret)
   .skip))
 (.seq (.ops false [⟨(some 7), .mv (.t 0), none, []⟩,
   ⟨(some 2), .mv (.t 7), none, []⟩,
   ⟨(some 3), .mv (.k (bv true)), none, []⟩])
 .ret)))⟩
theorem code55 : acode Try.prog hints 55 = some L55 := by kernel_rfl

section
variable {B : List Nat} {b : St} {L : Objs} {l : List AStep} {hist : List Objs} {fr : Frm} {kk : KK} {d : Nat} {chk : List Nat} {g : Option (Nat × Bool)}
theorem A_fb {op : BinOp} {x y : Opd} {k : FloatKind} {a c : Nat} {v : AC} (hx : ev fr x = some (.c (.float k a))) (hy : ev fr y = some (.c (.float k c))) (hv : floatBin op k a c = some v) (hg : gon fr g = some true)
    (h : At B b L l hist ((d, .c v) :: fr) kk) : At B b L (⟨some d, .bin op x y, g, chk⟩ :: l) hist fr kk := by
  refine A_p (v := .c v) ?_ hg h
  simp only [evP, hx, hy, Option.bind_some, binV, if_true, hv, Option.map_some]
theorem A_cvI {x : Opd} {k : FloatKind} {q : IntKind} {n : Int} (hx : ev fr x = some (.c (.int q n))) (hg : gon fr g = some true)
    (h : At B b L l hist ((d, .c (.float k (k.nearest n))) :: fr) kk) : At B b L (⟨some d, .convF k x, g, chk⟩ :: l) hist fr kk :=
  A_p (v := .c (.float k (k.nearest n))) (by simp only [evP, hx, Option.bind_some, convFV]) hg h
theorem A_cvF {x : Opd} {s k : FloatKind} {a : Nat} {v : AV} (hx : ev fr x = some (.c (.float s a))) (hv : convFV k (.c (.float s a)) = some v) (hg : gon fr g = some true)
    (h : At B b L l hist ((d, v) :: fr) kk) : At B b L (⟨some d, .convF k x, g, chk⟩ :: l) hist fr kk :=
  A_p (v := v) (by simp only [evP, hx, Option.bind_some, hv]) hg h
end
abbrev f64 (n : Nat) : AV := .c (.float .f64 n)
abbrev f32 (n : Nat) : AV := .c (.float .f32 n)
theorem near0 : FloatKind.nearest .f64 (-((0 : Nat) : Int)) = 0 := by decide
theorem dbl_stop {f x n : Nat} (e : ¬ Ieee.double.order x c075 = some .lt) : dblF (f + 1) x n = (x, n) := by rw [dblF, if_neg e]
theorem dbl_go {f x n : Nat} (e : Ieee.double.order x c075 = some .lt) : dblF (f + 1) x n = dblF f (fM .f64 x two64) (n + 1) := by rw [dblF, if_pos e]
theorem c_naturalLog {s : St} [Wf s] {x : Nat} (h : Ps Ieee.double x 0 (-6)) : FnV 85 [f64 x] s (f64 (lgW x)) := by
  refine F_start code85 ?_
  have h15 := ge15 h
  repeat' (first
 | refine A_go rfl ?_ | refine A_ifT rfl rfl ?_ | refine A_ifF rfl rfl ?_
 | refine A_add rfl rfl rfl (by omega) ?_ | refine A_sub rfl rfl rfl (by omega) ?_ | refine A_mul rfl rfl rfl (by omega) ?_ | refine A_quo rfl rfl rfl (by omega) ?_
 | ((first | refine A_lt rfl rfl rfl ?_ ?_ | refine A_ge rfl rfl rfl ?_ ?_) <;> intro hc <;> try first | contradiction | (exfalso; omega) | exact absurd rfl hc)
 | refine A_p (by rfl) rfl ?_
 | refine A_ret1 rfl (by exact (RP.t rfl RP.nil)) ?_)
  refine A_unroll rfl ?_
  repeat' (first
 | refine A_go rfl ?_ | refine A_ifT rfl rfl ?_ | refine A_ifF rfl rfl ?_
 | refine A_add rfl rfl rfl (by omega) ?_ | refine A_sub rfl rfl rfl (by omega) ?_ | refine A_mul rfl rfl rfl (by omega) ?_ | refine A_quo rfl rfl rfl (by omega) ?_
 | ((first | refine A_lt rfl rfl rfl ?_ ?_ | refine A_ge rfl rfl rfl ?_ ?_) <;> intro hc <;> try first | contradiction | (exfalso; omega) | exact absurd rfl hc)
 | refine A_fb rfl rfl h15 rfl ?_
 | refine A_p (by rfl) rfl ?_
 | refine A_ret1 rfl (by exact (RP.t rfl RP.nil)) ?_)
  refine A_loop rfl [] (fun m fr L => ∃ n y : Nat, m = 7 - n ∧ fr = [(0, f64 y), (3, f64 (FloatKind.nearest .f64 (-(n : Int))))] ∧ L = [] ∧ n ≤ 6 ∧ Ps Ieee.double y 1 (-6 + n) ∧ dblF (7 - n) y n = dblF 7 x 0) 7 ⟨0, x, rfl, by rw [near0]; rfl, rfl, by omega, h.mono (by omega) (by omega), rfl⟩ ?_
  rintro m fr L ⟨n, y, rfl, rfl, rfl, hn, hy, hd⟩
  by_cases hlt : Ieee.double.order y c075 = some .lt
  · obtain ⟨h1, h2, h3, h4⟩ := lt075 hy (by omega) hlt
    have hn6 : n < 6 := by omega
    have he : floatBin .sub .f64 (FloatKind.nearest .f64 (-(n : Int))) one64 = some (.float .f64 (FloatKind.nearest .f64 (-((n + 1 : Nat) : Int)))) := by
      show (Ieee.double.sub _ _).map (AC.float .f64) = _
      rw [tab_e n hn6]; rfl
    repeat' (first
 | refine A_go rfl ?_ | refine A_ifT rfl rfl ?_ | refine A_ifF rfl rfl ?_
 | refine A_add rfl rfl rfl (by omega) ?_ | refine A_sub rfl rfl rfl (by omega) ?_ | refine A_mul rfl rfl rfl (by omega) ?_ | refine A_quo rfl rfl rfl (by omega) ?_
 | ((first | refine A_lt rfl rfl rfl ?_ ?_ | refine A_ge rfl rfl rfl ?_ ?_) <;> intro hc <;> try first | contradiction | (exfalso; omega) | exact absurd rfl hc)
 | refine A_fb rfl rfl h2 rfl ?_
 | refine A_fb rfl rfl h3 rfl ?_
 | refine A_fb rfl rfl he rfl ?_
 | refine A_p (by rfl) rfl ?_
 | refine A_ret1 rfl (by exact (RP.t rfl RP.nil)) ?_)
    refine A_round rfl [] (7 - (n + 1)) (by omega) ?_
    refine ⟨n + 1, _, rfl, rfl, rfl, by omega, by rw [show (-6 : Int) + ((n + 1 : Nat) : Int) = -6 + n + 1 by omega]; exact h4, ?_⟩
    rw [← hd, show 7 - n = 7 - (n + 1) + 1 by omega, dbl_go hlt]
  have h2 := ge075 hlt
  have hfin : dblF 7 x 0 = (y, n) := by rw [← hd, show 7 - n = 6 - n + 1 by omega, dbl_stop hlt]
  have hW : lgW x = lgX y n := by rw [lgW, hfin]
  obtain ⟨s1, s2, s3, s4, s5, s6⟩ := s_ops hy
  obtain ⟨t1, t2, t3, t4, t5⟩ := end_ops hy (by omega : n ≤ 8)
  rw [hW]
  repeat' (first
 | refine A_go rfl ?_ | refine A_ifT rfl rfl ?_ | refine A_ifF rfl rfl ?_
 | refine A_add rfl rfl rfl (by omega) ?_ | refine A_sub rfl rfl rfl (by omega) ?_ | refine A_mul rfl rfl rfl (by omega) ?_ | refine A_quo rfl rfl rfl (by omega) ?_
 | ((first | refine A_lt rfl rfl rfl ?_ ?_ | refine A_ge rfl rfl rfl ?_ ?_) <;> intro hc <;> try first | contradiction | (exfalso; omega) | exact absurd rfl hc)
 | refine A_fb rfl rfl h2 rfl ?_
 | refine A_fb rfl rfl s1 rfl ?_
 | refine A_fb rfl rfl s2 rfl ?_
 | refine A_fb rfl rfl s3 rfl ?_
 | refine A_fb rfl rfl s5 rfl ?_
 | refine A_p (by rfl) rfl ?_
 | refine A_ret1 rfl (by exact (RP.t rfl RP.nil)) ?_)
  refine A_loop rfl [] (fun m fr L => ∃ i : Nat, m = 13 - i ∧ fr = [(3, f64 (FloatKind.nearest .f64 (-(n : Int)))), (4, f64 (sX y)), (5, f64 (uX y)), (6, f64 (qN (uX y) i)), (7, f64 (kk i))] ∧ L = [] ∧ i ≤ 13) 13 ⟨0, rfl, by rw [kk0]; rfl, rfl, by omega⟩ ?_
  rintro m fr L ⟨i, rfl, rfl, rfl, hi⟩
  by_cases hi' : i < 13
  · obtain ⟨q1, q2, q3, q4, q5⟩ := q_ops s6 hi'
    repeat' (first
 | refine A_go rfl ?_ | refine A_ifT rfl rfl ?_ | refine A_ifF rfl rfl ?_
 | refine A_add rfl rfl rfl (by omega) ?_ | refine A_sub rfl rfl rfl (by omega) ?_ | refine A_mul rfl rfl rfl (by omega) ?_ | refine A_quo rfl rfl rfl (by omega) ?_
 | ((first | refine A_lt rfl rfl rfl ?_ ?_ | refine A_ge rfl rfl rfl ?_ ?_) <;> intro hc <;> try first | contradiction | (exfalso; omega) | exact absurd rfl hc)
 | refine A_fb rfl rfl q5 rfl ?_
 | refine A_fb rfl rfl q1 rfl ?_
 | refine A_fb rfl rfl q2 rfl ?_
 | refine A_fb rfl rfl q3 rfl ?_
 | refine A_fb rfl rfl q4 rfl ?_
 | refine A_p (by rfl) rfl ?_
 | refine A_ret1 rfl (by exact (RP.t rfl RP.nil)) ?_)
    refine A_round rfl [] (13 - (i + 1)) (by omega) ?_
    exact ⟨i + 1, rfl, rfl, rfl, by omega⟩
  obtain rfl : i = 13 := by omega
  have q5 := q_end
  repeat' (first
 | refine A_go rfl ?_ | refine A_ifT rfl rfl ?_ | refine A_ifF rfl rfl ?_
 | refine A_add rfl rfl rfl (by omega) ?_ | refine A_sub rfl rfl rfl (by omega) ?_ | refine A_mul rfl rfl rfl (by omega) ?_ | refine A_quo rfl rfl rfl (by omega) ?_
 | ((first | refine A_lt rfl rfl rfl ?_ ?_ | refine A_ge rfl rfl rfl ?_ ?_) <;> intro hc <;> try first | contradiction | (exfalso; omega) | exact absurd rfl hc)
 | refine A_fb rfl rfl q5 rfl ?_
 | refine A_fb rfl rfl t1 rfl ?_
 | refine A_fb rfl rfl t2 rfl ?_
 | refine A_fb rfl rfl t3 rfl ?_
 | refine A_fb rfl rfl t4 rfl ?_
 | refine A_p (by rfl) rfl ?_
 | refine A_ret1 rfl (by exact (RP.t rfl RP.nil)) ?_)
  exact R_v rfl
theorem eq00_s : floatBin .eql .f32 0 0 = some (.bool true) := by
  show some (AC.bool (Ieee.single.order 0 0 == some .eq)) = _
  rw [show (Ieee.single.order 0 0 == some .eq) = true by decide]
theorem fin_ops {x : Nat} {j : Int} (h : Bd Ieee.single x j) : floatBin .sub .f32 x x = some (.float .f32 0) := by
  show (Ieee.single.sub x x).map (AC.float .f32) = _
  rw [sub_self h]; rfl
theorem c_isFin {s : St} [Wf s] {x : Nat} {j : Int} (h : Bd Ieee.single x j) : FnV 84 [f32 x] s (bv true) := by
  have h1 := fin_ops h
  refine F_start code84 ?_
  repeat' (first
 | refine A_go rfl ?_ | refine A_ifT rfl rfl ?_ | refine A_ifF rfl rfl ?_
 | refine A_sub rfl rfl rfl (by omega) ?_
 | ((first | refine A_eq rfl rfl rfl ?_ ?_) <;> intro hc <;> try first | contradiction | (exfalso; omega) | exact absurd rfl hc)
 | refine A_fb rfl rfl h1 rfl ?_
 | refine A_fb rfl rfl eq00_s rfl ?_
 | refine A_p (by rfl) rfl ?_
 | refine A_ret1 rfl (by exact (RP.t rfl RP.nil)) ?_)
  exact R_v rfl
theorem c_specFin {s : St} [Wf s] {x : Nat} {j : Int} (h : Bd Ieee.single x j) : FnV 80 [f32 x] s (bv true) := by
  have h1 := fin_ops h
  refine F_start code80 ?_
  repeat' (first
 | refine A_go rfl ?_ | refine A_ifT rfl rfl ?_ | refine A_ifF rfl rfl ?_
 | refine A_sub rfl rfl rfl (by omega) ?_
 | ((first | refine A_eq rfl rfl rfl ?_ ?_) <;> intro hc <;> try first | contradiction | (exfalso; omega) | exact absurd rfl hc)
 | refine A_fb rfl rfl h1 rfl ?_
 | refine A_fb rfl rfl eq00_s rfl ?_
 | refine A_p (by rfl) rfl ?_
 | refine A_ret1 rfl (by exact (RP.t rfl RP.nil)) ?_)
  exact R_v rfl
theorem c_l02Number {s : St} [Wf s] {x : Nat} {j : Int} (h : Bd Ieee.single x j) : FnV 55 [f32 x] s (.tup [.c (.float .f32 x), .c (.bool true)]) := by
  refine F_start code55 ?_
  repeat' (first
 | refine A_go rfl ?_ | refine A_ifT rfl rfl ?_ | refine A_ifF rfl rfl ?_
 | refine A_callV rfl rfl (fun s H => c_specFin h) ?_
 | refine A_p (by rfl) rfl ?_
 | refine A_ret rfl (by exact (RP.t rfl (RP.t rfl RP.nil))) ?_)
  exact R_v rfl
theorem pos_ops {k : FloatKind} {x : Nat} {j b : Int} (h : Ps k.format x j b) (h0 : k.format.read 0 = .number false 0 k.format.leastPlace) : floatBin .eql k x 0 = some (.bool false) ∧ floatBin .lss k x 0 = some (.bool false) ∧ floatBin .neq k x x = some (.bool false) := by
  have e := ord_zero h h0
  have e2 := ord_refl h.bd
  refine ⟨?_, ?_, ?_⟩
  · show some (AC.bool (k.format.order x 0 == some .eq)) = _
    rw [e]; rfl
  · show some (AC.bool (k.format.order x 0 == some .lt)) = _
    rw [e]; rfl
  · show some (AC.bool (k.format.order x x != some .eq)) = _
    rw [e2]; rfl
theorem r0_s : Ieee.Format.read (FloatKind.format .f32) 0 = .number false 0 (Ieee.Format.leastPlace (FloatKind.format .f32)) := by decide
theorem r0_d : Ieee.Format.read (FloatKind.format .f64) 0 = .number false 0 (Ieee.Format.leastPlace (FloatKind.format .f64)) := by decide
theorem dbl_bd : ∀ (f n : Nat) (y : Nat), f + n = 7 → Ps Ieee.double y 1 (-6 + n) → ∃ z k, dblF f y n = (z, k) ∧ Ps Ieee.double z 1 (-6 + (k : Int)) ∧ k ≤ 7
  | 0, n, y, hf, h => ⟨y, n, rfl, h, by omega⟩
  | f + 1, n, y, hf, h => by
    by_cases hlt : Ieee.double.order y c075 = some .lt
    · obtain ⟨_, _, _, h4⟩ := lt075 h (by omega) hlt
      rw [dbl_go hlt]
      exact dbl_bd f (n + 1) _ (by omega) (by rw [show (-6 : Int) + ((n + 1 : Nat) : Int) = -6 + n + 1 by omega]; exact h4)
    · rw [dbl_stop hlt]
      exact ⟨y, n, rfl, h, by omega⟩
theorem lgW_bd {x : Nat} (h : Ps Ieee.double x 0 (-6)) : Bd Ieee.double (lgW x) 15 := by
  obtain ⟨z, k, e, hz, hk⟩ := dbl_bd 7 0 x rfl (h.mono (by omega) (by omega))
  rw [lgW, e]
  exact (end_ops hz (by omega)).2.2.2.2
def lgF (x : Nat) : Nat := cvF .f64 .f32 (lgW (cvF .f32 .f64 x))
theorem lgF_ops {x : Nat} (h : Ps Ieee.single x 0 (-6)) : convFV .f64 (f32 x) = some (f64 (cvF .f32 .f64 x)) ∧ Ps Ieee.double (cvF .f32 .f64 x) 0 (-6) ∧ convFV .f32 (f64 (lgW (cvF .f32 .f64 x))) = some (f32 (lgF x)) ∧ Bd Ieee.single (lgF x) 15 := by
  have h1 := cv_bd (s := .f32) (k := .f64) h.bd (okD (by omega)) (by decide)
  have h2 := cv_ps (s := .f32) (k := .f64) h (okD (by omega)) (loD (by omega)) (by omega)
  have h3 := cv_bd (s := .f64) (k := .f32) (lgW_bd h2) (okS (by omega)) (by decide)
  exact ⟨h1.1, h2, h3.1, h3.2⟩
theorem c_LogNumber {s : St} [Wf s] {x : Nat} (h : Ps Ieee.single x 0 (-6)) : FnV 57 [f32 x] s (f32 (lgF x)) := by
  obtain ⟨h1, h2, h3⟩ := pos_ops (k := .f32) h r0_s
  obtain ⟨g1, g2, g3, _⟩ := lgF_ops h
  refine F_start code57 ?_
  repeat' (first
 | refine A_go rfl ?_ | refine A_ifT rfl rfl ?_ | refine A_ifF rfl rfl ?_
 | refine A_offP rfl rfl ?_ | refine A_offH rfl rfl ?_ | refine A_off0 rfl rfl ?_
 | ((first | refine A_lt rfl rfl rfl ?_ ?_ | refine A_eq rfl rfl rfl ?_ ?_ | refine A_ne rfl rfl rfl ?_ ?_) <;> intro hc <;> try first | contradiction | (exfalso; omega) | exact absurd rfl hc)
 | refine A_fb rfl rfl h1 rfl ?_
 | refine A_fb rfl rfl h2 rfl ?_
 | refine A_fb rfl rfl h3 rfl ?_
 | refine A_callV rfl rfl (fun s H => c_isFin h.bd) ?_
 | refine A_cvF rfl g1 rfl ?_
 | refine A_callV rfl rfl (fun s H => c_naturalLog g2) ?_
 | refine A_cvF rfl g3 rfl ?_
 | refine A_p (by rfl) rfl ?_
 | refine A_ret1 rfl (by exact (RP.t rfl RP.nil)) ?_)
  exact R_v rfl
theorem c_isInf {s : St} [Wf s] {x : Nat} {b : Int} (h : Ps Ieee.double x 0 b) : FnV 93 [f64 x, iv 1] s (bv false) := by
  have h1 := gtmx h
  refine F_start code93 ?_
  repeat' (first
 | refine A_go rfl ?_ | refine A_ifT rfl rfl ?_ | refine A_ifF rfl rfl ?_
 | ((first | refine A_lt rfl rfl rfl ?_ ?_ | refine A_gt rfl rfl rfl ?_ ?_ | refine A_eq rfl rfl rfl ?_ ?_) <;> intro hc <;> try first | contradiction | (exfalso; omega) | exact absurd rfl hc)
 | refine A_fb rfl rfl h1 rfl ?_
 | refine A_p (by rfl) rfl ?_
 | refine A_ret1 rfl (by exact (RP.t rfl RP.nil)) ?_)
  exact R_v rfl
theorem c_l01LogWide {s : St} [Wf s] {x : Nat} (h : Ps Ieee.double x 0 (-6)) : FnV 79 [f64 x] s (f64 (lgW x)) := by
  obtain ⟨z1, z2, z3⟩ := pos_ops (k := .f64) h r0_d
  refine F_start code79 ?_
  have h15 := ge15 h
  repeat' (first
 | refine A_go rfl ?_ | refine A_ifT rfl rfl ?_ | refine A_ifF rfl rfl ?_
 | refine A_offP rfl rfl ?_ | refine A_offH rfl rfl ?_ | refine A_off0 rfl rfl ?_
 | refine A_add rfl rfl rfl (by omega) ?_ | refine A_sub rfl rfl rfl (by omega) ?_ | refine A_mul rfl rfl rfl (by omega) ?_ | refine A_quo rfl rfl rfl (by omega) ?_
 | ((first | refine A_lt rfl rfl rfl ?_ ?_ | refine A_ge rfl rfl rfl ?_ ?_ | refine A_eq rfl rfl rfl ?_ ?_ | refine A_ne rfl rfl rfl ?_ ?_) <;> intro hc <;> try first | contradiction | (exfalso; omega) | exact absurd rfl hc)
 | refine A_fb rfl rfl z1 rfl ?_
 | refine A_fb rfl rfl z2 rfl ?_
 | refine A_fb rfl rfl z3 rfl ?_
 | refine A_callV rfl rfl (fun s H => c_isInf h) ?_
 | refine A_p (by rfl) rfl ?_
 | refine A_ret1 rfl (by exact (RP.t rfl RP.nil)) ?_)
  refine A_unroll rfl ?_
  repeat' (first
 | refine A_go rfl ?_ | refine A_ifT rfl rfl ?_ | refine A_ifF rfl rfl ?_
 | refine A_offP rfl rfl ?_ | refine A_offH rfl rfl ?_ | refine A_off0 rfl rfl ?_
 | refine A_add rfl rfl rfl (by omega) ?_ | refine A_sub rfl rfl rfl (by omega) ?_ | refine A_mul rfl rfl rfl (by omega) ?_ | refine A_quo rfl rfl rfl (by omega) ?_
 | ((first | refine A_lt rfl rfl rfl ?_ ?_ | refine A_ge rfl rfl rfl ?_ ?_ | refine A_eq rfl rfl rfl ?_ ?_ | refine A_ne rfl rfl rfl ?_ ?_) <;> intro hc <;> try first | contradiction | (exfalso; omega) | exact absurd rfl hc)
 | refine A_fb rfl rfl h15 rfl ?_
 | refine A_p (by rfl) rfl ?_
 | refine A_ret1 rfl (by exact (RP.t rfl RP.nil)) ?_)
  refine A_loop rfl [] (fun m fr L => ∃ n y : Nat, m = 7 - n ∧ fr = [(0, f64 y), (3, iv (-(n : Int)))] ∧ L = [] ∧ n ≤ 6 ∧ Ps Ieee.double y 1 (-6 + n) ∧ dblF (7 - n) y n = dblF 7 x 0) 7 ⟨0, x, rfl, rfl, rfl, by omega, h.mono (by omega) (by omega), rfl⟩ ?_
  rintro m fr L ⟨n, y, rfl, rfl, rfl, hn, hy, hd⟩
  by_cases hlt : Ieee.double.order y c075 = some .lt
  · obtain ⟨h1, h2, h3, h4⟩ := lt075 hy (by omega) hlt
    have hn6 : n < 6 := by omega
    have hneg : -(n : Int) - 1 = -((n + 1 : Nat) : Int) := by omega
    repeat' (first
 | refine A_go rfl ?_ | refine A_ifT rfl rfl ?_ | refine A_ifF rfl rfl ?_
 | refine A_offP rfl rfl ?_ | refine A_offH rfl rfl ?_ | refine A_off0 rfl rfl ?_
 | refine A_add rfl rfl rfl (by omega) ?_ | refine A_sub rfl rfl rfl (by omega) ?_ | refine A_mul rfl rfl rfl (by omega) ?_ | refine A_quo rfl rfl rfl (by omega) ?_
 | ((first | refine A_lt rfl rfl rfl ?_ ?_ | refine A_ge rfl rfl rfl ?_ ?_ | refine A_eq rfl rfl rfl ?_ ?_ | refine A_ne rfl rfl rfl ?_ ?_) <;> intro hc <;> try first | contradiction | (exfalso; omega) | exact absurd rfl hc)
 | refine A_fb rfl rfl h2 rfl ?_
 | refine A_fb rfl rfl h3 rfl ?_
 | refine A_p (by rfl) rfl ?_
 | refine A_ret1 rfl (by exact (RP.t rfl RP.nil)) ?_)
    refine A_round rfl [] (7 - (n + 1)) (by omega) ?_
    refine ⟨n + 1, _, rfl, by rw [← hneg]; rfl, rfl, by omega, by rw [show (-6 : Int) + ((n + 1 : Nat) : Int) = -6 + n + 1 by omega]; exact h4, ?_⟩
    rw [← hd, show 7 - n = 7 - (n + 1) + 1 by omega, dbl_go hlt]
  have h2 := ge075 hlt
  have hfin : dblF 7 x 0 = (y, n) := by rw [← hd, show 7 - n = 6 - n + 1 by omega, dbl_stop hlt]
  have hW : lgW x = lgX y n := by rw [lgW, hfin]
  obtain ⟨s1, s2, s3, s4, s5, s6⟩ := s_ops hy
  obtain ⟨t1, t2, t3, t4, t5⟩ := end_ops hy (by omega : n ≤ 8)
  rw [hW]
  repeat' (first
 | refine A_go rfl ?_ | refine A_ifT rfl rfl ?_ | refine A_ifF rfl rfl ?_
 | refine A_offP rfl rfl ?_ | refine A_offH rfl rfl ?_ | refine A_off0 rfl rfl ?_
 | refine A_add rfl rfl rfl (by omega) ?_ | refine A_sub rfl rfl rfl (by omega) ?_ | refine A_mul rfl rfl rfl (by omega) ?_ | refine A_quo rfl rfl rfl (by omega) ?_
 | ((first | refine A_lt rfl rfl rfl ?_ ?_ | refine A_ge rfl rfl rfl ?_ ?_ | refine A_eq rfl rfl rfl ?_ ?_ | refine A_ne rfl rfl rfl ?_ ?_) <;> intro hc <;> try first | contradiction | (exfalso; omega) | exact absurd rfl hc)
 | refine A_fb rfl rfl h2 rfl ?_
 | refine A_fb rfl rfl s1 rfl ?_
 | refine A_fb rfl rfl s2 rfl ?_
 | refine A_fb rfl rfl s3 rfl ?_
 | refine A_fb rfl rfl s5 rfl ?_
 | refine A_p (by rfl) rfl ?_
 | refine A_ret1 rfl (by exact (RP.t rfl RP.nil)) ?_)
  refine A_loop rfl [] (fun m fr L => ∃ i : Nat, m = 13 - i ∧ fr = [(3, iv (-(n : Int))), (4, f64 (sX y)), (5, f64 (uX y)), (6, f64 (qN (uX y) i)), (7, iv (25 - 2 * (i : Int)))] ∧ L = [] ∧ i ≤ 13) 13 ⟨0, rfl, rfl, rfl, by omega⟩ ?_
  rintro m fr L ⟨i, rfl, rfl, rfl, hi⟩
  by_cases hi' : i < 13
  · obtain ⟨q1, q2, q3, q4, q5⟩ := q_ops s6 hi'
    have hk2 : 25 - 2 * (i : Int) - 2 = 25 - 2 * ((i + 1 : Nat) : Int) := by omega
    unfold kk at q1 q3
    repeat' (first
 | refine A_go rfl ?_ | refine A_ifT rfl rfl ?_ | refine A_ifF rfl rfl ?_
 | refine A_offP rfl rfl ?_ | refine A_offH rfl rfl ?_ | refine A_off0 rfl rfl ?_
 | refine A_add rfl rfl rfl (by omega) ?_ | refine A_sub rfl rfl rfl (by omega) ?_ | refine A_mul rfl rfl rfl (by omega) ?_ | refine A_quo rfl rfl rfl (by omega) ?_
 | ((first | refine A_lt rfl rfl rfl ?_ ?_ | refine A_ge rfl rfl rfl ?_ ?_ | refine A_eq rfl rfl rfl ?_ ?_ | refine A_ne rfl rfl rfl ?_ ?_) <;> intro hc <;> try first | contradiction | (exfalso; omega) | exact absurd rfl hc)
 | refine A_cvI rfl rfl ?_
 | refine A_fb rfl rfl q1 rfl ?_
 | refine A_fb rfl rfl q2 rfl ?_
 | refine A_fb rfl rfl q3 rfl ?_
 | refine A_p (by rfl) rfl ?_
 | refine A_ret1 rfl (by exact (RP.t rfl RP.nil)) ?_)
    refine A_round rfl [] (13 - (i + 1)) (by omega) ?_
    exact ⟨i + 1, rfl, by rw [← hk2]; rfl, rfl, by omega⟩
  obtain rfl : i = 13 := by omega
  repeat' (first
 | refine A_go rfl ?_ | refine A_ifT rfl rfl ?_ | refine A_ifF rfl rfl ?_
 | refine A_offP rfl rfl ?_ | refine A_offH rfl rfl ?_ | refine A_off0 rfl rfl ?_
 | refine A_add rfl rfl rfl (by omega) ?_ | refine A_sub rfl rfl rfl (by omega) ?_ | refine A_mul rfl rfl rfl (by omega) ?_ | refine A_quo rfl rfl rfl (by omega) ?_
 | ((first | refine A_lt rfl rfl rfl ?_ ?_ | refine A_ge rfl rfl rfl ?_ ?_ | refine A_eq rfl rfl rfl ?_ ?_ | refine A_ne rfl rfl rfl ?_ ?_) <;> intro hc <;> try first | contradiction | (exfalso; omega) | exact absurd rfl hc)
 | refine A_cvI rfl rfl ?_
 | refine A_fb rfl rfl t1 rfl ?_
 | refine A_fb rfl rfl t2 rfl ?_
 | refine A_fb rfl rfl t3 rfl ?_
 | refine A_fb rfl rfl t4 rfl ?_
 | refine A_p (by rfl) rfl ?_
 | refine A_ret1 rfl (by exact (RP.t rfl RP.nil)) ?_)
  exact R_v rfl
theorem c_l01Narrow {s : St} [Wf s] {x v : Nat} (h : convFV .f32 (f64 x) = some (f32 v)) : FnV 78 [f64 x] s (f32 v) := by
  refine F_start code78 ?_
  repeat' (first
 | refine A_go rfl ?_ | refine A_ifT rfl rfl ?_ | refine A_ifF rfl rfl ?_
 | refine A_cvF rfl h rfl ?_
 | refine A_p (by rfl) rfl ?_
 | refine A_ret1 rfl (by exact (RP.t rfl RP.nil)) ?_)
  exact R_v rfl
theorem c_l01Log {s : St} [Wf s] {x : Nat} (h : Ps Ieee.single x 0 (-6)) : FnV 54 [f32 x] s (f32 (lgF x)) := by
  obtain ⟨g1, g2, g3, _⟩ := lgF_ops h
  refine F_start code54 ?_
  repeat' (first
 | refine A_go rfl ?_ | refine A_ifT rfl rfl ?_ | refine A_ifF rfl rfl ?_
 | refine A_cvF rfl g1 rfl ?_
 | refine A_callV rfl rfl (fun s H => c_l01LogWide g2) ?_
 | refine A_callV rfl rfl (fun s H => c_l01Narrow g3) ?_
 | refine A_p (by rfl) rfl ?_
 | refine A_ret1 rfl (by exact (RP.t rfl RP.nil)) ?_)
  exact R_v rfl

end Go.Proofs.Ytlmbgaoeplffkaa
