/- Shifts by small numbers, and last bits. -/
import Derived.Test.YtlhidckolillaaaXlists
import Derived.Test.YtlhidckolillaaaFB
namespace Go.Proofs.Ytlhidckolillaaa
open Go Go.RowKit
set_option linter.unusedVariables false
set_option linter.unusedSimpArgs false
set_option maxRecDepth 100000
set_option maxHeartbeats 8000000


theorem A_shlF {B : List Nat} {b : St} {L : Objs} {l : List AStep} {hist : List Objs} {fr : Frm} {kk : KK} {d : Nat} {chk : List Nat} {g : Option (Nat × Bool)} {y : Opd} {n : Nat} {q : IntKind} (hy : ev fr y = some (.c (.int q (n : Int)))) (hg : gon fr g = some true) (hn : n ≤ 12)
    (h : At B b L l hist ((d, iv ((2 ^ n : Nat) : Int)) :: fr) kk) : At B b L (⟨some d, .bin .shl (.k (iv 1)) y, g, chk⟩ :: l) hist fr kk := by
  refine A_p ?_ hg h
  have hx : ev fr (.k (iv 1)) = some (iv 1) := rfl
  simp only [evP, hx, hy, Option.bind_some, binV, intBin]
  rw [if_neg (by omega)]
  obtain rfl | rfl | rfl | rfl | rfl | rfl | rfl | rfl | rfl | rfl | rfl | rfl | rfl : n = 0 ∨ n = 1 ∨ n = 2 ∨ n = 3 ∨ n = 4 ∨ n = 5 ∨ n = 6 ∨ n = 7 ∨ n = 8 ∨ n = 9 ∨ n = 10 ∨ n = 11 ∨ n = 12 := by omega
  all_goals rfl
theorem A_shrF {B : List Nat} {b : St} {L : Objs} {l : List AStep} {hist : List Objs} {fr : Frm} {kk : KK} {d : Nat} {chk : List Nat} {g : Option (Nat × Bool)} {x y : Opd} {a n : Nat} {q : IntKind} (hx : ev fr x = some (iv (a : Int))) (hy : ev fr y = some (.c (.int q (n : Int)))) (hg : gon fr g = some true) (hn : n ≤ 60)
    (h : At B b L l hist ((d, iv ((a / 2 ^ n : Nat) : Int)) :: fr) kk) : At B b L (⟨some d, .bin .shr x y, g, chk⟩ :: l) hist fr kk := by
  refine A_p ?_ hg h
  simp only [evP, hx, hy, Option.bind_some, binV, intBin]
  rw [if_neg (by omega)]
  have e : min (n : Int).toNat (IntKind.bits .i64) = n := by
    have : IntKind.bits .i64 = 64 := rfl
    rw [this]; omega
  rw [e, Int.fdiv_eq_ediv_of_nonneg _ (by have : (0:Int) < 2 ^ n := Int.pow_pos (by decide); omega)]
  push_cast; rfl
theorem A_andF {B : List Nat} {b : St} {L : Objs} {l : List AStep} {hist : List Objs} {fr : Frm} {kk : KK} {d : Nat} {chk : List Nat} {g : Option (Nat × Bool)} {x : Opd} {a : Nat} (hx : ev fr x = some (iv (a : Int))) (hg : gon fr g = some true)
    (h : At B b L l hist ((d, iv ((a % 2 : Nat) : Int)) :: fr) kk) : At B b L (⟨some d, .bin .and x (.k (iv 1)), g, chk⟩ :: l) hist fr kk := by
  have hy : ev fr (.k (iv 1)) = some (iv 1) := rfl
  refine A_p (v := iv (IntKind.wrap .i64 ((BitVec.ofInt 64 (a : Int) &&& BitVec.ofInt 64 1).toNat : Int))) (by simp only [evP, hx, hy, Option.bind_some, binV, intBin, if_true]; rfl) hg ?_
  have e1 : (BitVec.ofInt 64 (a : Int) &&& BitVec.ofInt 64 1).toNat = a % 2 := by
    rw [BitVec.toNat_and]
    have h1 : (BitVec.ofInt 64 1).toNat = 1 := by decide
    have h2 : (BitVec.ofInt 64 (a : Int)).toNat = a % 2 ^ 64 := by
      rw [BitVec.toNat_ofInt]; omega
    rw [h1, h2, Nat.and_one_is_mod]; omega
  rw [e1, wrap_in (by unfold in64; omega)]
  exact h
/-! ### where control goes on -/
def unw : Nat → AOut → KK → Option KK
  | 0, _, _ => none
  | f + 1, o, .thn c k => match o with
    | .normal => (match c with | .exit id => unw f (.exit id) k | .skip => unw f .normal k | c => some (.thn c k))
    | o => unw f o k
  | f + 1, o, .blk id k => unw f (exitTo id o) k
  | f + 1, o, .rnd _ _ _ k => match o with | .normal => none | o => unw f o k
  | _ + 1, _, .ret _ _ => none
theorem unw_ok {B : List Nat} {b : St} {fr : Frm} {s : St} : ∀ (f : Nat) (o : AOut) (k k2 : KK), unw f o k = some k2 → KQ B b k2 .normal fr s → KQ B b k o fr s := by
  intro f
  induction f with
  | zero => intro o k k2 h; cases h
  | succ f ih =>
    intro o k k2 h hq
    cases k with
    | ret res P => cases h
    | thn c k =>
      cases o with
      | normal =>
        cases c with
        | exit id => exact C_exit (ih _ _ _ h hq)
        | skip => exact C_skip (ih _ _ _ h hq)
        | _ => obtain rfl := Option.some.inj h; exact hq
      | exit id => exact ih (.exit id) k _ h hq
      | ret => exact ih .ret k _ h hq
    | blk id k => exact ih (exitTo id o) k _ h hq
    | rnd live n I k =>
      cases o with
      | normal => cases h
      | exit id => exact ih (.exit id) k _ h hq
      | ret => exact ih .ret k _ h hq
/-- To the rest of the code that follows: its name may be 'tlc n body'. -/
theorem A_to {B : List Nat} {b : St} {L : Objs} {hist : List Objs} {fr : Frm} {k k2 : KK} (h : unw 99 .normal k = some k2) (h2 : At B b L [] [] fr k2) : At B b L [] hist fr k :=
  .nil fun s H => unw_ok 99 _ _ _ h (by
    obtain ⟨fr', s', e, c⟩ := (h2.ok s [] H .nil).ex
    cases e; exact c)
def tlc : Nat → ACode → ACode
  | 0, c => c
  | n + 1, .seq _ c => tlc n c
  | _ + 1, c => c

end Go.Proofs.Ytlhidckolillaaa
