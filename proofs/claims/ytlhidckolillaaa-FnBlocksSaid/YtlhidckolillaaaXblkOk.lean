/- Tables, blocks and ants, where all is in order. -/
import Derived.Test.YtlhidckolillaaaXblocksL
import Derived.Test.YtlhidckolillaaaXblocks
import Derived.Test.YtlhidckolillaaaXbackTable
import Derived.Test.YtlhidckolillaaaXant
import Derived.Test.YtlhidckolillaaaXtableD
import Derived.Test.YtlhidckolillaaaXmovedOk
import Derived.Test.YtlhidckolillaaaXdraw
import Derived.Test.YtlhidckolillaaaFB
namespace Go.Proofs.Ytlhidckolillaaa
open Go Go.RowKit
set_option linter.unusedVariables false
set_option linter.unusedSimpArgs false
set_option maxRecDepth 100000
set_option maxHeartbeats 8000000
-- laws.r8Same
def L34 : AFun := ⟨26, [.t 4],
 (.seq (.ops false [⟨(some 4), .mv (.k (bv false)), none, []⟩])
 (.seq (.seq (.ops false [⟨(some 6), .mv (.t 0), none, []⟩,
    ⟨(some 7), .len false (.t 6), none, []⟩,
    ⟨(some 8), .mv (.t 1), none, []⟩,
    ⟨(some 9), .len false (.t 8), none, []⟩,
    ⟨(some 10), .bin .neq (.t 7) (.t 9), none, []⟩])
  (.cond (.t 10) (.seq (.ops false [⟨(some 4), .mv (.k (bv false)), none, []⟩])
   .ret)
   .skip))
 (.seq (.seq (.ops false [⟨(some 5), .mv (.k (iv 0)), none, []⟩])
  (.block 0 (.loop [0, 1, 5] (.seq (.seq (.ops false [⟨(some 11), .mv (.t 5), none, []⟩,
       ⟨(some 12), .mv (.t 0), none, []⟩,
       ⟨(some 13), .len false (.t 12), none, []⟩,
       ⟨(some 14), .bin .lss (.t 11) (.t 13), none, []⟩])
     (.cond (.t 14) .skip
      (.exit 0)))
    (.seq (.block 1 (.seq (.ops true [⟨(some 17), .mv (.t 0), none, []⟩,
        ⟨(some 18), .mv (.t 5), none, []⟩,
        ⟨(some 19), .idxA 1 (.t 17) (.t 18), none, []⟩,
        ⟨(some 20), .load false 1 (.t 19), none, []⟩,
        ⟨(some 21), .mv (.t 1), none, []⟩,
        ⟨(some 22), .mv (.t 5), none, []⟩,
        ⟨(some 23), .idxA 1 (.t 21) (.t 22), none, []⟩,
        ⟨(some 24), .load false 1 (.t 23), none, []⟩,
        ⟨(some 25), .bin .neq (.t 20) (.t 24), none, []⟩])
      (.cond (.t 25) (.seq (.ops false [⟨(some 4), .mv (.k (bv false)), none, []⟩])
       .ret)
       .skip)))
    (.ops false [⟨(some 15), .mv (.t 5), none, []⟩,
     ⟨(some 16), .bin .add (.t 15) (.k (iv 1)), none, []⟩,
     ⟨(some 5), .mv (.t 16), none, []⟩]))))))
 (.seq (.ops false [⟨(some 4), .mv (.k (bv true)), none, []⟩])
 .ret))))⟩
theorem code34 : acode Try.prog hints 34 = some L34 := by kernel_rfl


theorem c_bakOk {s : St} [Wf s] {id_xs off_xs len_xs : Nat} {xs : List Int} [h_xs : ArgE ic s id_xs off_xs xs] (hl_xs : xs.length = len_xs := by first | rfl | simp | omega | (simp; omega)) (ht : Turn xs := by assumption) : Fn [] 32 [.c (.sl id_xs off_xs len_xs)] s fun V N => ∃ p, V = .tup [.c (.sl p 0 16), .c (.bool true)] ∧ N = [(p, ints (bak xs 16))] := by
  have h16 := ht.1
  refine (c_implBackTable (xs := xs)).mono fun V N k => ?_
  obtain ⟨p, rfl, rfl, _⟩ := k
  exact ⟨p, by simp only [sel_t ht, tt_t ht, bak_len], by rw [sel_t ht]⟩
theorem c_turnOk2 {s : St} [Wf s] {id_xs off_xs len_xs : Nat} {xs : List Int} [h_xs : ArgE ic s id_xs off_xs xs] (hl_xs : xs.length = len_xs := by first | rfl | simp | omega | (simp; omega)) (ht : Turn xs := by assumption) : FnV 33 [.c (.sl id_xs off_xs len_xs)] s (bv true) := by
  have h16 := ht.1
  refine (c_implTurn (xs := xs)).mono fun V N k => ?_
  rw [tt_t ht] at k; exact k
theorem c_blkOk {s : St} [Wf s] {R C : Nat} {odd : Bool} {f : Int} {id_xs off_xs len_xs : Nat} {xs : List Int} [h_xs : ArgE ic s id_xs off_xs xs] (hl_xs : xs.length = len_xs := by first | rfl | simp | omega | (simp; omega)) {id_tb off_tb len_tb : Nat} {tb : List Int} [h_tb : ArgE ic s id_tb off_tb tb] (hl_tb : tb.length = len_tb := by first | rfl | simp | omega | (simp; omega)) (hf : (if odd = true then (1 : Int) else 0) = f) (hp : PL R C xs := by assumption) (ht : Turn tb := by assumption) (h2 : (R : Int) % 2 = 0 ∧ (C : Int) % 2 = 0) :
    Fn [] 10 [.agg [ic R, ic C, .sl id_xs off_xs len_xs], .c (.sl id_tb off_tb len_tb), bv odd] s fun V N => ∃ p, V = .tup [.agg (fld R C p (R * C)), .c (.bool true)] ∧ N = [(p, ints (mk R C (blkV xs tb R C f)))] := by
  have hb := vf_len hp.1
  have h16 := ht.1
  have h : BlkP R C xs tb := ⟨⟨hp, ht⟩, h2⟩
  subst hf
  refine (c_implBlockStep (r := R) (c := C) (xs := xs) (tb := tb)).mono fun V N k => ?_
  obtain ⟨p, h3, h4⟩ := fr_fld h k
  simp only [Int.toNat_natCast, mk_len] at h3 h4
  exact ⟨p, h3, h4⟩
theorem c_r8Same {s : St} [Wf s] {id_xs off_xs len_xs : Nat} {xs : List Int} [h_xs : ArgE ic s id_xs off_xs xs] (hl_xs : xs.length = len_xs := by first | rfl | simp | omega | (simp; omega)) {id_ys off_ys len_ys : Nat} {ys : List Int} [h_ys : ArgE ic s id_ys off_ys ys] (hl_ys : ys.length = len_ys := by first | rfl | simp | omega | (simp; omega)) (hb : len_xs ≤ 2000000 := by omega) : FnB 34 [.c (.sl id_xs off_xs len_xs), .c (.sl id_ys off_ys len_ys)] s (xs = ys) := by
  refine F_start code34 ?_
  repeat' (first
 | refine A_go rfl ?_ | refine A_ifT rfl rfl ?_ | refine A_ifF rfl rfl ?_
 | refine A_add rfl rfl rfl (by omega) ?_
 | ((first | refine A_lt rfl rfl rfl ?_ ?_ | refine A_ne rfl rfl rfl ?_ ?_) <;> intro hc <;> try first | contradiction | (exfalso; omega) | exact absurd rfl hc)
 | refine A_idxN1 rfl rfl rfl (by omega) ?_ | refine A_idx1 rfl rfl rfl (by omega) ?_
 | refine A_p (by rfl) rfl ?_
 | refine A_ldI rfl (by first | omega | (simp; done) | (simp; omega)) rfl ?_ | refine A_ldB rfl (by first | omega | (simp; done) | (simp; omega)) rfl ?_ | refine A_ld rfl (by rfl) rfl ?_
 | refine A_ret1 rfl (by exact (RP.t rfl RP.nil)) ?_)
  · exact R_f (fun e => by subst e; omega)
  refine A_loop rfl [] (fun m fr L => ∃ i, i ≤ len_xs ∧ m = len_xs - i ∧ fr = [(0, .c (.sl id_xs off_xs len_xs)), (1, .c (.sl id_ys off_ys len_ys)), (5, iv i)] ∧ L = [] ∧ xs.take i = ys.take i) len_xs ⟨0, by omega, rfl, rfl, rfl, by simp⟩ ?_
  rintro m fr L ⟨i, hi, rfl, rfl, rfl, ht⟩
  repeat' (first
 | refine A_go rfl ?_ | refine A_ifT rfl rfl ?_ | refine A_ifF rfl rfl ?_
 | refine A_add rfl rfl rfl (by omega) ?_
 | ((first | refine A_lt rfl rfl rfl ?_ ?_ | refine A_ne rfl rfl rfl ?_ ?_) <;> intro hc <;> try first | contradiction | (exfalso; omega) | exact absurd rfl hc)
 | refine A_idxN1 rfl rfl rfl (by omega) ?_ | refine A_idx1 rfl rfl rfl (by omega) ?_
 | refine A_p (by rfl) rfl ?_
 | refine A_ldI rfl (by first | omega | (simp; done) | (simp; omega)) rfl ?_ | refine A_ldB rfl (by first | omega | (simp; done) | (simp; omega)) rfl ?_ | refine A_ld rfl (by rfl) rfl ?_
 | refine A_ret1 rfl (by exact (RP.t rfl RP.nil)) ?_)
  · exact R_f (fun e => by subst e; omega)
  · refine A_round rfl [] (len_xs - (i + 1)) (by omega) ?_
    exact ⟨i + 1, by omega, rfl, rfl, rfl, ext_take ht (by omega) (by omega) (by assumption)⟩
  · exact R_t (take_end ht (by omega) (by omega))
theorem c_antOk {s : St} [Wf s] {R C n : Nat} {row col way : Int} {id_xs off_xs len_xs : Nat} {xs : List Int} [h_xs : ArgE ic s id_xs off_xs xs] (hl_xs : xs.length = len_xs := by first | rfl | simp | omega | (simp; omega)) (h : AntOk R C (xs, row, col, way)) (hp : PL R C xs := by assumption) (hn : n ≤ 4096 := by omega) :
    Fn [] 35 [.agg [ic R, ic C, .sl id_xs off_xs len_xs], iv row, iv col, iv way, iv n] s fun V N => ∃ p, V = .tup [.agg (fld R C p (R * C)), .c (ic (antRun R C (xs, row, col, way) n).2.1), .c (ic (antRun R C (xs, row, col, way) n).2.2.1), .c (ic (antRun R C (xs, row, col, way) n).2.2.2), .c (.bool true)] ∧ N = [(p, ints (antRun R C (xs, row, col, way) n).1)] := by
  have hb := vf_len hp.1
  have hP : AntP R C xs row col way n := ⟨hp, ⟨h.2.2.1, h.2.2.2.1⟩, h.2.2.2.2, by omega, by omega⟩
  refine (c_implRunAnt (r := R) (c := C) (xs := xs)).mono fun V N k => ?_
  obtain ⟨p, rfl, rfl, _⟩ := k
  have hl : (antRun R C (xs, row, col, way) n).1.length = R * C := (h.run n).1
  simp only [Int.toNat_natCast]
  exact ⟨p, by simp only [sel_t hP, tt_t hP, hl], by rw [sel_t hP]⟩
section
variable {B : List Nat} {b : St} {L : Objs} {l : List AStep} {hist : List Objs} {fr : Frm} {kk : KK} {d : Nat} {chk : List Nat} {g : Option (Nat × Bool)}
/-- A comparison whose outcome is not looked at. -/
theorem A_eqD {x y : Opd} {a c : Int} (hx : ev fr x = some (iv a)) (hy : ev fr y = some (iv c)) (hg : gon fr g = some true)
    (h : ∀ t : Bool, (t = true ↔ a = c) → At B b L l hist ((d, bv t) :: fr) kk) : At B b L (⟨some d, .bin .eql x y, g, chk⟩ :: l) hist fr kk := by
  refine A_p (v := bv (a == c)) ?_ hg (h _ beq_iff_eq)
  simp only [evP, hx, hy, Option.bind_some, binV, intBin, if_true]; rfl
end

end Go.Proofs.Ytlhidckolillaaa
