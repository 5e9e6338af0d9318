/- Lists of lists, and how they are searched. -/
import Derived.Test.YtlmbgaoeplffkaaXlists
import Derived.Test.YtlmbgaoeplffkaaFB
namespace Go.Proofs.Ytlmbgaoeplffkaa
open Go Go.RowKit
set_option linter.unusedVariables false
set_option linter.unusedSimpArgs false
set_option maxRecDepth 100000
set_option maxHeartbeats 8000000
-- slices.ContainsFunc[[][]int64,[]int64]
def L86 : AFun := ⟨9, [.t 4],
 (.seq (.ops false [⟨(some 4), .mv (.k (bv false)), none, []⟩])
 (.seq (.ops false [⟨(some 5), .mv (.t 0), none, []⟩,
   ⟨(some 6), .mv (.t 1), none, []⟩,
   ⟨(some 7), .call (.f 95) [(.t 5), (.t 6)], none, []⟩,
   ⟨(some 8), .bin .geq (.t 7) (.k (iv 0)), none, []⟩,
   ⟨(some 4), .mv (.t 8), none, []⟩])
 .ret))⟩
theorem code86 : acode Try.prog hints 86 = some L86 := by kernel_rfl

-- slices.IndexFunc[[][]int64,[]int64]
def L95 : AFun := ⟨19, [.t 4],
 (.seq (.ops false [⟨(some 4), .mv (.k (iv 0)), none, []⟩])
 (.seq (.seq (.ops false [⟨(some 6), .mv (.t 0), none, []⟩,
    ⟨(some 7), .len false (.t 6), none, []⟩,
    ⟨(some 8), .mv (.k (iv 0)), none, []⟩])
  (.block 0 (.loop [0, 1, 7, 8] (.seq (.ops false [⟨(some 9), .bin .lss (.t 8) (.t 7), none, []⟩])
    (.seq (.cond (.t 9) .skip
      (.exit 0))
    (.seq (.block 1 (.seq (.ops false [⟨(some 10), .mv (.t 8), none, []⟩,
        ⟨(some 5), .mv (.t 10), none, []⟩])
      (.seq (.ops false [⟨(some 11), .mv (.t 1), none, []⟩,
        ⟨(some 12), .mv (.t 0), none, []⟩,
        ⟨(some 13), .mv (.t 5), none, []⟩,
        ⟨(some 14), .idxA 1 (.t 12) (.t 13), none, []⟩,
        ⟨(some 15), .load false 1 (.t 14), none, []⟩,
        ⟨(some 16), .call (.t 11) [(.t 15)], none, []⟩])
      (.cond (.t 16) (.seq (.ops false [⟨(some 17), .mv (.t 5), none, []⟩,
         ⟨(some 4), .mv (.t 17), none, []⟩])
       .ret)
       .skip))))
    (.ops false [⟨(some 18), .bin .add (.t 8) (.k (iv 1)), none, []⟩,
     ⟨(some 8), .mv (.t 18), none, []⟩])))))))
 (.seq (.ops false [⟨(some 4), .mv (.k (iv (-1))), none, []⟩])
 .ret)))⟩
theorem code95 : acode Try.prog hints 95 = some L95 := by kernel_rfl


/-- A list by its head, and what is in it. -/
structure Row where
  id : Nat
  off : Nat
  len : Nat
  xs : List Int
abbrev Row.nil : Row := ⟨0, 0, 0, []⟩
abbrev rc (z : Row) : AC := .sl z.id z.off z.len
theorem A_ldR {B : List Nat} {b : St} {L : Objs} {l : List AStep} {hist : List Objs} {fr : Frm} {k : KK} {d : Nat} {g : Option (Nat × Bool)} {n : Nat} {x : Opd} {q off i : Nat} {zs : List Row} (hx : ev fr x = some (.c (.ptr q (off + i)))) [hl : LookE rc B b L q off zs] (hi : i < zs.length) (hg : gon fr g = some true) (h : At B b L l hist ((d, .c (rc (zs.getD i Row.nil))) :: fr) k) :
    At B b L (⟨some d, .load false n x, g, []⟩ :: l) hist fr k :=
  .same (fun s hs K H h => O_load hx hg ((hl.h s H).rd (getD_some Row.nil hi)) h) h
theorem c_indexRows {s : St} [Wf s] {id off len fn : Nat} {caps : List (Nat × Nat)} {zs : List Row} [h : ArgE rc s id off zs] (hl : zs.length = len) (P : Row → Prop) (hf : ∀ s1 L1, Own [] s s1 L1 → ∀ z ∈ zs, FnB fn ([.c (rc z)] ++ caps.map fun p => AV.c (.ptr p.1 p.2)) s1 (P z)) (hb : len ≤ 2000000) :
    Fn [] 95 [.c (.sl id off len), .c (.fn fn caps)] s fun r N => (∃ i : Int, r = iv i ∧ (0 ≤ i ↔ ∃ z ∈ zs, P z)) ∧ N = [] := by
  refine F_start code95 ?_
  repeat' (first
 | refine A_go rfl ?_ | refine A_ifT rfl rfl ?_ | refine A_ifF rfl rfl ?_
 | refine A_add rfl rfl rfl (by omega) ?_
 | ((first | refine A_lt rfl rfl rfl ?_ ?_) <;> intro hc <;> try first | contradiction | (exfalso; omega) | exact absurd rfl hc)
 | refine A_idxN1 rfl rfl rfl (by omega) ?_ | refine A_idx1 rfl rfl rfl (by omega) ?_
 | refine A_p (by rfl) rfl ?_
 | refine A_ldI rfl (by first | omega | (simp; done) | (simp; omega)) rfl ?_ | refine A_ldB rfl (by first | omega | (simp; done) | (simp; omega)) rfl ?_ | refine A_ld rfl (by rfl) rfl ?_
 | refine A_ret1 rfl (by exact (RP.t rfl RP.nil)) ?_)
  refine A_loop rfl [] (fun m fr L => ∃ i : Nat, m = len - i ∧ fr = [(0, .c (.sl id off len)), (1, .c (.fn fn caps)), (7, iv len), (8, iv i)] ∧ L = [] ∧ i ≤ len ∧ ∀ z ∈ zs.take i, ¬ P z) len ⟨0, rfl, rfl, rfl, by omega, by simp⟩ ?_
  rintro m fr L ⟨i, rfl, rfl, rfl, hi, ht⟩
  repeat' (first
 | refine A_go rfl ?_ | refine A_ifT rfl rfl ?_ | refine A_ifF rfl rfl ?_
 | refine A_add rfl rfl rfl (by omega) ?_
 | ((first | refine A_lt rfl rfl rfl ?_ ?_) <;> intro hc <;> try first | contradiction | (exfalso; omega) | exact absurd rfl hc)
 | refine A_idxN1 rfl rfl rfl (by omega) ?_ | refine A_idx1 rfl rfl rfl (by omega) ?_
 | refine A_ldR rfl (by omega) rfl ?_
 | (refine A_callB rfl rfl (fun s H => hf s _ H _ (getD_mem (by omega))) ?_ ?_ <;> intro hc)
 | refine A_p (by rfl) rfl ?_
 | refine A_ldI rfl (by first | omega | (simp; done) | (simp; omega)) rfl ?_ | refine A_ldB rfl (by first | omega | (simp; done) | (simp; omega)) rfl ?_ | refine A_ld rfl (by rfl) rfl ?_
 | refine A_ret1 rfl (by exact (RP.t rfl RP.nil)) ?_)
  · exact R_n [] ⟨⟨i, rfl, ⟨fun _ => ⟨_, getD_mem (d := Row.nil) (by omega), hc⟩, fun _ => by omega⟩⟩, rfl⟩
  · refine A_round rfl [] (len - (i + 1)) (by omega) ?_
    exact ⟨i + 1, rfl, rfl, rfl, by omega, all_succ (d := Row.nil) ht (by omega) hc⟩
  · refine R_n [] ⟨⟨-1, rfl, ⟨fun h => by omega, fun ⟨z, h1, h2⟩ => absurd h2 (all_end ht (by omega) z h1)⟩⟩, rfl⟩
theorem c_containsRows {s : St} [Wf s] {id off len fn : Nat} {caps : List (Nat × Nat)} {zs : List Row} [h : ArgE rc s id off zs] (hl : zs.length = len) (P : Row → Prop) (hf : ∀ s1 L1, Own [] s s1 L1 → ∀ z ∈ zs, FnB fn ([.c (rc z)] ++ caps.map fun p => AV.c (.ptr p.1 p.2)) s1 (P z)) (hb : len ≤ 2000000) :
    FnB 86 [.c (.sl id off len), .c (.fn fn caps)] s (∃ z ∈ zs, P z) := by
  refine F_start code86 ?_
  repeat' (first
 | refine A_go rfl ?_ | refine A_ifT rfl rfl ?_ | refine A_ifF rfl rfl ?_
 | ((first | refine A_ge rfl rfl rfl ?_ ?_) <;> intro hc <;> try first | contradiction | (exfalso; omega) | exact absurd rfl hc)
 | (refine A_callM rfl rfl (fun s H => c_indexRows hl P (fun s1 L1 K => hf s1 _ (H.call K)) hb) ?_; rintro _ _ ⟨⟨ix, rfl, hix⟩, rfl⟩) | (refine A_callM0 rfl rfl (fun s H => c_indexRows hl P (fun s1 L1 K => hf s1 _ (H.call K)) hb) ?_; rintro _ _ ⟨⟨ix, rfl, hix⟩, rfl⟩)
 | refine A_p (by rfl) rfl ?_
 | refine A_ret1 rfl (by exact (RP.t rfl RP.nil)) ?_)
  · exact R_t (hix.1 hc)
  · exact R_f fun h => by have := hix.2 h; omega

end Go.Proofs.Ytlmbgaoeplffkaa
