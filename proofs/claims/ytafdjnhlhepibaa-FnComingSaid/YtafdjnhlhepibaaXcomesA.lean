/- Rows and what they lead to. -/
import Derived.Test.YtafdjnhlhepibaaXkeeps
import Derived.Test.YtafdjnhlhepibaaFB
namespace Go.Proofs.Ytafdjnhlhepibaa
open Go Go.RowKit
set_option linter.unusedVariables false
set_option linter.unusedSimpArgs false
set_option maxRecDepth 100000
set_option maxHeartbeats 8000000
-- (impl.Rule).shorter
def L150 : AFun := ⟨30, [.t 4],
 (.seq (.ops false [⟨(some 2), .box 30 (.t 0), none, []⟩,
   ⟨(some 4), .mv (.k (.c (.sl 0 0 0))), none, []⟩])
 (.seq (.ops false [⟨(some 7), .buildS 2 1 0 [.int .i64 0] [], none, []⟩,
   ⟨(some 5), .mv (.t 7), none, []⟩])
 (.seq (.seq (.ops false [⟨(some 6), .mv (.k (iv 0)), none, []⟩])
  (.block 0 (.loop [1, 2, 5, 6] (.seq (.seq (.ops false [⟨(some 8), .mv (.t 6), none, []⟩,
       ⟨(some 9), .load true 3 (.t 2), none, []⟩,
       ⟨(some 10), .call (.f 73) [(.t 9)], none, []⟩,
       ⟨(some 11), .bin .add (.t 8) (.t 10), none, []⟩,
       ⟨(some 12), .mv (.t 1), none, []⟩,
       ⟨(some 13), .len false (.t 12), none, []⟩,
       ⟨(some 14), .bin .leq (.t 11) (.t 13), none, []⟩])
     (.cond (.t 14) .skip
      (.exit 0)))
    (.seq (.block 1 (.ops true [⟨(some 22), .load true 3 (.t 2), none, []⟩,
       ⟨(some 23), .call (.f 73) [(.t 22)], none, []⟩,
       ⟨(some 18), .load true 3 (.t 2), none, [0]⟩,
       ⟨(some 19), .mv (.t 1), none, []⟩,
       ⟨(some 20), .mv (.t 6), none, []⟩,
       ⟨(some 21), .mv (.t 6), none, []⟩,
       ⟨(some 24), .bin .add (.t 21) (.t 23), none, []⟩,
       ⟨(some 25), .slice 1 (.t 19) (some (.t 20)) (some (.t 24)), none, []⟩,
       ⟨(some 26), .call (.f 151) [(.t 18), (.t 25)], none, []⟩,
       ⟨(some 17), .mv (.t 5), none, []⟩,
       ⟨(some 27), .buildS 2 1 1 [.int .i64 0] [(0, 1, (.t 26))], none, []⟩,
       ⟨(some 28), .append 2 1 8 (.t 17) (.t 27), none, []⟩,
       ⟨(some 5), .mv (.t 28), none, []⟩]))
    (.ops false [⟨(some 15), .mv (.t 6), none, []⟩,
     ⟨(some 16), .bin .add (.t 15) (.k (iv 1)), none, []⟩,
     ⟨(some 6), .mv (.t 16), none, []⟩]))))))
 (.seq (.ops false [⟨(some 29), .mv (.t 5), none, []⟩,
   ⟨(some 4), .mv (.t 29), none, []⟩])
 .ret))))⟩
theorem code150 : acode Try.prog hints 150 = some L150 := by kernel_rfl

-- (impl.Rule).ahead
def L141 : AFun := ⟨15, [.t 6],
 (.seq (.ops false [⟨(some 3), .box 30 (.t 0), none, []⟩,
   ⟨(some 6), .mv (.k (.c (.sl 0 0 0))), none, []⟩])
 (.seq (.seq (.ops false [⟨(some 7), .mv (.t 2), none, []⟩,
    ⟨(some 8), .mv (.k (iv 0)), none, []⟩])
  (.block 0 (.loop [1, 3, 7, 8] (.seq (.ops false [⟨(some 9), .bin .lss (.t 8) (.t 7), none, []⟩])
    (.seq (.cond (.t 9) .skip
      (.exit 0))
    (.seq (.block 1 (.ops false [⟨(some 10), .load true 3 (.t 3), none, []⟩,
       ⟨(some 11), .mv (.t 1), none, []⟩,
       ⟨(some 12), .call (.f 150) [(.t 10), (.t 11)], none, []⟩,
       ⟨(some 1), .mv (.t 12), none, []⟩]))
    (.ops false [⟨(some 13), .bin .add (.t 8) (.k (iv 1)), none, []⟩,
     ⟨(some 8), .mv (.t 13), none, []⟩])))))))
 (.seq (.ops false [⟨(some 14), .mv (.t 1), none, []⟩,
   ⟨(some 6), .mv (.t 14), none, []⟩])
 .ret)))⟩
theorem code141 : acode Try.prog hints 141 = some L141 := by kernel_rfl

-- spec.l03Row
def L142 : AFun := ⟨50, [.t 4],
 (.seq (.ops false [⟨(some 4), .mv (.k (.c (.sl 0 0 0))), none, []⟩])
 (.seq (.ops false [⟨(some 10), .mv (.t 0), none, []⟩,
   ⟨(some 11), .call (.f 67) [(.t 10)], none, []⟩,
   ⟨(some 5), .mv (.t 11), none, []⟩])
 (.seq (.ops false [⟨(some 12), .buildS 2 1 0 [.int .i64 0] [], none, []⟩,
   ⟨(some 6), .mv (.t 12), none, []⟩])
 (.seq (.seq (.ops false [⟨(some 7), .mv (.k (iv 0)), none, []⟩])
  (.block 0 (.loop [0, 1, 5, 6, 7] (.seq (.seq (.ops false [⟨(some 13), .mv (.t 7), none, []⟩,
       ⟨(some 14), .mv (.t 5), none, []⟩,
       ⟨(some 15), .bin .add (.t 13) (.t 14), none, []⟩,
       ⟨(some 16), .mv (.t 1), none, []⟩,
       ⟨(some 17), .len false (.t 16), none, []⟩,
       ⟨(some 18), .bin .leq (.t 15) (.t 17), none, []⟩])
     (.cond (.t 18) .skip
      (.exit 0)))
    (.seq (.block 1 (.seq (.ops false [⟨(some 8), .mv (.k (iv 0)), none, []⟩])
      (.seq (.seq (.ops false [⟨(some 9), .mv (.k (iv 0)), none, []⟩])
       (.block 2 (.loop [0, 1, 5, 6, 7, 8, 9] (.seq (.seq (.ops false [⟨(some 21), .mv (.t 9), none, []⟩,
            ⟨(some 22), .mv (.t 5), none, []⟩,
            ⟨(some 23), .bin .lss (.t 21) (.t 22), none, []⟩])
          (.cond (.t 23) .skip
           (.exit 2)))
         (.seq (.block 3 (.ops true [⟨(some 26), .mv (.t 8), none, []⟩,
            ⟨(some 27), .mv (.t 0), none, []⟩,
            ⟨(some 28), .nilChk (.t 27), none, []⟩,
            ⟨(some 29), .fieldA 0 (.t 28), none, []⟩,
            ⟨(some 30), .load false 1 (.t 29), none, []⟩,
            ⟨(some 31), .bin .mul (.t 26) (.t 30), none, []⟩,
            ⟨(some 32), .mv (.t 1), none, []⟩,
            ⟨(some 33), .mv (.t 7), none, []⟩,
            ⟨(some 34), .mv (.t 9), none, []⟩,
            ⟨(some 35), .bin .add (.t 33) (.t 34), none, []⟩,
            ⟨(some 36), .idxA 1 (.t 32) (.t 35), none, []⟩,
            ⟨(some 37), .load false 1 (.t 36), none, []⟩,
            ⟨(some 38), .bin .add (.t 31) (.t 37), none, []⟩,
            ⟨(some 8), .mv (.t 38), none, []⟩]))
         (.ops false [⟨(some 24), .mv (.t 9), none, []⟩,
          ⟨(some 25), .bin .add (.t 24) (.k (iv 1)), none, []⟩,
          ⟨(some 9), .mv (.t 25), none, []⟩]))))))
      (.ops false [⟨(some 39), .mv (.t 6), none, []⟩,
       ⟨(some 40), .mv (.t 0), none, []⟩,
       ⟨(some 41), .nilChk (.t 40), none, []⟩,
       ⟨(some 42), .fieldA 2 (.t 41), none, []⟩,
       ⟨(some 43), .load false 1 (.t 42), none, []⟩,
       ⟨(some 44), .mv (.t 8), none, []⟩,
       ⟨(some 45), .idxA 1 (.t 43) (.t 44), none, []⟩,
       ⟨(some 46), .load false 1 (.t 45), none, []⟩,
       ⟨(some 47), .buildS 2 1 1 [.int .i64 0] [(0, 1, (.t 46))], none, []⟩,
       ⟨(some 48), .append 2 1 8 (.t 39) (.t 47), none, []⟩,
       ⟨(some 6), .mv (.t 48), none, []⟩]))))
    (.ops false [⟨(some 19), .mv (.t 7), none, []⟩,
     ⟨(some 20), .bin .add (.t 19) (.k (iv 1)), none, []⟩,
     ⟨(some 7), .mv (.t 20), none, []⟩]))))))
 (.seq (.ops false [⟨(some 49), .mv (.t 6), none, []⟩,
   ⟨(some 4), .mv (.t 49), none, []⟩])
 .ret)))))⟩
theorem code142 : acode Try.prog hints 142 = some L142 := by kernel_rfl


theorem A_slN {B : List Nat} {b : St} {L : Objs} {l : List AStep} {hist : List Objs} {fr : Frm} {k : KK} {d : Nat} {chk : List Nat} {g : Option (Nat × Bool)} {x y z : Opd} {id off len : Nat} {i n : Nat} {j : Int} (hx : ev fr x = some (.c (.sl id off len))) (hy : ev fr y = some (iv (i : Int))) (hz : ev fr z = some (iv j)) (hg : gon fr g = some true) (hi : j = (i : Int) + n ∧ i + n ≤ len ∧ 0 < n)
    (h : At B b L l hist ((d, .c (.sl id (off + i) n)) :: fr) k) : At B b L (⟨some d, .slice 1 x (some y) (some z), g, chk⟩ :: l) hist fr k :=
  A_slFT hx hy hz hg (by omega) (by
    have e1 : off + (i : Int).toNat * 1 = off + i := by omega
    have e2 : j.toNat - (i : Int).toNat = n := by omega
    rw [e1, e2]; exact h)
/-- The next states of the cells of a row that have all of their neighbourhood in it. -/
def shr (S w : Nat) (xs ys : List Int) : List Int := (List.range (ys.length + 1 - w)).map fun i => bh S xs ys w i
@[simp] theorem shr_len {S w : Nat} {xs ys : List Int} : (shr S w xs ys).length = ys.length + 1 - w := by simp [shr]
theorem shr_get {S w i : Nat} {xs ys : List Int} (h : i < ys.length + 1 - w) : (shr S w xs ys).getD i 0 = bh S xs ys w i := getD_map_range h
theorem shr_dg {S w E : Nat} {xs ys : List Int} (hS : 2 ≤ S) (hE : E = S ^ (w - 1)) (hw : 1 ≤ w) (hl : xs.length = E * S) (hd : DG S xs) (hy : DG S ys) : DG S (shr S w xs ys) := by
  intro x hx
  obtain ⟨i, hi, rfl⟩ := mem_get (d := 0) hx
  rw [shr_get (by simpa using hi)]
  exact (bh_in (m := w) (a := i) hS hE hw hl hd hy (Nat.le_refl _)).2
theorem c_shorter {s : St} [Wf s] {S w E : Nat} {re : Int} {id_xs off_xs len_xs : Nat} {xs : List Int} [h_xs : ArgE ic s id_xs off_xs xs] (hl_xs : xs.length = len_xs := by first | rfl | simp | omega | (simp; omega)) {id_ys off_ys len_ys : Nat} {ys : List Int} [h_ys : ArgE ic s id_ys off_ys ys] (hl_ys : ys.length = len_ys := by first | rfl | simp | omega | (simp; omega)) (hd : DG S xs) (hy : DG S ys) (hE : E = S ^ (w - 1)) (hl : xs.length = E * S) (hS : 2 ≤ S ∧ S ≤ 3 := by omega) (hw : 2 * re + 1 = w ∧ 1 ≤ w ∧ w ≤ 5 := by omega) (hb : len_ys ≤ 64 := by omega) :
    Fn [] 150 [.agg [ic S, ic re, .sl id_xs off_xs len_xs], .c (.sl id_ys off_ys len_ys)] s fun R N => ∃ p, R = .c (.sl p 0 (len_ys + 1 - w)) ∧ N = [(p, ints (shr S w xs ys))] := by
  refine F_start code150 ?_
  repeat' (first
 | refine A_go rfl ?_ | refine A_ifT rfl rfl ?_ | refine A_ifF rfl rfl ?_
 | refine A_add rfl rfl rfl (by omega) ?_
 | ((first | refine A_le rfl rfl rfl ?_ ?_) <;> intro hc <;> try first | contradiction | (exfalso; omega) | exact absurd rfl hc)
 | refine A_p (by rfl) rfl ?_
 | refine A_ldW rfl (by simp) rfl ?_
 | ((first | refine A_box rfl rfl ?_ | refine A_boxC rfl rfl ?_ | refine A_bld1 rfl rfl ?_ | refine A_bld2 rfl rfl rfl ?_ | refine A_bld4 rfl rfl rfl rfl rfl ?_) <;> intro pz hpz)
 | refine A_bld0 rfl ?_
 | (refine A_app rfl rfl rfl (by first | omega | (simp; done) | (simp; omega)) (by first | omega | (simp; done) | (simp; omega)) (by omega) ?_; intro pz) | (refine A_appN (enc := ic) rfl (by decide) rfl rfl (by first | omega | (simp; done) | (simp; omega)) (by omega) ?_; intro pz)
 | refine A_chk1 rfl rfl rfl ?_ | refine A_chk2 rfl rfl rfl rfl ?_ | refine A_chk3 rfl rfl rfl rfl rfl ?_ | refine A_chk4 rfl rfl rfl rfl rfl rfl ?_ | refine A_chkI rfl (by assumption) rfl (by simp) ?_
 | refine A_ret1 rfl (by exact (RP.t rfl RP.nil)) ?_)
  obtain ⟨q, hEq⟩ : ∃ p, p = pz := ⟨_, rfl⟩; subst hEq
  refine A_loopX rfl (fun m fr L => ∃ (i p : Nat), m = len_ys + 1 - w - i ∧ fr = [(1, .c (.sl id_ys off_ys len_ys)), (2, .c (.ptr q 0)), (5, .c (.sl p 0 i)), (6, iv i)] ∧ L = [(q, .rw 30 3 [ic S, ic re, .sl id_xs off_xs len_xs]), (p, ints ((shr S w xs ys).take i))] ∧ i ≤ len_ys + 1 - w) (n := len_ys + 1 - w) ⟨[(q, .rw 30 3 [ic S, ic re, .sl id_xs off_xs len_xs]), (1, ints [])], ⟨0, 1, rfl, rfl, rfl, by omega⟩, inferInstance⟩ ?_
  rintro m fr L ⟨i, p, rfl, rfl, rfl, hi⟩
  have hl2 : ((shr S w xs ys).take i).length = i := by simp; omega
  by_cases hi' : i < len_ys + 1 - w
  · obtain ⟨g1, g2⟩ := bh_in (m := w) (a := i) hS.1 hE hw.2.1 hl hd hy (Nat.le_refl _)
    have hpl : ((ys.drop i).take w).length = w := by simp; omega
    repeat' (first
 | refine A_go rfl ?_ | refine A_ifT rfl rfl ?_ | refine A_ifF rfl rfl ?_
 | refine A_add rfl rfl rfl (by omega) ?_
 | ((first | refine A_le rfl rfl rfl ?_ ?_) <;> intro hc <;> try first | contradiction | (exfalso; omega) | exact absurd rfl hc)
 | refine A_callV rfl rfl (fun s H => c_cellsW hw.1) ?_
 | refine A_slN (i := i) (n := w) rfl rfl rfl rfl (by omega) ?_
 | refine A_callV rfl rfl (fun s H => c_tells (E := E) (cs := (ys.drop i).take w) (h_cs := (inferInstance : ArgE ic s id_ys off_ys ys).part (a := i) (n := w) (by omega) (by omega)) (hl_cs := hpl) (hd := hy.part i w) (hl := hl) (hn := g1)) ?_
 | refine A_p (by rfl) rfl ?_
 | refine A_ldW rfl (by simp) rfl ?_
 | ((first | refine A_box rfl rfl ?_ | refine A_boxC rfl rfl ?_ | refine A_bld1 rfl rfl ?_ | refine A_bld2 rfl rfl rfl ?_ | refine A_bld4 rfl rfl rfl rfl rfl ?_) <;> intro pz hpz)
 | refine A_bld0 rfl ?_
 | (refine A_app rfl rfl rfl (by first | omega | (simp; done) | (simp; omega)) (by first | omega | (simp; done) | (simp; omega)) (by omega) ?_; intro pz) | (refine A_appN (enc := ic) rfl (by decide) rfl rfl (by first | omega | (simp; done) | (simp; omega)) (by omega) ?_; intro pz)
 | refine A_chk1 rfl rfl rfl ?_ | refine A_chk2 rfl rfl rfl rfl ?_ | refine A_chk3 rfl rfl rfl rfl rfl ?_ | refine A_chk4 rfl rfl rfl rfl rfl rfl ?_ | refine A_chkI rfl (by assumption) rfl (by simp) ?_
 | refine A_ret1 rfl (by exact (RP.t rfl RP.nil)) ?_)
    refine A_roundX rfl ⟨len_ys + 1 - w - (i + 1), [(q, .rw 30 3 [ic S, ic re, .sl id_xs off_xs len_xs]), (_, ints ((shr S w xs ys).take (i + 1)))], by omega, ⟨i + 1, _, rfl, rfl, rfl, by omega⟩, ?_⟩
    rw [List.take_add_one, getD_some 0 (by simp; omega), shr_get (by omega), Option.toList_some, show bh S xs ys w i = xs.getD (nm S ((ys.drop i).take w)) 0 from rfl]
    exact inferInstance
  · obtain rfl : i = len_ys + 1 - w := by omega
    rw [List.take_of_length_le (by simp; omega)]
    repeat' (first
 | refine A_go rfl ?_ | refine A_ifT rfl rfl ?_ | refine A_ifF rfl rfl ?_
 | refine A_add rfl rfl rfl (by omega) ?_
 | ((first | refine A_le rfl rfl rfl ?_ ?_) <;> intro hc <;> try first | contradiction | (exfalso; omega) | exact absurd rfl hc)
 | refine A_callV rfl rfl (fun s H => c_cellsW hw.1) ?_
 | refine A_p (by rfl) rfl ?_
 | refine A_ldW rfl (by simp) rfl ?_
 | ((first | refine A_box rfl rfl ?_ | refine A_boxC rfl rfl ?_ | refine A_bld1 rfl rfl ?_ | refine A_bld2 rfl rfl rfl ?_ | refine A_bld4 rfl rfl rfl rfl rfl ?_) <;> intro pz hpz)
 | refine A_bld0 rfl ?_
 | (refine A_app rfl rfl rfl (by first | omega | (simp; done) | (simp; omega)) (by first | omega | (simp; done) | (simp; omega)) (by omega) ?_; intro pz) | (refine A_appN (enc := ic) rfl (by decide) rfl rfl (by first | omega | (simp; done) | (simp; omega)) (by omega) ?_; intro pz)
 | refine A_chk1 rfl rfl rfl ?_ | refine A_chk2 rfl rfl rfl rfl ?_ | refine A_chk3 rfl rfl rfl rfl rfl ?_ | refine A_chk4 rfl rfl rfl rfl rfl rfl ?_ | refine A_chkI rfl (by assumption) rfl (by simp) ?_
 | refine A_ret1 rfl (by exact (RP.t rfl RP.nil)) ?_)
    exact R_s ⟨p, rfl, rfl⟩
/-- The same behind so many steps. -/
def ahd (S w : Nat) (xs ys : List Int) : Nat → List Int
  | 0 => ys
  | t + 1 => shr S w xs (ahd S w xs ys t)
theorem ahd_len {S w n T : Nat} {xs ys : List Int} (hw : 1 ≤ w) (hl : ys.length = n + (w - 1) * T) : ∀ t, t ≤ T → (ahd S w xs ys t).length = n + (w - 1) * (T - t)
  | 0, _ => hl
  | t + 1, h => by
    rw [ahd, shr_len, ahd_len hw hl t (by omega), show T - t = (T - (t + 1)) + 1 by omega, Nat.mul_add, Nat.mul_one]; omega
theorem ahd_dg {S w E : Nat} {xs ys : List Int} (hS : 2 ≤ S) (hE : E = S ^ (w - 1)) (hw : 1 ≤ w) (hl : xs.length = E * S) (hd : DG S xs) (hy : DG S ys) : ∀ t, DG S (ahd S w xs ys t)
  | 0 => hy
  | t + 1 => shr_dg hS hE hw hl hd (ahd_dg hS hE hw hl hd hy t)
theorem c_ahead {s : St} [Wf s] {S w E n T : Nat} {re : Int} {id_xs off_xs len_xs : Nat} {xs : List Int} [h_xs : ArgE ic s id_xs off_xs xs] (hl_xs : xs.length = len_xs := by first | rfl | simp | omega | (simp; omega)) {id_ys off_ys len_ys : Nat} {ys : List Int} [h_ys : ArgE ic s id_ys off_ys ys] (hl_ys : ys.length = len_ys := by first | rfl | simp | omega | (simp; omega)) (hly : ys.length = n + (w - 1) * T) (hd : DG S xs) (hy : DG S ys) (hE : E = S ^ (w - 1)) (hl : xs.length = E * S) (hS : 2 ≤ S ∧ S ≤ 3 := by omega) (hw : 2 * re + 1 = w ∧ 1 ≤ w ∧ w ≤ 5 := by omega) (hb : len_ys ≤ 64 := by omega) (hTb : T ≤ 1000 := by omega) :
    Fn [] 141 [.agg [ic S, ic re, .sl id_xs off_xs len_xs], .c (.sl id_ys off_ys len_ys), iv T] s fun R N => (T = 0 ∧ R = .c (.sl id_ys off_ys len_ys) ∧ N = []) ∨ (0 < T ∧ ∃ p, R = .c (.sl p 0 n) ∧ N = [(p, ints (ahd S w xs ys T))]) := by
  refine F_start code141 ?_
  by_cases hT : T = 0
  · subst hT
    repeat' (first
 | refine A_go rfl ?_ | refine A_ifT rfl rfl ?_ | refine A_ifF rfl rfl ?_
 | refine A_add rfl rfl rfl (by omega) ?_
 | ((first | refine A_lt rfl rfl rfl ?_ ?_) <;> intro hc <;> try first | contradiction | (exfalso; omega) | exact absurd rfl hc)
 | refine A_p (by rfl) rfl ?_
 | refine A_ldW rfl (by simp) rfl ?_
 | ((first | refine A_box rfl rfl ?_ | refine A_boxC rfl rfl ?_) <;> intro pz hpz)
 | refine A_ret1 rfl (by exact (RP.t rfl RP.nil)) ?_)
    refine A_unroll rfl ?_
    repeat' (first
 | refine A_go rfl ?_ | refine A_ifT rfl rfl ?_ | refine A_ifF rfl rfl ?_
 | refine A_add rfl rfl rfl (by omega) ?_
 | ((first | refine A_lt rfl rfl rfl ?_ ?_) <;> intro hc <;> try first | contradiction | (exfalso; omega) | exact absurd rfl hc)
 | refine A_p (by rfl) rfl ?_
 | refine A_ldW rfl (by simp) rfl ?_
 | ((first | refine A_box rfl rfl ?_ | refine A_boxC rfl rfl ?_) <;> intro pz hpz)
 | refine A_ret1 rfl (by exact (RP.t rfl RP.nil)) ?_)
    exact R_s (.inl ⟨rfl, rfl, rfl⟩)
  repeat' (first
 | refine A_go rfl ?_ | refine A_ifT rfl rfl ?_ | refine A_ifF rfl rfl ?_
 | refine A_add rfl rfl rfl (by omega) ?_
 | ((first | refine A_lt rfl rfl rfl ?_ ?_) <;> intro hc <;> try first | contradiction | (exfalso; omega) | exact absurd rfl hc)
 | refine A_p (by rfl) rfl ?_
 | refine A_ldW rfl (by simp) rfl ?_
 | ((first | refine A_box rfl rfl ?_ | refine A_boxC rfl rfl ?_) <;> intro pz hpz)
 | refine A_ret1 rfl (by exact (RP.t rfl RP.nil)) ?_)
  obtain ⟨q, hEq⟩ : ∃ p, p = pz := ⟨_, rfl⟩; subst hEq
  refine A_unroll rfl ?_
  have hA := ahd_len (S := S) (xs := xs) hw.2.1 hly
  have h1 := hA 1 (by omega)
  have e0 : (len_ys + 1 - w) = n + (w - 1) * (T - 1) := by rw [← h1, ahd, ahd, shr_len]; omega
  repeat' (first
 | refine A_go rfl ?_ | refine A_ifT rfl rfl ?_ | refine A_ifF rfl rfl ?_
 | refine A_add rfl rfl rfl (by omega) ?_
 | ((first | refine A_lt rfl rfl rfl ?_ ?_) <;> intro hc <;> try first | contradiction | (exfalso; omega) | exact absurd rfl hc)
 | (refine A_callM rfl rfl (fun s H => c_shorter (ys := ys) (hd := hd) (hy := hy) (hE := hE) (hl := hl)) ?_; rintro _ _ ⟨pz, rfl, rfl⟩) | (refine A_callM0 rfl rfl (fun s H => c_shorter (ys := ys) (hd := hd) (hy := hy) (hE := hE) (hl := hl)) ?_; rintro _ _ ⟨pz, rfl, rfl⟩)
 | refine A_p (by rfl) rfl ?_
 | refine A_ldW rfl (by simp) rfl ?_
 | ((first | refine A_box rfl rfl ?_ | refine A_boxC rfl rfl ?_) <;> intro pz hpz)
 | refine A_ret1 rfl (by exact (RP.t rfl RP.nil)) ?_)
  rw [e0]
  obtain ⟨p0, hEq⟩ : ∃ p, p = pz := ⟨_, rfl⟩; subst hEq
  refine A_loop rfl [q, p0] (fun m fr L => ∃ (i p : Nat), m = T - i ∧ fr = [(1, .c (.sl p 0 (n + (w - 1) * (T - i)))), (3, .c (.ptr q 0)), (7, iv T), (8, iv i)] ∧ L = [(q, .rw 30 3 [ic S, ic re, .sl id_xs off_xs len_xs]), (p, ints (ahd S w xs ys i))] ∧ i ≤ T ∧ 1 ≤ i) (T - 1) ⟨1, p0, rfl, rfl, rfl, by omega, by omega⟩ ?_
  rintro m fr L ⟨i, p, rfl, rfl, rfl, hi, hi1⟩
  have h2 := hA i hi
  have h3 := ahd_dg hS.1 hE hw.2.1 hl hd hy i
  have hle : n + (w - 1) * (T - i) ≤ 64 := by
    have : (w - 1) * (T - i) ≤ (w - 1) * T := Nat.mul_le_mul_left _ (by omega)
    omega
  by_cases hi' : i < T
  · have h4 := hA (i + 1) (by omega)
    have e1 : (n + (w - 1) * (T - i) + 1 - w) = n + (w - 1) * (T - (i + 1)) := by rw [← h4, ahd, shr_len]; omega
    repeat' (first
 | refine A_go rfl ?_ | refine A_ifT rfl rfl ?_ | refine A_ifF rfl rfl ?_
 | refine A_add rfl rfl rfl (by omega) ?_
 | ((first | refine A_lt rfl rfl rfl ?_ ?_) <;> intro hc <;> try first | contradiction | (exfalso; omega) | exact absurd rfl hc)
 | (refine A_callM rfl rfl (fun s H => c_shorter (ys := ahd S w xs ys i) (hd := hd) (hy := h3) (hE := hE) (hl := hl)) ?_; rintro _ _ ⟨pz, rfl, rfl⟩) | (refine A_callM0 rfl rfl (fun s H => c_shorter (ys := ahd S w xs ys i) (hd := hd) (hy := h3) (hE := hE) (hl := hl)) ?_; rintro _ _ ⟨pz, rfl, rfl⟩)
 | refine A_p (by rfl) rfl ?_
 | refine A_ldW rfl (by simp) rfl ?_
 | ((first | refine A_box rfl rfl ?_ | refine A_boxC rfl rfl ?_) <;> intro pz hpz)
 | refine A_ret1 rfl (by exact (RP.t rfl RP.nil)) ?_)
    rw [e1]
    refine A_round rfl [q, pz] (T - (i + 1)) (by omega) ?_
    exact ⟨i + 1, pz, rfl, rfl, rfl, by omega, by omega⟩
  · obtain rfl : T = i := by omega
    rw [Nat.sub_self, Nat.mul_zero, Nat.add_zero]
    repeat' (first
 | refine A_go rfl ?_ | refine A_ifT rfl rfl ?_ | refine A_ifF rfl rfl ?_
 | refine A_add rfl rfl rfl (by omega) ?_
 | ((first | refine A_lt rfl rfl rfl ?_ ?_) <;> intro hc <;> try first | contradiction | (exfalso; omega) | exact absurd rfl hc)
 | refine A_p (by rfl) rfl ?_
 | refine A_ldW rfl (by simp) rfl ?_
 | ((first | refine A_box rfl rfl ?_ | refine A_boxC rfl rfl ?_) <;> intro pz hpz)
 | refine A_ret1 rfl (by exact (RP.t rfl RP.nil)) ?_)
    exact R_s (.inr ⟨by omega, p, rfl, rfl⟩)
theorem c_l03Row {s : St} [Wf s] {q S w E : Nat} {re : Int} {id_xs off_xs len_xs : Nat} {xs : List Int} [hq : Ref s q [ic S, ic re, .sl id_xs off_xs len_xs]] [h_xs : ArgE ic s id_xs off_xs xs] (hl_xs : xs.length = len_xs := by first | rfl | simp | omega) {id_ys off_ys len_ys : Nat} {ys : List Int} [h_ys : ArgE ic s id_ys off_ys ys] (hl_ys : ys.length = len_ys := by first | rfl | simp | omega | (simp; omega)) (hd : DG S xs) (hy : DG S ys) (hE : E = S ^ (w - 1)) (hl : xs.length = E * S) (hS : 2 ≤ S ∧ S ≤ 3 := by omega) (hw : 2 * re + 1 = w ∧ 1 ≤ w ∧ w ≤ 5 := by omega) (hb : len_ys ≤ 64 := by omega) :
    Fn [] 142 [.c (.ptr q 0), .c (.sl id_ys off_ys len_ys)] s fun R N => ∃ p, R = .c (.sl p 0 (len_ys + 1 - w)) ∧ N = [(p, ints (shr S w xs ys))] := by
  refine F_start code142 ?_
  repeat' (first
 | refine A_go rfl ?_ | refine A_ifT rfl rfl ?_ | refine A_ifF rfl rfl ?_
 | refine A_add rfl rfl rfl (by omega) ?_ | refine A_mul rfl rfl rfl (by omega) ?_
 | ((first | refine A_lt rfl rfl rfl ?_ ?_ | refine A_le rfl rfl rfl ?_ ?_) <;> intro hc <;> try first | contradiction | (exfalso; omega) | exact absurd rfl hc)
 | refine A_idxN1 rfl rfl rfl (by omega) ?_ | refine A_idx1 rfl rfl rfl (by omega) ?_
 | refine A_callV rfl rfl (fun s H => c_l03Wide (w := w)) ?_
 | refine A_fld rfl rfl ?_ | refine A_p (by rfl) rfl ?_
 | refine A_ldI rfl (by first | omega | (simp; done) | (simp; omega)) rfl ?_ | refine A_ldB rfl (by first | omega | (simp; done) | (simp; omega)) rfl ?_ | refine A_ld rfl (by rfl) rfl ?_
 | ((first | refine A_bld1 rfl rfl ?_ | refine A_bld2 rfl rfl rfl ?_ | refine A_bld4 rfl rfl rfl rfl rfl ?_) <;> intro pz hpz)
 | refine A_bld0 rfl ?_
 | (refine A_app rfl rfl rfl (by first | omega | (simp; done) | (simp; omega)) (by first | omega | (simp; done) | (simp; omega)) (by omega) ?_; intro pz) | (refine A_appN (enc := ic) rfl (by decide) rfl rfl (by first | omega | (simp; done) | (simp; omega)) (by omega) ?_; intro pz)
 | refine A_ret1 rfl (by exact (RP.t rfl RP.nil)) ?_)
  refine A_loopX rfl (fun m fr L => ∃ (i p : Nat), m = len_ys + 1 - w - i ∧ fr = [(0, .c (.ptr q 0)), (1, .c (.sl id_ys off_ys len_ys)), (5, iv w), (6, .c (.sl p 0 i)), (7, iv i)] ∧ L = [(p, ints ((shr S w xs ys).take i))] ∧ i ≤ len_ys + 1 - w) (n := len_ys + 1 - w) ⟨[(1, ints [])], ⟨0, 1, rfl, rfl, rfl, by omega⟩, inferInstance⟩ ?_
  rintro m fr L ⟨i, p, rfl, rfl, rfl, hi⟩
  have hl2 : ((shr S w xs ys).take i).length = i := by simp; omega
  by_cases hi' : i < len_ys + 1 - w
  · obtain ⟨g1, g2⟩ := bh_in (m := w) (a := i) hS.1 hE hw.2.1 hl hd hy (Nat.le_refl _)
    have hpl : ((ys.drop i).take w).length = w := by simp; omega
    repeat' (first
 | refine A_go rfl ?_ | refine A_ifT rfl rfl ?_ | refine A_ifF rfl rfl ?_
 | refine A_add rfl rfl rfl (by omega) ?_ | refine A_mul rfl rfl rfl (by omega) ?_
 | ((first | refine A_lt rfl rfl rfl ?_ ?_ | refine A_le rfl rfl rfl ?_ ?_) <;> intro hc <;> try first | contradiction | (exfalso; omega) | exact absurd rfl hc)
 | refine A_idxN1 rfl rfl rfl (by omega) ?_ | refine A_idx1 rfl rfl rfl (by omega) ?_
 | refine A_fld rfl rfl ?_ | refine A_p (by rfl) rfl ?_
 | refine A_ldI rfl (by first | omega | (simp; done) | (simp; omega)) rfl ?_ | refine A_ldB rfl (by first | omega | (simp; done) | (simp; omega)) rfl ?_ | refine A_ld rfl (by rfl) rfl ?_
 | ((first | refine A_bld1 rfl rfl ?_ | refine A_bld2 rfl rfl rfl ?_ | refine A_bld4 rfl rfl rfl rfl rfl ?_) <;> intro pz hpz)
 | refine A_bld0 rfl ?_
 | (refine A_app rfl rfl rfl (by first | omega | (simp; done) | (simp; omega)) (by first | omega | (simp; done) | (simp; omega)) (by omega) ?_; intro pz) | (refine A_appN (enc := ic) rfl (by decide) rfl rfl (by first | omega | (simp; done) | (simp; omega)) (by omega) ?_; intro pz)
 | refine A_ret1 rfl (by exact (RP.t rfl RP.nil)) ?_)
    refine A_loop rfl [p] (fun m fr L => ∃ (j : Nat) (x : Int), m = w - j ∧ fr = [(0, .c (.ptr q 0)), (1, .c (.sl id_ys off_ys len_ys)), (5, iv w), (6, .c (.sl p 0 i)), (7, iv i), (8, iv x), (9, iv j)] ∧ L = [(p, ints ((shr S w xs ys).take i))] ∧ j ≤ w ∧ x = ((nmN S ((ys.drop i).take w) j : Nat) : Int)) w ⟨0, 0, rfl, rfl, rfl, by omega, rfl⟩ ?_
    rintro m fr L ⟨j, x, rfl, rfl, rfl, hj, hx⟩
    by_cases hj' : j < w
    · have h1 := nm_step (hy.part i w) (by omega : j < ((ys.drop i).take w).length)
      have h2 := nm_small hS (hy.part i w) (by omega) (m := j + 1) (by omega)
      have h4 : ((ys.drop i).take w).getD j 0 = ys.getD (i + j) 0 := by
        rw [getD_take hj', List.getD_eq_getElem?_getD, List.getElem?_drop, List.getD_eq_getElem?_getD]
      have hc := hy _ (getD_mem (d := 0) (by omega : i + j < ys.length))
      rw [← hx, h4] at h1
      have h3 : 0 ≤ x * (S : Int) := Int.mul_nonneg (by omega) (by omega)
      repeat' (first
 | refine A_go rfl ?_ | refine A_ifT rfl rfl ?_ | refine A_ifF rfl rfl ?_
 | refine A_add rfl rfl rfl (by omega) ?_ | refine A_mul rfl rfl rfl (by omega) ?_
 | ((first | refine A_lt rfl rfl rfl ?_ ?_ | refine A_le rfl rfl rfl ?_ ?_) <;> intro hc <;> try first | contradiction | (exfalso; omega) | exact absurd rfl hc)
 | refine A_idxN1 rfl rfl rfl (by omega) ?_ | refine A_idx1 rfl rfl rfl (by omega) ?_
 | refine A_fld rfl rfl ?_ | refine A_p (by rfl) rfl ?_
 | refine A_ldI rfl (by first | omega | (simp; done) | (simp; omega)) rfl ?_ | refine A_ldB rfl (by first | omega | (simp; done) | (simp; omega)) rfl ?_ | refine A_ld rfl (by rfl) rfl ?_
 | ((first | refine A_bld1 rfl rfl ?_ | refine A_bld2 rfl rfl rfl ?_ | refine A_bld4 rfl rfl rfl rfl rfl ?_) <;> intro pz hpz)
 | refine A_bld0 rfl ?_
 | (refine A_app rfl rfl rfl (by first | omega | (simp; done) | (simp; omega)) (by first | omega | (simp; done) | (simp; omega)) (by omega) ?_; intro pz) | (refine A_appN (enc := ic) rfl (by decide) rfl rfl (by first | omega | (simp; done) | (simp; omega)) (by omega) ?_; intro pz)
 | refine A_ret1 rfl (by exact (RP.t rfl RP.nil)) ?_)
      refine A_round rfl [p] (w - (j + 1)) (by omega) ?_
      exact ⟨j + 1, _, rfl, rfl, rfl, by omega, h1⟩
    · obtain rfl : w = j := by omega
      have h5 : x = ((nm S ((ys.drop i).take w) : Nat) : Int) := by rw [hx, nm, hpl]
      rw [h5]
      repeat' (first
 | refine A_go rfl ?_ | refine A_ifT rfl rfl ?_ | refine A_ifF rfl rfl ?_
 | refine A_add rfl rfl rfl (by omega) ?_ | refine A_mul rfl rfl rfl (by omega) ?_
 | ((first | refine A_lt rfl rfl rfl ?_ ?_ | refine A_le rfl rfl rfl ?_ ?_) <;> intro hc <;> try first | contradiction | (exfalso; omega) | exact absurd rfl hc)
 | refine A_idxN1 rfl rfl rfl (by omega) ?_ | refine A_idx1 rfl rfl rfl (by omega) ?_
 | refine A_fld rfl rfl ?_ | refine A_p (by rfl) rfl ?_
 | refine A_ldI rfl (by first | omega | (simp; done) | (simp; omega)) rfl ?_ | refine A_ldB rfl (by first | omega | (simp; done) | (simp; omega)) rfl ?_ | refine A_ld rfl (by rfl) rfl ?_
 | ((first | refine A_bld1 rfl rfl ?_ | refine A_bld2 rfl rfl rfl ?_ | refine A_bld4 rfl rfl rfl rfl rfl ?_) <;> intro pz hpz)
 | refine A_bld0 rfl ?_
 | (refine A_app rfl rfl rfl (by first | omega | (simp; done) | (simp; omega)) (by first | omega | (simp; done) | (simp; omega)) (by omega) ?_; intro pz) | (refine A_appN (enc := ic) rfl (by decide) rfl rfl (by first | omega | (simp; done) | (simp; omega)) (by omega) ?_; intro pz)
 | refine A_ret1 rfl (by exact (RP.t rfl RP.nil)) ?_)
      refine A_roundX rfl ⟨len_ys + 1 - w - (i + 1), [(_, ints ((shr S w xs ys).take (i + 1)))], by omega, ⟨i + 1, _, rfl, rfl, rfl, by omega⟩, ?_⟩
      rw [List.take_add_one, getD_some 0 (by simp; omega), shr_get (by omega), Option.toList_some, show bh S xs ys w i = xs.getD (nm S ((ys.drop i).take w)) 0 from rfl]
      exact inferInstance
  · obtain rfl : i = len_ys + 1 - w := by omega
    rw [List.take_of_length_le (by simp; omega)]
    repeat' (first
 | refine A_go rfl ?_ | refine A_ifT rfl rfl ?_ | refine A_ifF rfl rfl ?_
 | refine A_add rfl rfl rfl (by omega) ?_ | refine A_mul rfl rfl rfl (by omega) ?_
 | ((first | refine A_lt rfl rfl rfl ?_ ?_ | refine A_le rfl rfl rfl ?_ ?_) <;> intro hc <;> try first | contradiction | (exfalso; omega) | exact absurd rfl hc)
 | refine A_idxN1 rfl rfl rfl (by omega) ?_ | refine A_idx1 rfl rfl rfl (by omega) ?_
 | refine A_fld rfl rfl ?_ | refine A_p (by rfl) rfl ?_
 | refine A_ldI rfl (by first | omega | (simp; done) | (simp; omega)) rfl ?_ | refine A_ldB rfl (by first | omega | (simp; done) | (simp; omega)) rfl ?_ | refine A_ld rfl (by rfl) rfl ?_
 | ((first | refine A_bld1 rfl rfl ?_ | refine A_bld2 rfl rfl rfl ?_ | refine A_bld4 rfl rfl rfl rfl rfl ?_) <;> intro pz hpz)
 | refine A_bld0 rfl ?_
 | (refine A_app rfl rfl rfl (by first | omega | (simp; done) | (simp; omega)) (by first | omega | (simp; done) | (simp; omega)) (by omega) ?_; intro pz) | (refine A_appN (enc := ic) rfl (by decide) rfl rfl (by first | omega | (simp; done) | (simp; omega)) (by omega) ?_; intro pz)
 | refine A_ret1 rfl (by exact (RP.t rfl RP.nil)) ?_)
    exact R_s ⟨p, rfl, rfl⟩

end Go.Proofs.Ytafdjnhlhepibaa
