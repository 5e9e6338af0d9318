/- When a ring comes again. -/
import Derived.Test.YtafdjnhlhepibaaXperio
import Derived.Test.YtafdjnhlhepibaaXrun
import Derived.Test.YtafdjnhlhepibaaXmaps
import Derived.Test.YtafdjnhlhepibaaXequal
import Derived.Test.YtafdjnhlhepibaaXclone
import Derived.Test.YtafdjnhlhepibaaFB
namespace Go.Proofs.Ytafdjnhlhepibaa
open Go Go.RowKit
set_option linter.unusedVariables false
set_option linter.unusedSimpArgs false
set_option maxRecDepth 100000
set_option maxHeartbeats 8000000
-- impl.keyOf
def L77 : AFun := ⟨24, [.t 2],
 (.seq (.ops false [⟨(some 2), .mv (.k (.c (.str ⟨#[]⟩))), none, []⟩])
 (.seq (.ops false [⟨(some 6), .mv (.t 0), none, []⟩,
   ⟨(some 7), .len false (.t 6), none, []⟩,
   ⟨(some 8), .makeS 5 1 1 [.int .u8 0] (.t 7) (.t 7), none, []⟩,
   ⟨(some 3), .mv (.t 8), none, []⟩])
 (.seq (.seq (.ops false [⟨(some 9), .mv (.t 0), none, []⟩,
    ⟨(some 10), .len false (.t 9), none, []⟩,
    ⟨(some 11), .mv (.k (iv 0)), none, []⟩])
  (.block 0 (.loop [3, 9, 10, 11] (.seq (.ops false [⟨(some 12), .bin .lss (.t 11) (.t 10), none, []⟩])
    (.seq (.cond (.t 12) .skip
      (.exit 0))
    (.seq (.block 1 (.seq (.ops false [⟨(some 13), .mv (.t 11), none, []⟩,
        ⟨(some 14), .idxA 1 (.t 9) (.t 11), none, []⟩,
        ⟨(some 15), .load false 1 (.t 14), none, []⟩,
        ⟨(some 4), .mv (.t 13), none, []⟩,
        ⟨(some 5), .mv (.t 15), none, []⟩])
      (.ops false [⟨(some 16), .mv (.t 3), none, []⟩,
       ⟨(some 17), .mv (.t 4), none, []⟩,
       ⟨(some 18), .mv (.t 5), none, []⟩,
       ⟨(some 19), .conv .u8 (.t 18), none, []⟩,
       ⟨(some 20), .idxA 1 (.t 16) (.t 17), none, []⟩,
       ⟨none, .store 1 (.t 20) (.t 19), none, []⟩])))
    (.ops false [⟨(some 21), .bin .add (.t 11) (.k (iv 1)), none, []⟩,
     ⟨(some 11), .mv (.t 21), none, []⟩])))))))
 (.seq (.ops false [⟨(some 22), .mv (.t 3), none, []⟩,
   ⟨(some 23), .bstr (.t 22), none, []⟩,
   ⟨(some 2), .mv (.t 23), none, []⟩])
 .ret))))⟩
theorem code77 : acode Try.prog hints 77 = some L77 := by kernel_rfl

-- impl.period[[]int64]
def L75 : AFun := ⟨44, [.t 8, .t 9, .t 10],
 (.seq (.ops false [⟨(some 8), .mv (.k (iv 0)), none, []⟩,
   ⟨(some 9), .mv (.k (iv 0)), none, []⟩,
   ⟨(some 10), .mv (.k (bv false)), none, []⟩])
 (.seq (.ops false [⟨(some 16), .mkMap, none, []⟩,
   ⟨(some 11), .mv (.t 16), none, []⟩])
 (.seq (.ops false [⟨(some 17), .mv (.t 0), none, []⟩,
   ⟨(some 12), .mv (.t 17), none, []⟩])
 (.seq (.seq (.ops false [⟨(some 13), .mv (.k (iv 0)), none, []⟩])
  (.block 0 (.loop [1, 2, 3, 11, 12, 13] (.seq (.seq (.ops false [⟨(some 18), .mv (.t 13), none, []⟩,
       ⟨(some 19), .mv (.t 3), none, []⟩,
       ⟨(some 20), .bin .leq (.t 18) (.t 19), none, []⟩])
     (.cond (.t 20) .skip
      (.exit 0)))
    (.seq (.block 1 (.seq (.seq (.ops false [⟨(some 24), .mv (.t 11), none, []⟩,
         ⟨(some 25), .mv (.t 1), none, []⟩,
         ⟨(some 26), .mv (.t 12), none, []⟩,
         ⟨(some 27), .call (.t 25) [(.t 26)], none, []⟩,
         ⟨(some 28), .lookup true true (.int .i64 0) (.t 24) (.t 27), none, []⟩,
         ⟨(some 23), .mv (.t 28), none, []⟩,
         ⟨(some 29), .ext (.t 23) 0, none, []⟩,
         ⟨(some 30), .ext (.t 23) 1, none, []⟩,
         ⟨(some 14), .mv (.t 29), none, []⟩,
         ⟨(some 15), .mv (.t 30), none, []⟩])
       (.seq (.ops false [⟨(some 31), .mv (.t 15), none, []⟩])
       (.cond (.t 31) (.seq (.ops false [⟨(some 32), .mv (.t 14), none, []⟩,
          ⟨(some 33), .mv (.t 13), none, []⟩,
          ⟨(some 34), .mv (.t 14), none, []⟩,
          ⟨(some 35), .bin .sub (.t 33) (.t 34), none, []⟩,
          ⟨(some 8), .mv (.t 32), none, []⟩,
          ⟨(some 9), .mv (.t 35), none, []⟩,
          ⟨(some 10), .mv (.k (bv true)), none, []⟩])
        .ret)
        .skip)))
      (.seq (.ops false [⟨(some 36), .mv (.t 11), none, []⟩,
        ⟨(some 37), .mv (.t 1), none, []⟩,
        ⟨(some 38), .mv (.t 12), none, []⟩,
        ⟨(some 39), .call (.t 37) [(.t 38)], none, []⟩,
        ⟨(some 40), .mv (.t 13), none, []⟩,
        ⟨none, .mapSet true (.t 36) (.t 39) (.t 40), none, []⟩])
      (.ops false [⟨(some 41), .mv (.t 2), none, []⟩,
       ⟨(some 42), .mv (.t 12), none, []⟩,
       ⟨(some 43), .call (.t 41) [(.t 42)], none, []⟩,
       ⟨(some 12), .mv (.t 43), none, []⟩]))))
    (.ops false [⟨(some 21), .mv (.t 13), none, []⟩,
     ⟨(some 22), .bin .add (.t 21) (.k (iv 1)), none, []⟩,
     ⟨(some 13), .mv (.t 22), none, []⟩]))))))
 (.seq (.ops false [⟨(some 8), .mv (.k (iv 0)), none, []⟩,
   ⟨(some 9), .mv (.k (iv 0)), none, []⟩,
   ⟨(some 10), .mv (.k (bv false)), none, []⟩])
 .ret)))))⟩
theorem code75 : acode Try.prog hints 75 = some L75 := by kernel_rfl

-- impl.PeriodOf
def L52 : AFun := ⟨27, [.t 6, .t 7, .t 8],
 (.seq (.ops false [⟨(some 3), .box 30 (.t 0), none, []⟩,
   ⟨(some 6), .mv (.k (iv 0)), none, []⟩,
   ⟨(some 7), .mv (.k (iv 0)), none, []⟩,
   ⟨(some 8), .mv (.k (bv false)), none, []⟩])
 (.seq (.seq (.ops false [⟨(some 9), .load true 3 (.t 3), none, []⟩,
    ⟨(some 10), .mv (.t 1), none, []⟩,
    ⟨(some 11), .buildS 22 1 1 [.sl 0 0 0] [(0, 1, (.t 10))], none, []⟩,
    ⟨(some 12), .call (.f 99) [(.t 9), (.t 11)], none, []⟩,
    ⟨(some 13), .un .not (.t 12), none, []⟩,
    ⟨(some 14), .mv (.t 13), none, []⟩,
    ⟨(some 15), .mv (.t 2), (some (14, false)), []⟩,
    ⟨(some 16), .call (.f 72) [(.t 15), (.k (iv 1)), (.k (iv 4096))], (some (14, false)), []⟩,
    ⟨(some 17), .un .not (.t 16), (some (14, false)), []⟩,
    ⟨(some 18), .pick (.t 14) (.k (bv true)) (.t 17), none, []⟩])
  (.cond (.t 18) (.seq (.ops false [⟨(some 6), .mv (.k (iv 0)), none, []⟩,
     ⟨(some 7), .mv (.k (iv 0)), none, []⟩,
     ⟨(some 8), .mv (.k (bv false)), none, []⟩])
   .ret)
   .skip))
 (.seq (.ops false [⟨(some 19), .mv (.t 1), none, []⟩,
   ⟨(some 20), .load true 3 (.t 3), none, []⟩,
   ⟨(some 21), .mkBound 78 [(.t 20)], none, []⟩,
   ⟨(some 22), .mv (.t 2), none, []⟩,
   ⟨(some 23), .call (.f 75) [(.t 19), (.f 77), (.t 21), (.t 22)], none, []⟩,
   ⟨(some 24), .ext (.t 23) 0, none, []⟩,
   ⟨(some 25), .ext (.t 23) 1, none, []⟩,
   ⟨(some 26), .ext (.t 23) 2, none, []⟩,
   ⟨(some 6), .mv (.t 24), none, []⟩,
   ⟨(some 7), .mv (.t 25), none, []⟩,
   ⟨(some 8), .mv (.t 26), none, []⟩])
 .ret)))⟩
theorem code52 : acode Try.prog hints 52 = some L52 := by kernel_rfl


abbrev uc (n : Int) : AC := .int .u8 n
theorem numsOf_uc : ∀ {ys : List Int}, numsOf (ys.map uc) = some ys
  | [] => rfl
  | y :: ys => by rw [List.map_cons, numsOf, numsOf_uc]; rfl
section
variable {B : List Nat} {b : St} {L L' : Objs} {l : List AStep} {hist : List Objs} {fr : Frm} {k : KK} {d : Nat} {chk : List Nat} {g : Option (Nat × Bool)}
theorem A_convB {x : Opd} {a : Int} (hx : ev fr x = some (iv a)) (hg : gon fr g = some true) (ha : 0 ≤ a ∧ a ≤ 255)
    (h : At B b L l hist ((d, .c (uc a)) :: fr) k) : At B b L (⟨some d, .conv .u8 x, g, chk⟩ :: l) hist fr k := by
  refine A_p ?_ hg h
  simp only [evP, hx, Option.bind_some, convV]
  have e : IntKind.wrap .u8 a = a := by
    simp [IntKind.wrap, IntKind.bits, IntKind.signed]; omega
  rw [e]
theorem A_bstr {x : Opd} {p len t : Nat} {ys : List Int} (hx : ev fr x = some (.c (.sl p 0 len))) [hh : Has L p (.rw t 1 (ys.map uc))] (hl : ys.length = len ∧ 2 ≤ p) (hg : gon fr g = some true)
    (h : At B b L l hist ((d, .c (.str (strN ys))) :: fr) k) : At B b L (⟨some d, .bstr x, g, []⟩ :: l) hist fr k :=
  .same (fun s hs K H h => O_r (by
    have hs := (argOwn (H := H) (h := hh)).src
    simp only [srcCells] at hs
    rw [if_neg (by omega)] at hs
    rw [hl.1, Nat.mul_one] at hs
    simp only [evR, hx, Option.bind_some, asSl]
    rw [if_neg (by omega), hs]
    simp only [Option.bind_some, numsOf_uc, Option.map_some]) hg h) h
end
theorem strN_data {ys : List Int} : (strN ys).data.toList = ys.map fun n => UInt8.ofNat n.toNat := by
  have : ∀ (ys : List Int) (b : ByteArray), (ys.foldl (fun r n => r.push (UInt8.ofNat n.toNat)) b).data.toList = b.data.toList ++ ys.map fun n => UInt8.ofNat n.toNat := fun ys => by
    induction ys with
    | nil => intro b; simp
    | cons y ys ih => intro b; rw [List.foldl_cons, ih]; simp [ByteArray.push]
  have h := this ys ByteArray.empty
  rw [strN, h]; rfl
theorem strN_inj {xs ys : List Int} (hx : ∀ n ∈ xs, 0 ≤ n ∧ n ≤ 255) (hy : ∀ n ∈ ys, 0 ≤ n ∧ n ≤ 255) (h : strN xs = strN ys) : xs = ys := by
  have h1 : (xs.map fun n : Int => UInt8.ofNat n.toNat) = ys.map fun n : Int => UInt8.ofNat n.toNat := by rw [← strN_data, ← strN_data, h]
  clear h
  induction xs generalizing ys with
  | nil => cases ys with
    | nil => rfl
    | cons y ys => simp at h1
  | cons x xs ih => cases ys with
    | nil => simp at h1
    | cons y ys =>
      simp only [List.map_cons, List.cons.injEq] at h1
      obtain ⟨h2, h3⟩ := h1
      have a := hx x (by simp)
      have c := hy y (by simp)
      have e : x.toNat = y.toNat := by
        have := congrArg UInt8.toNat h2
        simp only [UInt8.toNat_ofNat'] at this
        omega
      rw [show x = y by omega, ih (fun n hn => hx n (by simp [hn])) (fun n hn => hy n (by simp [hn])) h3]
theorem c_keyOf {s : St} [Wf s] {id_xs off_xs len_xs : Nat} {xs : List Int} [h_xs : ArgE ic s id_xs off_xs xs] (hl_xs : xs.length = len_xs := by first | rfl | simp | omega | (simp; omega)) (hx : ∀ n ∈ xs, 0 ≤ n ∧ n ≤ 255) (hb : 1 ≤ len_xs ∧ len_xs ≤ 2000000 := by omega) : FnV 77 [.c (.sl id_xs off_xs len_xs)] s (.c (.str (strN xs))) := by
  refine F_start code77 ?_
  repeat' (first
 | refine A_go rfl ?_ | refine A_ifT rfl rfl ?_ | refine A_ifF rfl rfl ?_
 | refine A_add rfl rfl rfl (by omega) ?_
 | ((first | refine A_lt rfl rfl rfl ?_ ?_) <;> intro hc <;> try first | contradiction | (exfalso; omega) | exact absurd rfl hc)
 | refine A_idxN1 rfl rfl rfl (by omega) ?_ | refine A_idx1 rfl rfl rfl (by omega) ?_
 | (refine A_make (enc := uc) (a := 0) rfl rfl rfl (by omega) ?_ <;> intro pz hpz)
 | refine A_p (by rfl) rfl ?_
 | refine A_ldI rfl (by first | omega | (simp; done) | (simp; omega)) rfl ?_ | refine A_ldB rfl (by first | omega | (simp; done) | (simp; omega)) rfl ?_ | refine A_ld rfl (by rfl) rfl ?_
 | refine A_st rfl rfl rfl ?_ | refine A_stE rfl rfl (by first | omega | (simp; done) | (simp; omega)) rfl ?_
 | ((first | refine A_makeN rfl rfl rfl (by omega) ?_ | refine A_make rfl rfl rfl (by omega) ?_) <;> intro pz hpz)
 | refine A_ret1 rfl (by exact (RP.t rfl RP.nil)) ?_)
  refine A_loop rfl [pz] (fun m fr L => ∃ (i : Nat) (ys : List Int), m = len_xs - i ∧ fr = [(3, .c (.sl pz 0 len_xs)), (9, .c (.sl id_xs off_xs len_xs)), (10, iv len_xs), (11, iv i)] ∧ L = [(pz, .rw 5 1 (ys.map uc))] ∧ i ≤ len_xs ∧ ys.length = len_xs ∧ ys.take i = xs.take i) len_xs ⟨0, _, rfl, rfl, rfl, by omega, by simp, by simp⟩ ?_
  rintro m fr L ⟨i, ys, rfl, rfl, rfl, hi, hy, ht⟩
  by_cases hi' : i < len_xs
  · have hxi := hx _ (getD_mem (d := 0) (by omega : i < xs.length))
    repeat' (first
 | refine A_go rfl ?_ | refine A_ifT rfl rfl ?_ | refine A_ifF rfl rfl ?_
 | refine A_add rfl rfl rfl (by omega) ?_
 | ((first | refine A_lt rfl rfl rfl ?_ ?_) <;> intro hc <;> try first | contradiction | (exfalso; omega) | exact absurd rfl hc)
 | refine A_idxN1 rfl rfl rfl (by omega) ?_ | refine A_idx1 rfl rfl rfl (by omega) ?_
 | refine A_convB rfl rfl (by omega) ?_
 | refine A_stE (enc := uc) rfl rfl (by omega) rfl ?_
 | refine A_p (by rfl) rfl ?_
 | refine A_ldI rfl (by first | omega | (simp; done) | (simp; omega)) rfl ?_ | refine A_ldB rfl (by first | omega | (simp; done) | (simp; omega)) rfl ?_ | refine A_ld rfl (by rfl) rfl ?_
 | refine A_st rfl rfl rfl ?_ | refine A_stE rfl rfl (by first | omega | (simp; done) | (simp; omega)) rfl ?_
 | ((first | refine A_makeN rfl rfl rfl (by omega) ?_ | refine A_make rfl rfl rfl (by omega) ?_) <;> intro pz hpz)
 | refine A_ret1 rfl (by exact (RP.t rfl RP.nil)) ?_)
    refine A_round rfl [pz] (len_xs - (i + 1)) (by omega) ?_
    exact ⟨i + 1, _, rfl, rfl, rfl, by omega, by simp [hy], take_set ht (by omega) (by omega)⟩
  · obtain rfl : len_xs = i := by omega
    obtain rfl := take_end ht (by omega) (by omega)
    repeat' (first
 | refine A_go rfl ?_ | refine A_ifT rfl rfl ?_ | refine A_ifF rfl rfl ?_
 | refine A_add rfl rfl rfl (by omega) ?_
 | ((first | refine A_lt rfl rfl rfl ?_ ?_) <;> intro hc <;> try first | contradiction | (exfalso; omega) | exact absurd rfl hc)
 | refine A_idxN1 rfl rfl rfl (by omega) ?_ | refine A_idx1 rfl rfl rfl (by omega) ?_
 | refine A_bstr rfl (by omega) rfl ?_
 | refine A_p (by rfl) rfl ?_
 | refine A_ldI rfl (by first | omega | (simp; done) | (simp; omega)) rfl ?_ | refine A_ldB rfl (by first | omega | (simp; done) | (simp; omega)) rfl ?_ | refine A_ld rfl (by rfl) rfl ?_
 | refine A_st rfl rfl rfl ?_ | refine A_stE rfl rfl (by first | omega | (simp; done) | (simp; omega)) rfl ?_
 | ((first | refine A_makeN rfl rfl rfl (by omega) ?_ | refine A_make rfl rfl rfl (by omega) ?_) <;> intro pz hpz)
 | refine A_ret1 rfl (by exact (RP.t rfl RP.nil)) ?_)
    exact R_v rfl
theorem ba_eq {a b : ByteArray} (h : (a == b) = true) : a = b := by
  cases a with | mk x => cases b with | mk y =>
    have h : (x == y) = true := h
    rw [eq_of_beq h]
theorem ba_refl {a : ByteArray} : (a == a) = true := by
  cases a with | mk x =>
    show (x == x) = true
    exact BEq.rfl
/-- What a map of texts knows. -/
theorem scan_none {key : ByteArray} : ∀ {l : List (ByteArray × Int)}, (∀ a ∈ l, a.1 ≠ key) → scanKV true (.str key) (l.map fun a => (AC.str a.1, ic a.2)) = some none
  | [], _ => rfl
  | a :: l, h => by
    have h1 := h a (by simp)
    rw [List.map_cons, scanKV, sameKey]
    have e : (key == a.1) = false := by
      cases hb : key == a.1 with
      | false => rfl
      | true => exact absurd (ba_eq hb).symm h1
    rw [e]
    exact scan_none fun b hb => h b (by simp [hb])
theorem scan_first {key : ByteArray} {v : Int} : ∀ {l : List (ByteArray × Int)} {i : Nat}, l[i]? = some (key, v) → (∀ j, j < i → ∀ a, l[j]? = some a → a.1 ≠ key) → scanKV true (.str key) (l.map fun a => (AC.str a.1, ic a.2)) = some (some (ic v))
  | [], i, h, _ => by simp at h
  | a :: l, 0, h, _ => by
    simp only [List.getElem?_cons_zero, Option.some.injEq] at h
    subst h
    rw [List.map_cons, scanKV, sameKey, ba_refl]
  | a :: l, i + 1, h, hn => by
    have h1 := hn 0 (by omega) a (by simp)
    rw [List.map_cons, scanKV, sameKey]
    have e : (key == a.1) = false := by
      cases hb : key == a.1 with
      | false => rfl
      | true => exact absurd (ba_eq hb).symm h1
    rw [e]
    exact scan_first (l := l) (i := i) (by simpa using h) fun j hj b hb => hn (j + 1) (by omega) b (by simpa using hb)
theorem set_new {key : ByteArray} {v : Int} : ∀ {l : List (ByteArray × Int)}, (∀ a ∈ l, a.1 ≠ key) → setKV true (.str key) (ic v) (l.map fun a => (AC.str a.1, ic a.2)) = some ((l ++ [(key, v)]).map fun a => (AC.str a.1, ic a.2))
  | [], _ => rfl
  | a :: l, h => by
    have h1 := h a (by simp)
    rw [List.map_cons, setKV, sameKey]
    have e : (key == a.1) = false := by
      cases hb : key == a.1 with
      | false => rfl
      | true => exact absurd (ba_eq hb).symm h1
    rw [e, set_new fun b hb => h b (by simp [hb])]
    rfl
def came (x : Nat → List Int) (n : Nat) : List (ByteArray × Int) := (List.range n).map fun i => (strN (x i), (i : Int))
theorem came_at {x : Nat → List Int} {n i : Nat} (h : i < n) : (came x n)[i]? = some (strN (x i), (i : Int)) := by simp [came, h]
theorem came_snoc {x : Nat → List Int} {n : Nat} : came x n ++ [(strN (x n), (n : Int))] = came x (n + 1) := by simp [came, List.range_succ]
theorem came_mem {x : Nat → List Int} {n : Nat} {a : ByteArray × Int} (h : a ∈ came x n) : ∃ i, i < n ∧ a.1 = strN (x i) := by
  simp only [came, List.mem_map, List.mem_range] at h
  obtain ⟨i, hi, rfl⟩ := h
  exact ⟨i, hi, rfl⟩
noncomputable def perOf {α : Type} (x : Nat → α) : Nat × Nat := Classical.epsilon fun p => Per x p.1 p.2
theorem perOf_eq {α : Type} {x : Nat → α} {u v : Nat} (h : Per x u v) : perOf x = (u, v) := by
  have h1 : Per x (perOf x).1 (perOf x).2 := Classical.epsilon_spec (p := fun p : Nat × Nat => Per x p.1 p.2) ⟨(u, v), h⟩
  obtain ⟨e1, e2⟩ := h.uniq h1
  rw [e1, e2]
def PerP {α : Type} (x : Nat → α) (most : Int) : Prop := ∃ u v, Per x u v ∧ ((u + v : Nat) : Int) ≤ most
noncomputable abbrev perV {α : Type} (P : Prop) (x : Nat → α) : AV := num2V P (perOf x).1 (perOf x).2
theorem c_period {s : St} [Wf s] {st re : Int} {most : Nat} {id_xs off_xs len_xs : Nat} {xs : List Int} [h_xs : ArgE ic s id_xs off_xs xs] (hl_xs : xs.length = len_xs := by first | rfl | simp | omega | (simp; omega)) {id_ys off_ys len_ys : Nat} {ys : List Int} [h_ys : ArgE ic s id_ys off_ys ys] (hl_ys : ys.length = len_ys := by first | rfl | simp | omega | (simp; omega)) (hv : VR st re xs) (hr : RG st ys) (hm : 1 ≤ most ∧ most ≤ 4096 := by omega) :
    FnV 75 [.c (.sl id_ys off_ys len_ys), .c (.fn 77 []), .bfn 78 [.agg [ic st, ic re, .sl id_xs off_xs len_xs]], iv most] s (perV (PerP (runR st re xs ys) most) (runR st re xs ys)) := by
  have hv1 := hv.1
  have hy1 := hr.1
  have hbytes : ∀ n, ∀ a ∈ runR st re xs ys n, 0 ≤ a ∧ a ≤ 255 := fun n a ha => by
    have := (runR_rg hv hr n).2 a ha; omega
  have hinj : ∀ i j, strN (runR st re xs ys i) = strN (runR st re xs ys j) → runR st re xs ys i = runR st re xs ys j := fun i j h => strN_inj (hbytes i) (hbytes j) h
  refine F_start code75 ?_
  repeat' (first
 | refine A_go rfl ?_ | refine A_ifT rfl rfl ?_ | refine A_ifF rfl rfl ?_
 | refine A_add rfl rfl rfl (by omega) ?_ | refine A_sub rfl rfl rfl (by omega) ?_
 | ((first | refine A_le rfl rfl rfl ?_ ?_) <;> intro hc <;> try first | contradiction | (exfalso; omega) | exact absurd rfl hc)
 | (refine A_mkMap rfl ?_ <;> intro pz hpz)
 | refine A_p (by rfl) rfl ?_
 | refine A_ret rfl (by exact (RP.t rfl (RP.t rfl (RP.t rfl RP.nil)))) ?_)
  obtain ⟨pm, hEq⟩ : ∃ p, p = pz := ⟨_, rfl⟩; subst hEq
  refine A_unroll rfl ?_
  have hb0 := hbytes 0
  repeat' (first
 | refine A_go rfl ?_ | refine A_ifT rfl rfl ?_ | refine A_ifF rfl rfl ?_
 | refine A_add rfl rfl rfl (by omega) ?_ | refine A_sub rfl rfl rfl (by omega) ?_
 | ((first | refine A_le rfl rfl rfl ?_ ?_) <;> intro hc <;> try first | contradiction | (exfalso; omega) | exact absurd rfl hc)
 | refine A_callV rfl rfl (fun s H => c_keyOf (xs := ys) (hx := hb0)) ?_
 | refine A_lookB rfl rfl (scan_none (l := []) (by simp)) rfl ?_
 | refine A_mset rfl rfl rfl (set_new (l := []) (by simp)) rfl ?_
 | (refine A_callM rfl rfl (fun s H => c_rstep (ys := ys) (hv := hv) (hr := hr)) ?_; rintro _ _ ⟨pz, rfl, rfl⟩) | (refine A_callM0 rfl rfl (fun s H => c_rstep (ys := ys) (hv := hv) (hr := hr)) ?_; rintro _ _ ⟨pz, rfl, rfl⟩)
 | refine A_p (by rfl) rfl ?_
 | refine A_ret rfl (by exact (RP.t rfl (RP.t rfl (RP.t rfl RP.nil)))) ?_)
  obtain ⟨p1, hEq⟩ : ∃ p, p = pz := ⟨_, rfl⟩; subst hEq
  refine A_loop rfl [pm, p1] (fun m fr L => ∃ (n p : Nat), m = most + 1 - n ∧ fr = [(1, .c (.fn 77 [])), (2, .bfn 78 [.agg [ic st, ic re, .sl id_xs off_xs len_xs]]), (3, iv most), (11, .c (.mp pm)), (12, .c (.sl p 0 len_ys)), (13, iv n)] ∧ L = [(pm, .map ((came (runR st re xs ys) n).map fun a => (AC.str a.1, ic a.2))), (p, ints (runR st re xs ys n))] ∧ n ≤ most + 1 ∧ ∀ k, k < n → ¬ Rep (runR st re xs ys) k) most ⟨1, p1, rfl, rfl, rfl, by omega, fun k hk h => by obtain ⟨j, hj, _⟩ := h; omega⟩ ?_
  rintro m fr L ⟨n, p, rfl, rfl, rfl, hn, hno⟩
  have hbn := hbytes n
  have hln := runR_len (st := st) (re := re) (xs := xs) (ys := ys) n
  have hrn := runR_rg hv hr n
  by_cases hn' : n ≤ most
  case neg =>
    repeat' (first
 | refine A_go rfl ?_ | refine A_ifT rfl rfl ?_ | refine A_ifF rfl rfl ?_
 | refine A_add rfl rfl rfl (by omega) ?_ | refine A_sub rfl rfl rfl (by omega) ?_
 | ((first | refine A_le rfl rfl rfl ?_ ?_) <;> intro hc <;> try first | contradiction | (exfalso; omega) | exact absurd rfl hc)
 | refine A_p (by rfl) rfl ?_
 | refine A_ret rfl (by exact (RP.t rfl (RP.t rfl (RP.t rfl RP.nil)))) ?_)
    refine R_num2N fun ⟨u, v, h1, h2⟩ => ?_
    exact hno (u + v) (by omega) h1.rep
  by_cases hrep : Rep (runR st re xs ys) n
  · obtain ⟨i, hi, e⟩ := hrep
    have hper : Per (runR st re xs ys) i (n - i) := ⟨by omega, by rw [e]; congr 1; omega, fun k hk => hno k (by omega)⟩
    have hsc : scanKV true (.str (strN (runR st re xs ys n))) ((came (runR st re xs ys) n).map fun a => (AC.str a.1, ic a.2)) = some (some (ic (i : Int))) := by
      refine scan_first (i := i) (by rw [came_at hi, e]) fun j hj a ha h => ?_
      rw [came_at (by omega)] at ha
      obtain rfl := Option.some.inj ha
      exact hno i hi ⟨j, hj, by rw [hinj _ _ h, e]⟩
    repeat' (first
 | refine A_go rfl ?_ | refine A_ifT rfl rfl ?_ | refine A_ifF rfl rfl ?_
 | refine A_add rfl rfl rfl (by omega) ?_ | refine A_sub rfl rfl rfl (by omega) ?_
 | ((first | refine A_le rfl rfl rfl ?_ ?_) <;> intro hc <;> try first | contradiction | (exfalso; omega) | exact absurd rfl hc)
 | refine A_callV rfl rfl (fun s H => c_keyOf (xs := runR st re xs ys n) (hx := hbn)) ?_
 | refine A_lookB rfl rfl hsc rfl ?_
 | refine A_p (by rfl) rfl ?_
 | refine A_ret rfl (by exact (RP.t rfl (RP.t rfl (RP.t rfl RP.nil)))) ?_)
    exact R_num2 ⟨i, n - i, hper, by omega⟩ (by rw [perOf_eq hper]) (by rw [perOf_eq hper]; show (n : Int) - i = ((n - i : Nat) : Int); omega)
  · have hdis : ∀ a ∈ came (runR st re xs ys) n, a.1 ≠ strN (runR st re xs ys n) := fun a ha h => by
      obtain ⟨i, hi, e⟩ := came_mem ha
      exact hrep ⟨i, hi, hinj _ _ (e ▸ h)⟩
    have hset := set_new (v := (n : Int)) hdis
    rw [came_snoc] at hset
    repeat' (first
 | refine A_go rfl ?_ | refine A_ifT rfl rfl ?_ | refine A_ifF rfl rfl ?_
 | refine A_add rfl rfl rfl (by omega) ?_ | refine A_sub rfl rfl rfl (by omega) ?_
 | ((first | refine A_le rfl rfl rfl ?_ ?_) <;> intro hc <;> try first | contradiction | (exfalso; omega) | exact absurd rfl hc)
 | refine A_callV rfl rfl (fun s H => c_keyOf (xs := runR st re xs ys n) (hx := hbn)) ?_
 | refine A_lookB rfl rfl (scan_none hdis) rfl ?_
 | refine A_mset rfl rfl rfl hset rfl ?_
 | (refine A_callM rfl rfl (fun s H => c_rstep (ys := runR st re xs ys n) (hv := hv) (hr := hrn)) ?_; rintro _ _ ⟨pz, rfl, rfl⟩) | (refine A_callM0 rfl rfl (fun s H => c_rstep (ys := runR st re xs ys n) (hv := hv) (hr := hrn)) ?_; rintro _ _ ⟨pz, rfl, rfl⟩)
 | refine A_p (by rfl) rfl ?_
 | refine A_ret rfl (by exact (RP.t rfl (RP.t rfl (RP.t rfl RP.nil)))) ?_)
    refine A_round rfl [pm, pz] (most + 1 - (n + 1)) (by omega) ?_
    refine ⟨n + 1, pz, rfl, rfl, rfl, by omega, fun k hk h => ?_⟩
    by_cases e : k = n
    · subst e; exact hrep h
    · exact hno k (by omega) h
abbrev PeP (st re : Int) (xs ys : List Int) (most : Int) : Prop := ((VR st re xs ∧ RG st ys) ∧ 1 ≤ most ∧ most ≤ 4096) ∧ PerP (runR st re xs ys) most
theorem c_implPeriodOf {s : St} [Wf s] {st re most : Int} {id_xs off_xs len_xs : Nat} {xs : List Int} [h_xs : ArgE ic s id_xs off_xs xs] (hl_xs : xs.length = len_xs := by first | rfl | simp | omega | (simp; omega)) {id_ys off_ys len_ys : Nat} {ys : List Int} [h_ys : ArgE ic s id_ys off_ys ys] (hl_ys : ys.length = len_ys := by first | rfl | simp | omega | (simp; omega)) (hb : len_xs ≤ 2000000 ∧ len_ys ≤ 2000000 := by omega) :
    FnV 52 [.agg [ic st, ic re, .sl id_xs off_xs len_xs], .c (.sl id_ys off_ys len_ys), iv most] s (perV (PeP st re xs ys most) (runR st re xs ys)) := by
  refine F_start code52 ?_
  by_cases hv : VR st re xs ∧ RG st ys
  case neg =>
    repeat' (first
 | refine A_go rfl ?_ | refine A_ifT rfl rfl ?_ | refine A_ifF rfl rfl ?_
 | refine A_offP rfl rfl ?_ | refine A_offH rfl rfl ?_ | refine A_off0 rfl rfl ?_
 | (refine A_bld1 (enc := rc) (a := ⟨_, _, _, ys⟩) rfl rfl ?_ <;> intro pz hpz)
 | (refine A_callB rfl rfl (fun s H => c_ringed1 (ys := ys)) ?_ ?_ <;> intro hc <;> try first | contradiction | (exfalso; omega) | exact absurd rfl hc | exact absurd (And.intro rfl rfl) hc | exact absurd (And.intro rfl (And.intro rfl rfl)) hc | exact absurd (Eq.trans (by assumption) (Eq.symm (by assumption))) hc)
 | refine A_p (by rfl) rfl ?_
 | refine A_ldW rfl (by simp) rfl ?_
 | ((first | refine A_box rfl rfl ?_ | refine A_boxC rfl rfl ?_ | refine A_bld1 rfl rfl ?_ | refine A_bld2 rfl rfl rfl ?_ | refine A_bld4 rfl rfl rfl rfl rfl ?_) <;> intro pz hpz)
 | refine A_bld0 rfl ?_
 | refine A_ret rfl (by exact (RP.t rfl (RP.t rfl (RP.t rfl RP.nil)))) ?_)
    exact R_num2N fun h => hv h.1.1
  by_cases hs : 1 ≤ most ∧ most ≤ 4096
  case neg =>
    repeat' (first
 | refine A_go rfl ?_ | refine A_ifT rfl rfl ?_ | refine A_ifF rfl rfl ?_
 | refine A_offP rfl rfl ?_ | refine A_offH rfl rfl ?_ | refine A_off0 rfl rfl ?_
 | (refine A_bld1 (enc := rc) (a := ⟨_, _, _, ys⟩) rfl rfl ?_ <;> intro pz hpz)
 | (refine A_callB rfl rfl (fun s H => c_ringed1 (ys := ys)) ?_ ?_ <;> intro hc <;> try first | contradiction | (exfalso; omega) | exact absurd rfl hc | exact absurd (And.intro rfl rfl) hc | exact absurd (And.intro rfl (And.intro rfl rfl)) hc | exact absurd (Eq.trans (by assumption) (Eq.symm (by assumption))) hc)
 | (refine A_callB rfl rfl (fun s H => c_within) ?_ ?_ <;> intro hc <;> try first | contradiction | (exfalso; omega) | exact absurd rfl hc | exact absurd (And.intro rfl rfl) hc | exact absurd (And.intro rfl (And.intro rfl rfl)) hc | exact absurd (Eq.trans (by assumption) (Eq.symm (by assumption))) hc)
 | refine A_p (by rfl) rfl ?_
 | refine A_ldW rfl (by simp) rfl ?_
 | ((first | refine A_box rfl rfl ?_ | refine A_boxC rfl rfl ?_ | refine A_bld1 rfl rfl ?_ | refine A_bld2 rfl rfl rfl ?_ | refine A_bld4 rfl rfl rfl rfl rfl ?_) <;> intro pz hpz)
 | refine A_bld0 rfl ?_
 | refine A_ret rfl (by exact (RP.t rfl (RP.t rfl (RP.t rfl RP.nil)))) ?_)
    exact R_num2N fun h => hs h.1.2
  obtain ⟨n, rfl⟩ : ∃ n : Nat, most = n := ⟨most.toNat, by omega⟩
  repeat' (first
 | refine A_go rfl ?_ | refine A_ifT rfl rfl ?_ | refine A_ifF rfl rfl ?_
 | refine A_offP rfl rfl ?_ | refine A_offH rfl rfl ?_ | refine A_off0 rfl rfl ?_
 | (refine A_bld1 (enc := rc) (a := ⟨_, _, _, ys⟩) rfl rfl ?_ <;> intro pz hpz)
 | (refine A_callB rfl rfl (fun s H => c_ringed1 (ys := ys)) ?_ ?_ <;> intro hc <;> try first | contradiction | (exfalso; omega) | exact absurd rfl hc | exact absurd (And.intro rfl rfl) hc | exact absurd (And.intro rfl (And.intro rfl rfl)) hc | exact absurd (Eq.trans (by assumption) (Eq.symm (by assumption))) hc)
 | (refine A_callB rfl rfl (fun s H => c_within) ?_ ?_ <;> intro hc <;> try first | contradiction | (exfalso; omega) | exact absurd rfl hc | exact absurd (And.intro rfl rfl) hc | exact absurd (And.intro rfl (And.intro rfl rfl)) hc | exact absurd (Eq.trans (by assumption) (Eq.symm (by assumption))) hc)
 | refine A_callV rfl rfl (fun s H => c_period (ys := ys) (hv := hv.1) (hr := hv.2)) ?_
 | refine A_p (by rfl) rfl ?_
 | refine A_ldW rfl (by simp) rfl ?_
 | ((first | refine A_box rfl rfl ?_ | refine A_boxC rfl rfl ?_ | refine A_bld1 rfl rfl ?_ | refine A_bld2 rfl rfl rfl ?_ | refine A_bld4 rfl rfl rfl rfl rfl ?_) <;> intro pz hpz)
 | refine A_bld0 rfl ?_
 | refine A_ret rfl (by exact (RP.t rfl (RP.t rfl (RP.t rfl RP.nil)))) ?_)
  refine R_v ?_
  have e : PeP st re xs ys n = PerP (runR st re xs ys) n := propext ⟨fun h => h.2, fun h => ⟨⟨hv, hs⟩, h⟩⟩
  rw [e]
theorem runR_up {st re : Int} {xs ys : List Int} (i j : Nat) (h : runR st re xs ys i = runR st re xs ys j) : runR st re xs ys (i + 1) = runR st re xs ys (j + 1) := by
  rw [runR, runR, h]
end Go.Proofs.Ytafdjnhlhepibaa
