/- Rings that are known to be such. -/
import Derived.Test.YtafdjnhlhepibaaXalone
import Derived.Test.YtafdjnhlhepibaaXdamage
import Derived.Test.YtafdjnhlhepibaaXperiodOf
import Derived.Test.YtafdjnhlhepibaaXpigeon
import Derived.Test.YtafdjnhlhepibaaFB
namespace Go.Proofs.Ytafdjnhlhepibaa
open Go Go.RowKit
set_option linter.unusedVariables false
set_option linter.unusedSimpArgs false
set_option maxRecDepth 100000
set_option maxHeartbeats 8000000


theorem ir_ints {P : Prop} {ys : List Int} (h : P) {R : AV} {N : Objs} (k : IntsRes P ys R N) : ∃ p, R = .tup [.c (.sl p 0 ys.length), .c (.bool true)] ∧ N = [(p, ints ys)] := by
  obtain ⟨p, rfl, rfl, _⟩ := k
  exact ⟨p, by simp only [sel_t h, tt_t h], by rw [sel_t h]⟩
theorem c_secondOk {s : St} [Wf s] {st re : Int} {id_xs off_xs len_xs : Nat} {xs : List Int} [h_xs : ArgE ic s id_xs off_xs xs] (hl_xs : xs.length = len_xs := by first | rfl | simp | omega | (simp; omega)) {id_bs off_bs len_bs : Nat} {bs : List Int} [h_bs : ArgE ic s id_bs off_bs bs] (hl_bs : bs.length = len_bs := by first | rfl | simp | omega | (simp; omega)) {id_ys off_ys len_ys : Nat} {ys : List Int} [h_ys : ArgE ic s id_ys off_ys ys] (hl_ys : ys.length = len_ys := by first | rfl | simp | omega | (simp; omega)) (hp : SecP st re xs bs ys := by assumption) (hb : len_xs ≤ 2000000 ∧ len_bs ≤ 2000000 ∧ len_ys ≤ 2000000 := by omega) :
    Fn [] 47 [.agg [ic st, ic re, .sl id_xs off_xs len_xs], .c (.sl id_bs off_bs len_bs), .c (.sl id_ys off_ys len_ys)] s fun V N => ∃ p, V = .tup [.c (.sl p 0 ys.length), .c (.bool true)] ∧ N = [(p, ints (secondR st re xs bs ys))] := by
  refine (c_implSecondStep (xs := xs) (bs := bs) (ys := ys)).mono fun V N h => ?_
  obtain ⟨p, h1, h2⟩ := ir_ints hp h
  exact ⟨p, by rw [h1]; simp [secondR], h2⟩
theorem c_stepOk {s : St} [Wf s] {st re : Int} {id_xs off_xs len_xs : Nat} {xs : List Int} [h_xs : ArgE ic s id_xs off_xs xs] (hl_xs : xs.length = len_xs := by first | rfl | simp | omega | (simp; omega)) {id_ys off_ys len_ys : Nat} {ys : List Int} [h_ys : ArgE ic s id_ys off_ys ys] (hl_ys : ys.length = len_ys := by first | rfl | simp | omega | (simp; omega)) (hv : VR st re xs := by assumption) (hr : RG st ys := by assumption) (hb : len_xs ≤ 2000000 ∧ len_ys ≤ 2000000 := by omega) :
    Fn [] 49 [.agg [ic st, ic re, .sl id_xs off_xs len_xs], .c (.sl id_ys off_ys len_ys)] s fun V N => ∃ p, V = .tup [.c (.sl p 0 ys.length), .c (.bool true)] ∧ N = [(p, ints (stepR st re xs ys))] := by
  refine (c_implStepRing (xs := xs) (ys := ys)).mono fun V N h => ?_
  obtain ⟨p, h1, h2⟩ := ir_ints ⟨hv, hr⟩ h
  exact ⟨p, by rw [h1]; simp, h2⟩
theorem c_runOk {s : St} [Wf s] {st re : Int} {n : Nat} {id_xs off_xs len_xs : Nat} {xs : List Int} [h_xs : ArgE ic s id_xs off_xs xs] (hl_xs : xs.length = len_xs := by first | rfl | simp | omega | (simp; omega)) {id_ys off_ys len_ys : Nat} {ys : List Int} [h_ys : ArgE ic s id_ys off_ys ys] (hl_ys : ys.length = len_ys := by first | rfl | simp | omega | (simp; omega)) (hv : VR st re xs := by assumption) (hr : RG st ys := by assumption) (hn : n ≤ 1000 := by omega) (hb : len_xs ≤ 2000000 ∧ len_ys ≤ 2000000 := by omega) :
    Fn [] 62 [.agg [ic st, ic re, .sl id_xs off_xs len_xs], .c (.sl id_ys off_ys len_ys), iv n] s fun V N => ∃ p, V = .tup [.c (.sl p 0 ys.length), .c (.bool true)] ∧ N = [(p, ints (runR st re xs ys n))] := by
  refine (c_implRunRing (xs := xs) (ys := ys)).mono fun V N h => ?_
  obtain ⟨p, h1, h2⟩ := ir_ints ⟨⟨hv, hr⟩, by omega⟩ h
  rw [Int.toNat_natCast] at h1 h2
  exact ⟨p, by rw [h1, runR_len], h2⟩
theorem c_aloneOk {s : St} [Wf s] {st re : Int} {id_xs off_xs len_xs : Nat} {xs : List Int} [h_xs : ArgE ic s id_xs off_xs xs] (hl_xs : xs.length = len_xs := by first | rfl | simp | omega | (simp; omega)) {id_ys off_ys len_ys : Nat} {ys : List Int} [h_ys : ArgE ic s id_ys off_ys ys] (hl_ys : ys.length = len_ys := by first | rfl | simp | omega | (simp; omega)) {id_os off_os len_os : Nat} {os : List Int} [h_os : ArgE ic s id_os off_os os] (hl_os : os.length = len_os := by first | rfl | simp | omega | (simp; omega)) (hp : OrdP os ys.length := by assumption) (hv : VR st re xs := by assumption) (hr : RG st ys := by assumption) (hb : len_xs ≤ 2000000 ∧ len_ys ≤ 2000000 ∧ len_os ≤ 2000000 := by omega) :
    Fn [] 50 [.agg [ic st, ic re, .sl id_xs off_xs len_xs], .c (.sl id_ys off_ys len_ys), .c (.sl id_os off_os len_os)] s fun V N => ∃ p, V = .tup [.c (.sl p 0 ys.length), .c (.bool true)] ∧ N = [(p, ints (aloneR st re xs ys os os.length))] := by
  refine (c_implAloneSteps (xs := xs) (ys := ys) (os := os)).mono fun V N h => ?_
  obtain ⟨p, h1, h2⟩ := ir_ints ⟨⟨hv, hr⟩, hp⟩ h
  exact ⟨p, by rw [h1, aloneR_len], h2⟩
theorem alone_one {st re : Int} {xs ys : List Int} {a : Nat} (h : a < ys.length) {i : Nat} : (aloneR st re xs ys [(a : Int)] 1).getD i 0 = if i = a then told st re xs ys a else ys.getD i 0 := by
  rw [aloneR, aloneR]
  show (ys.set (a : Int).toNat (told st re xs ys a)).getD i 0 = _
  rw [Int.toNat_natCast, getD_set h]
  simp only [eq_comm]
theorem c_damageOk {s : St} [Wf s] {st re : Int} {n : Nat} {id_xs off_xs len_xs : Nat} {xs : List Int} [h_xs : ArgE ic s id_xs off_xs xs] (hl_xs : xs.length = len_xs := by first | rfl | simp | omega | (simp; omega)) {id_ys off_ys len_ys : Nat} {ys : List Int} [h_ys : ArgE ic s id_ys off_ys ys] (hl_ys : ys.length = len_ys := by first | rfl | simp | omega | (simp; omega)) {id_zs off_zs len_zs : Nat} {zs : List Int} [h_zs : ArgE ic s id_zs off_zs zs] (hl_zs : zs.length = len_zs := by first | rfl | simp | omega | (simp; omega)) (hp : SecP st re xs ys zs := by assumption) (hn : n ≤ 64 := by omega) (hb : len_xs ≤ 2000000 ∧ len_ys ≤ 2000000 ∧ len_zs ≤ 2000000 := by omega) :
    Fn [] 51 [.agg [ic st, ic re, .sl id_xs off_xs len_xs], .c (.sl id_ys off_ys len_ys), .c (.sl id_zs off_zs len_zs), iv n] s fun V N => ∃ p, V = .tup [.c (.sl p 0 (n + 1)), .c (.bool true)] ∧ N = [(p, ints (dmgs st re xs ys zs (n + 1)))] := by
  refine (c_implDamageOf (xs := xs) (ys := ys) (zs := zs)).mono fun V N h => ?_
  obtain ⟨p, h1, h2⟩ := ir_ints ⟨hp, by omega⟩ h
  rw [Int.toNat_natCast] at h1 h2
  exact ⟨p, by rw [h1]; simp [dmgs], h2⟩
theorem c_periodOk {s : St} [Wf s] {st re most : Int} {u v : Nat} {id_xs off_xs len_xs : Nat} {xs : List Int} [h_xs : ArgE ic s id_xs off_xs xs] (hl_xs : xs.length = len_xs := by first | rfl | simp | omega | (simp; omega)) {id_ys off_ys len_ys : Nat} {ys : List Int} [h_ys : ArgE ic s id_ys off_ys ys] (hl_ys : ys.length = len_ys := by first | rfl | simp | omega | (simp; omega)) (hp : Per (runR st re xs ys) u v := by assumption) (hm : ((u + v : Nat) : Int) ≤ most ∧ 1 ≤ most ∧ most ≤ 4096 := by omega) (hv : VR st re xs := by assumption) (hr : RG st ys := by assumption) (hb : len_xs ≤ 2000000 ∧ len_ys ≤ 2000000 := by omega) :
    FnV 52 [.agg [ic st, ic re, .sl id_xs off_xs len_xs], .c (.sl id_ys off_ys len_ys), iv most] s (.tup [.c (ic u), .c (ic v), .c (.bool true)]) := by
  refine (c_implPeriodOf (xs := xs) (ys := ys)).mono fun V N h => ?_
  have hP : PeP st re xs ys most := ⟨⟨⟨hv, hr⟩, hm.2⟩, u, v, hp, hm.1⟩
  rw [perV, num2V, sel_t hP, sel_t hP, tt_t hP, perOf_eq hp] at h; exact h
theorem c_periodNo {s : St} [Wf s] {st re most : Int} {id_xs off_xs len_xs : Nat} {xs : List Int} [h_xs : ArgE ic s id_xs off_xs xs] (hl_xs : xs.length = len_xs := by first | rfl | simp | omega | (simp; omega)) {id_ys off_ys len_ys : Nat} {ys : List Int} [h_ys : ArgE ic s id_ys off_ys ys] (hl_ys : ys.length = len_ys := by first | rfl | simp | omega | (simp; omega)) (hp : ¬ PerP (runR st re xs ys) most := by assumption) (hb : len_xs ≤ 2000000 ∧ len_ys ≤ 2000000 := by omega) :
    FnV 52 [.agg [ic st, ic re, .sl id_xs off_xs len_xs], .c (.sl id_ys off_ys len_ys), iv most] s (.tup [.c (ic 0), .c (ic 0), .c (.bool false)]) := by
  refine (c_implPeriodOf (xs := xs) (ys := ys)).mono fun V N h => ?_
  have hP : ¬ PeP st re xs ys most := fun h => hp h.2
  rw [perV, num2V, sel_f hP, sel_f hP, tt_f hP] at h; exact h
/-! ### plain facts -/
theorem second_back {st re : Int} {xs bs ys : List Int} (h : SecP st re xs bs ys) : secondR st re xs (secondR st re xs bs ys) ys = bs := by
  obtain ⟨hv, hb, hy, hl⟩ := h
  have hs := hv.1
  refine ext_getD 0 (by simp [secondR, hl]) fun i hi => ?_
  have hi' : i < ys.length := by simpa [secondR] using hi
  have h1 : ∀ cs : List Int, (secondR st re xs cs ys).getD i 0 = ((stepR st re xs ys).getD i 0 + st - cs.getD i 0) % st := fun cs => getD_map_range hi'
  rw [h1, h1]
  have g1 := hb.2 _ (getD_mem (d := 0) (by omega : i < bs.length))
  generalize (stepR st re xs ys).getD i 0 = a
  generalize bs.getD i 0 = c at *
  obtain rfl | rfl : st = 2 ∨ st = 3 := by omega
  all_goals omega
theorem dif_same {xs ys : List Int} : ∀ n, (∀ i, i < n → xs.getD i 0 = ys.getD i 0) → dif xs ys n = 0
  | 0, _ => rfl
  | n + 1, h => by rw [dif, dif_same n (fun i hi => h i (by omega)), if_pos (h n (by omega))]
theorem dif_zero {xs ys : List Int} : ∀ n, dif xs ys n = 0 → ∀ i, i < n → xs.getD i 0 = ys.getD i 0
  | 0, _ => fun i hi => by omega
  | n + 1, h => fun i hi => by
    rw [dif] at h
    by_cases e : i = n
    · subst e
      by_cases g : xs.getD i 0 = ys.getD i 0
      · exact g
      · rw [if_neg g] at h; omega
    · exact dif_zero n (by omega) i (by omega)
theorem dmg_self {st re : Int} {xs ys : List Int} {k : Nat} : dmg st re xs ys ys k = 0 := by rw [dmg, dif_same _ fun _ _ => rfl]; rfl
theorem dmg_in {st re : Int} {xs ys zs : List Int} {k : Nat} : 0 ≤ dmg st re xs ys zs k ∧ dmg st re xs ys zs k ≤ ys.length := by
  have := dif_le (xs := runR st re xs ys k) (ys := runR st re xs zs k) ys.length
  rw [dmg]; omega
theorem dmg_gone {st re : Int} {xs ys zs : List Int} {k : Nat} (hl : ys.length = zs.length) (h : dmg st re xs ys zs k = 0) : dmg st re xs ys zs (k + 1) = 0 := by
  have e : runR st re xs ys k = runR st re xs zs k := by
    refine ext_getD 0 (by rw [runR_len, runR_len, hl]) fun i hi => ?_
    rw [runR_len] at hi
    rw [dmg] at h
    exact dif_zero ys.length (by omega) i hi
  have e2 : runR st re xs ys (k + 1) = runR st re xs zs (k + 1) := by rw [runR, runR, e]
  rw [dmg, e2, dif_same _ fun _ _ => rfl]; rfl
/-- Small rings of two states come again soon. -/
theorem ring_rep {S : Nat} {re : Int} {xs ys : List Int} (hv : VR S re xs) (hr : RG S ys) : ∃ u v, Per (runR S re xs ys) u v ∧ u + v ≤ S ^ ys.length := by
  have hS := hv.1
  obtain ⟨i, j, h1, h2, h3⟩ := pigeon (n := S ^ ys.length) (f := fun i => nm S (runR S re xs ys i)) fun i _ => by
    have := nm_lt (S := S) (by omega) (runR_rg hv hr i).2 _ (Nat.le_refl (runR S re xs ys i).length)
    rw [runR_len] at this
    show nmN S _ _ < _
    rw [runR_len]; exact this
  have e : runR S re xs ys i = runR S re xs ys j := nm_inj (runR_rg hv hr i).2 (runR_rg hv hr j).2 (by omega) (by rw [runR_len, runR_len]) h3
  obtain ⟨u, v, h4, h5⟩ := Rep.per j ⟨i, h1, e⟩
  exact ⟨u, v, h4, by omega⟩

end Go.Proofs.Ytafdjnhlhepibaa
