/- Fields by their rows and columns. -/
import Derived.Test.YtlmbgaoeplffkaaXlists
import Derived.Test.YtlmbgaoeplffkaaFB
namespace Go.Proofs.Ytlmbgaoeplffkaa
open Go Go.RowKit
set_option linter.unusedVariables false
set_option linter.unusedSimpArgs false
set_option maxRecDepth 100000
set_option maxHeartbeats 8000000


/-- The cells of a field by a function of rows and columns. -/
def mk (r c : Nat) (g : Int → Int → Int) : List Int := (List.range (r * c)).map fun n => g ((n / c : Nat) : Int) ((n % c : Nat) : Int)
@[simp] theorem mk_len {r c : Nat} {g : Int → Int → Int} : (mk r c g).length = r * c := by simp [mk]
theorem lt_mul {r c i k : Nat} (hi : i < r) (hk : k < c) : i * c + k < r * c := by
  have : (i + 1) * c ≤ r * c := Nat.mul_le_mul_right c hi
  rw [Nat.add_mul] at this; omega
theorem mk_get {r c i k : Nat} {g : Int → Int → Int} (hi : i < r) (hk : k < c) : (mk r c g).getD (i * c + k) 0 = g i k := by
  have h := lt_mul hi hk
  unfold mk
  rw [getD_map_range h]
  have h1 : (i * c + k) / c = i := by rw [Nat.mul_comm, Nat.mul_add_div (by omega), Nat.div_eq_of_lt hk, Nat.add_zero]
  have h2 : (i * c + k) % c = k := by rw [Nat.mul_comm, Nat.mul_add_mod, Nat.mod_eq_of_lt hk]
  rw [h1, h2]
theorem div_mod_lt {r c n : Nat} (h : n < r * c) : n / c < r ∧ n % c < c ∧ n / c * c + n % c = n := by
  have hc : 0 < c := by rcases Nat.eq_zero_or_pos c with e | e; subst e; simp at h; exact e
  refine ⟨Nat.div_lt_of_lt_mul (by rw [Nat.mul_comm]; exact h), Nat.mod_lt _ hc, ?_⟩
  rw [Nat.mul_comm]; exact Nat.div_add_mod n c
theorem mk_eq {r c : Nat} {g : Int → Int → Int} {xs : List Int} (hl : xs.length = r * c) (h : ∀ i k, i < r → k < c → xs.getD (i * c + k) 0 = g i k) : xs = mk r c g := by
  refine ext_getD 0 (by simp [hl]) fun n hn => ?_
  obtain ⟨h1, h2, h3⟩ := div_mod_lt (hl ▸ hn)
  rw [← h3, h _ _ h1 h2, mk_get h1 h2]
theorem mk_ext {r c : Nat} {g g' : Int → Int → Int} (h : ∀ i k : Nat, i < r → k < c → g i k = g' i k) : mk r c g = mk r c g' :=
  mk_eq (by simp) fun i k hi hk => by rw [mk_get hi hk, h i k hi hk]
/-- Ahead of cell 'n'. -/
theorem mk_snoc {r c n : Nat} {g : Int → Int → Int} (h : n < r * c) : (mk r c g).take n ++ [(mk r c g).getD n 0] = (mk r c g).take (n + 1) := by
  rw [List.take_add_one, getD_some 0 (by simpa using h)]; rfl
theorem mk_full {r c : Nat} {g : Int → Int → Int} : (mk r c g).take (r * c) = mk r c g := List.take_of_length_le (by simp)
theorem mk_cell {r c i k : Nat} {g : Int → Int → Int} {P : Int → Prop} (h : ∀ i k : Nat, i < r → k < c → P (g i k)) : ∀ x ∈ mk r c g, P x := by
  intro x hx
  obtain ⟨n, hn, rfl⟩ := mem_get (d := 0) hx
  obtain ⟨h1, h2, h3⟩ := div_mod_lt (by simpa using hn)
  rw [← h3, mk_get h1 h2]; exact h _ _ h1 h2
/-- One of two, by a sentence. -/
noncomputable def sel {α : Type} (P : Prop) (a b : α) : α := bif tt P then a else b
theorem sel_t {α : Type} {P : Prop} (h : P) {a b : α} : sel P a b = a := by simp [sel, tt_t h]
theorem sel_f {α : Type} {P : Prop} (h : ¬ P) {a b : α} : sel P a b = b := by simp [sel, tt_f h]
abbrev fld (r c : Int) (p n : Nat) : List AC := [ic r, ic c, .sl p 0 n]
/-- A field and whether there is one. -/
abbrev FldRes (P : Prop) (r c : Int) (ys : List Int) (R : AV) (N : Objs) : Prop :=
  ∃ p, R = .tup [.agg (fld (sel P r 0) (sel P c 0) p (sel P ys []).length), .c (.bool (tt P))] ∧ N = [(p, ints (sel P ys []))] ∧ (sel P ys []).length ≤ 600
abbrev IntsRes (P : Prop) (ys : List Int) (R : AV) (N : Objs) : Prop :=
  ∃ p, R = .tup [.c (.sl p 0 (sel P ys []).length), .c (.bool (tt P))] ∧ N = [(p, ints (sel P ys []))] ∧ (sel P ys []).length ≤ 100000
theorem R_fld {P : Prop} {r c : Int} {ys : List Int} {p n : Nat} {L : Objs} (h : P) (hn : ys.length = n) (hb : n ≤ 600) [hs : Sub [(p, ints ys)] L] : ∃ N, FldRes P r c ys (.tup [.agg [ic r, ic c, .sl p 0 n], .c (.bool true)]) N ∧ Sub N L :=
  ⟨_, ⟨p, by subst hn; simp only [sel_t h, tt_t h], by rw [sel_t h], by rw [sel_t h]; omega⟩, hs⟩
theorem R_fldN {P : Prop} {r c : Int} {ys : List Int} {L : Objs} (h : ¬ P) : ∃ N, FldRes P r c ys (.tup [.agg [ic 0, ic 0, .sl 0 0 0], .c (.bool false)]) N ∧ Sub N L :=
  ⟨_, ⟨0, by simp only [sel_f h, tt_f h, List.length_nil], rfl, by simp [sel_f h]⟩, by rw [sel_f h]; exact inferInstance⟩
theorem R_ints {P : Prop} {ys : List Int} {p n : Nat} {L : Objs} (h : P) (hn : ys.length = n) (hb : n ≤ 100000) [hs : Sub [(p, ints ys)] L] : ∃ N, IntsRes P ys (.tup [.c (.sl p 0 n), .c (.bool true)]) N ∧ Sub N L :=
  ⟨_, ⟨p, by subst hn; simp only [sel_t h, tt_t h], by rw [sel_t h], by rw [sel_t h]; omega⟩, hs⟩
theorem R_intsN {P : Prop} {ys : List Int} {L : Objs} (h : ¬ P) : ∃ N, IntsRes P ys (.tup [.c (.sl 0 0 0), .c (.bool false)]) N ∧ Sub N L :=
  ⟨_, ⟨0, by simp only [sel_f h, tt_f h, List.length_nil], rfl, by simp [sel_f h]⟩, by rw [sel_f h]; exact inferInstance⟩
/-- A number, and whether there is one. -/
noncomputable abbrev numV (P : Prop) (n : Int) : AV := .tup [.c (ic (sel P n 0)), .c (.bool (tt P))]
theorem R_num {P : Prop} {n n' : Int} {L : Objs} (h : P) (hn : n = n') : ∃ N, ((.tup [.c (ic n), .c (.bool true)] : AV) = numV P n' ∧ N = []) ∧ Sub N L := ⟨[], ⟨by simp only [numV, sel_t h, tt_t h, hn], rfl⟩, subN⟩
theorem R_numN {P : Prop} {n : Int} {L : Objs} (h : ¬ P) : ∃ N, ((.tup [.c (ic 0), .c (.bool false)] : AV) = numV P n ∧ N = []) ∧ Sub N L := ⟨[], ⟨by simp only [numV, sel_f h, tt_f h], rfl⟩, subN⟩
noncomputable abbrev boolV (P Q : Prop) : AV := .tup [.c (.bool (tt (P ∧ Q))), .c (.bool (tt P))]
theorem R_bt {P Q : Prop} {L : Objs} (h : P) (hq : Q) : ∃ N, ((.tup [.c (.bool true), .c (.bool true)] : AV) = boolV P Q ∧ N = []) ∧ Sub N L := ⟨[], ⟨by simp only [boolV, tt_t h, tt_t (show P ∧ Q from ⟨h, hq⟩)], rfl⟩, subN⟩
theorem R_bf {P Q : Prop} {L : Objs} (h : P) (hq : ¬ Q) : ∃ N, ((.tup [.c (.bool false), .c (.bool true)] : AV) = boolV P Q ∧ N = []) ∧ Sub N L := ⟨[], ⟨by simp only [boolV, tt_t h, tt_f (show ¬ (P ∧ Q) from fun h => hq h.2)], rfl⟩, subN⟩
theorem R_bn {P Q : Prop} {L : Objs} (h : ¬ P) : ∃ N, ((.tup [.c (.bool false), .c (.bool false)] : AV) = boolV P Q ∧ N = []) ∧ Sub N L := ⟨[], ⟨by simp only [boolV, tt_f h, tt_f (show ¬ (P ∧ Q) from fun k => h k.1)], rfl⟩, subN⟩
/-- A field, a number, and whether there are such. -/
abbrev FldNum (P : Prop) (r c : Int) (ys : List Int) (n : Int) (R : AV) (N : Objs) : Prop :=
  ∃ p, R = .tup [.agg (fld (sel P r 0) (sel P c 0) p (sel P ys []).length), .c (ic (sel P n 0)), .c (.bool (tt P))] ∧ N = [(p, ints (sel P ys []))] ∧ (sel P ys []).length ≤ 600
theorem R_fldNum {P : Prop} {r c n n' : Int} {ys : List Int} {p m : Nat} {L : Objs} (h : P) (hn' : n' = n) (hn : ys.length = m) (hb : m ≤ 600) [hs : Sub [(p, ints ys)] L] : ∃ N, FldNum P r c ys n (.tup [.agg [ic r, ic c, .sl p 0 m], .c (ic n'), .c (.bool true)]) N ∧ Sub N L :=
  ⟨_, ⟨p, by subst hn; subst hn'; simp only [sel_t h, tt_t h], by rw [sel_t h], by rw [sel_t h]; omega⟩, hs⟩
theorem R_fldNumN {P : Prop} {r c n : Int} {ys : List Int} {L : Objs} (h : ¬ P) : ∃ N, FldNum P r c ys n (.tup [.agg [ic 0, ic 0, .sl 0 0 0], .c (ic 0), .c (.bool false)]) N ∧ Sub N L :=
  ⟨_, ⟨0, by simp only [sel_f h, tt_f h, List.length_nil], rfl, by simp [sel_f h]⟩, by rw [sel_f h]; exact inferInstance⟩
abbrev IntsNum (P : Prop) (ys : List Int) (n : Int) (R : AV) (N : Objs) : Prop :=
  ∃ p, R = .tup [.c (.sl p 0 (sel P ys []).length), .c (ic (sel P n 0)), .c (.bool (tt P))] ∧ N = [(p, ints (sel P ys []))] ∧ (sel P ys []).length ≤ 100000
theorem R_intsNum {P : Prop} {n n' : Int} {ys : List Int} {p m : Nat} {L : Objs} (h : P) (hn' : n' = n) (hn : ys.length = m) (hb : m ≤ 100000) [hs : Sub [(p, ints ys)] L] : ∃ N, IntsNum P ys n (.tup [.c (.sl p 0 m), .c (ic n'), .c (.bool true)]) N ∧ Sub N L :=
  ⟨_, ⟨p, by subst hn; subst hn'; simp only [sel_t h, tt_t h], by rw [sel_t h], by rw [sel_t h]; omega⟩, hs⟩
theorem R_intsNumN {P : Prop} {n : Int} {ys : List Int} {L : Objs} (h : ¬ P) : ∃ N, IntsNum P ys n (.tup [.c (.sl 0 0 0), .c (ic 0), .c (.bool false)]) N ∧ Sub N L :=
  ⟨_, ⟨0, by simp only [sel_f h, tt_f h, List.length_nil], rfl, by simp [sel_f h]⟩, by rw [sel_f h]; exact inferInstance⟩
/-- Two numbers, and whether there are such. -/
noncomputable abbrev num2V (P : Prop) (n m : Int) : AV := .tup [.c (ic (sel P n 0)), .c (ic (sel P m 0)), .c (.bool (tt P))]
theorem R_num2 {P : Prop} {n n' m m' : Int} {L : Objs} (h : P) (hn : n = n') (hm : m = m') : ∃ N, ((.tup [.c (ic n), .c (ic m), .c (.bool true)] : AV) = num2V P n' m' ∧ N = []) ∧ Sub N L := ⟨[], ⟨by simp only [num2V, sel_t h, tt_t h, hn, hm], rfl⟩, subN⟩
theorem R_num2N {P : Prop} {n m : Int} {L : Objs} (h : ¬ P) : ∃ N, ((.tup [.c (ic 0), .c (ic 0), .c (.bool false)] : AV) = num2V P n m ∧ N = []) ∧ Sub N L := ⟨[], ⟨by simp only [num2V, sel_f h, tt_f h], rfl⟩, subN⟩
/-- The first number of which something is true. -/
noncomputable def endOf (Q : Nat → Prop) : Nat := Classical.epsilon fun n => (∀ m, m < n → ¬ Q m) ∧ Q n
theorem endOf_eq {Q : Nat → Prop} {n : Nat} (h1 : ∀ m, m < n → ¬ Q m) (h2 : Q n) : endOf Q = n := by
  have h : (∀ m, m < endOf Q → ¬ Q m) ∧ Q (endOf Q) := Classical.epsilon_spec (p := fun n => (∀ m, m < n → ¬ Q m) ∧ Q n) ⟨n, h1, h2⟩
  rcases Nat.lt_trichotomy (endOf Q) n with g | g | g
  · exact absurd h.2 (h1 _ g)
  · exact g
  · exact absurd h2 (h.1 _ g)

end Go.Proofs.Ytlmbgaoeplffkaa
