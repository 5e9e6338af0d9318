/- The entropy of words: the program, the reference, and how they are compared. -/
import Derived.Test.YtlmbgaoeplffkaaXentL
import Derived.Test.YtlmbgaoeplffkaaFB
namespace Go.Proofs.Ytlmbgaoeplffkaa
open Go Go.RowKit
set_option linter.unusedVariables false
set_option linter.unusedSimpArgs false
set_option maxRecDepth 100000
set_option maxHeartbeats 8000000
-- impl.WordEntropy
def L28 : AFun := ⟨50, [.t 6, .t 7],
 (.seq (.ops false [⟨(some 6), .mv (.k (.c (.float .f32 0))), none, []⟩,
   ⟨(some 7), .mv (.k (bv false)), none, []⟩])
 (.seq (.ops false [⟨(some 15), .mv (.t 0), none, []⟩,
   ⟨(some 16), .mv (.t 1), none, []⟩,
   ⟨(some 17), .mv (.t 2), none, []⟩,
   ⟨(some 18), .call (.f 56) [(.t 15), (.t 16), (.t 17)], none, []⟩,
   ⟨(some 14), .mv (.t 18), none, []⟩,
   ⟨(some 19), .ext (.t 14) 0, none, []⟩,
   ⟨(some 20), .ext (.t 14) 1, none, []⟩,
   ⟨(some 8), .mv (.t 19), none, []⟩,
   ⟨(some 9), .mv (.t 20), none, []⟩])
 (.seq (.seq (.ops false [⟨(some 21), .mv (.t 9), none, []⟩,
    ⟨(some 22), .un .not (.t 21), none, []⟩])
  (.cond (.t 22) (.seq (.ops false [⟨(some 6), .mv (.k (.c (.float .f32 0))), none, []⟩,
     ⟨(some 7), .mv (.k (bv false)), none, []⟩])
   .ret)
   .skip))
 (.seq (.ops false [⟨(some 10), .mv (.k (.c (.float .f32 0))), none, []⟩])
 (.seq (.seq (.ops false [⟨(some 23), .mv (.t 8), none, []⟩,
    ⟨(some 24), .len false (.t 23), none, []⟩,
    ⟨(some 25), .mv (.k (iv 0)), none, []⟩])
  (.block 0 (.loop [0, 2, 10, 23, 24, 25] (.seq (.ops false [⟨(some 26), .bin .lss (.t 25) (.t 24), none, []⟩])
    (.seq (.cond (.t 26) .skip
      (.exit 0))
    (.seq (.block 1 (.seq (.ops false [⟨(some 27), .idxA 1 (.t 23) (.t 25), none, []⟩,
        ⟨(some 28), .load false 1 (.t 27), none, []⟩,
        ⟨(some 12), .mv (.t 28), none, []⟩])
      (.seq (.ops false [⟨(some 29), .mv (.t 12), none, []⟩,
        ⟨(some 30), .bin .gtr (.t 29) (.k (iv 0)), none, []⟩])
      (.cond (.t 30) (.seq (.ops false [⟨(some 31), .mv (.t 12), none, []⟩,
         ⟨(some 32), .convF .f32 (.t 31), none, []⟩,
         ⟨(some 33), .mv (.t 0), none, []⟩,
         ⟨(some 34), .len false (.t 33), none, []⟩,
         ⟨(some 35), .convF .f32 (.t 34), none, []⟩,
         ⟨(some 36), .bin .quo (.t 32) (.t 35), none, []⟩,
         ⟨(some 13), .mv (.t 36), none, []⟩])
       (.ops false [⟨(some 37), .mv (.t 10), none, []⟩,
        ⟨(some 38), .mv (.t 13), none, []⟩,
        ⟨(some 39), .mv (.t 13), none, []⟩,
        ⟨(some 40), .call (.f 57) [(.t 39)], none, []⟩,
        ⟨(some 41), .bin .mul (.t 38) (.t 40), none, []⟩,
        ⟨(some 42), .bin .quo (.t 41) (.k (.c (.float .f32 1060205080))), none, []⟩,
        ⟨(some 43), .bin .add (.t 37) (.t 42), none, []⟩,
        ⟨(some 10), .mv (.t 43), none, []⟩]))
       .skip))))
    (.ops false [⟨(some 44), .bin .add (.t 25) (.k (iv 1)), none, []⟩,
     ⟨(some 25), .mv (.t 44), none, []⟩])))))))
 (.seq (.ops false [⟨(some 45), .mv (.t 10), none, []⟩,
   ⟨(some 46), .bin .sub (.k (.c (.float .f32 0))) (.t 45), none, []⟩,
   ⟨(some 47), .mv (.t 2), none, []⟩,
   ⟨(some 48), .convF .f32 (.t 47), none, []⟩,
   ⟨(some 49), .bin .quo (.t 46) (.t 48), none, []⟩,
   ⟨(some 6), .mv (.t 49), none, []⟩,
   ⟨(some 7), .mv (.k (bv true)), none, []⟩])
 .ret))))))⟩
theorem code28 : acode Try.prog hints 28 = some L28 := by kernel_rfl

-- spec.WordEntropy
def L26 : AFun := ⟨57, [.t 6, .t 7],
 (.seq (.ops false [⟨(some 6), .mv (.k (.c (.float .f32 0))), none, []⟩,
   ⟨(some 7), .mv (.k (bv false)), none, []⟩])
 (.seq (.ops false [⟨(some 14), .mv (.t 0), none, []⟩,
   ⟨(some 15), .mv (.t 1), none, []⟩,
   ⟨(some 16), .mv (.t 2), none, []⟩,
   ⟨(some 17), .call (.f 53) [(.t 14), (.t 15), (.t 16)], none, []⟩,
   ⟨(some 13), .mv (.t 17), none, []⟩,
   ⟨(some 18), .ext (.t 13) 0, none, []⟩,
   ⟨(some 19), .ext (.t 13) 1, none, []⟩,
   ⟨(some 8), .mv (.t 18), none, []⟩,
   ⟨(some 9), .mv (.t 19), none, []⟩])
 (.seq (.seq (.ops false [⟨(some 20), .mv (.t 9), none, []⟩,
    ⟨(some 21), .un .not (.t 20), none, []⟩])
  (.cond (.t 21) (.seq (.ops false [⟨(some 6), .mv (.k (.c (.float .f32 0))), none, []⟩,
     ⟨(some 7), .mv (.k (bv false)), none, []⟩])
   .ret)
   .skip))
 (.seq (.ops false [⟨(some 10), .mv (.k (.c (.float .f32 0))), none, []⟩])
 (.seq (.seq (.ops false [⟨(some 11), .mv (.k (iv 0)), none, []⟩])
  (.block 0 (.loop [0, 2, 8, 10, 11] (.seq (.seq (.ops false [⟨(some 22), .mv (.t 11), none, []⟩,
       ⟨(some 23), .mv (.t 8), none, []⟩,
       ⟨(some 24), .len false (.t 23), none, []⟩,
       ⟨(some 25), .bin .lss (.t 22) (.t 24), none, []⟩])
     (.cond (.t 25) .skip
      (.exit 0)))
    (.seq (.block 1 (.seq (.ops false [⟨(some 28), .mv (.t 8), none, []⟩,
        ⟨(some 29), .mv (.t 11), none, []⟩,
        ⟨(some 30), .idxA 1 (.t 28) (.t 29), none, []⟩,
        ⟨(some 31), .load false 1 (.t 30), none, []⟩,
        ⟨(some 32), .bin .gtr (.t 31) (.k (iv 0)), none, []⟩])
      (.cond (.t 32) (.seq (.ops false [⟨(some 33), .mv (.t 8), none, []⟩,
         ⟨(some 34), .mv (.t 11), none, []⟩,
         ⟨(some 35), .idxA 1 (.t 33) (.t 34), none, []⟩,
         ⟨(some 36), .load false 1 (.t 35), none, []⟩,
         ⟨(some 37), .convF .f32 (.t 36), none, []⟩,
         ⟨(some 38), .mv (.t 0), none, []⟩,
         ⟨(some 39), .len false (.t 38), none, []⟩,
         ⟨(some 40), .convF .f32 (.t 39), none, []⟩,
         ⟨(some 41), .bin .quo (.t 37) (.t 40), none, []⟩,
         ⟨(some 12), .mv (.t 41), none, []⟩])
       (.ops false [⟨(some 42), .mv (.t 10), none, []⟩,
        ⟨(some 43), .mv (.t 12), none, []⟩,
        ⟨(some 44), .mv (.t 12), none, []⟩,
        ⟨(some 45), .call (.f 54) [(.t 44)], none, []⟩,
        ⟨(some 46), .bin .mul (.t 43) (.t 45), none, []⟩,
        ⟨(some 47), .bin .quo (.t 46) (.k (.c (.float .f32 1060205080))), none, []⟩,
        ⟨(some 48), .bin .add (.t 42) (.t 47), none, []⟩,
        ⟨(some 10), .mv (.t 48), none, []⟩]))
       .skip)))
    (.ops false [⟨(some 26), .mv (.t 11), none, []⟩,
     ⟨(some 27), .bin .add (.t 26) (.k (iv 1)), none, []⟩,
     ⟨(some 11), .mv (.t 27), none, []⟩]))))))
 (.seq (.ops false [⟨(some 49), .mv (.t 10), none, []⟩,
   ⟨(some 50), .bin .sub (.k (.c (.float .f32 0))) (.t 49), none, []⟩,
   ⟨(some 51), .mv (.t 2), none, []⟩,
   ⟨(some 52), .convF .f32 (.t 51), none, []⟩,
   ⟨(some 53), .bin .quo (.t 50) (.t 52), none, []⟩,
   ⟨(some 54), .call (.f 55) [(.t 53)], none, []⟩,
   ⟨(some 55), .ext (.t 54) 0, none, []⟩,
   ⟨(some 56), .ext (.t 54) 1, none, []⟩,
   ⟨(some 6), .mv (.t 55), none, []⟩,
   ⟨(some 7), .mv (.t 56), none, []⟩])
 .ret))))))⟩
theorem code26 : acode Try.prog hints 26 = some L26 := by kernel_rfl

-- laws.sameFloat
def L29 : AFun := ⟨37, [.t 4],
 (.seq (.ops false [⟨(some 4), .mv (.k (bv false)), none, []⟩])
 (.seq (.seq (.ops false [⟨(some 5), .mv (.t 0), none, []⟩,
    ⟨(some 6), .mv (.t 0), none, []⟩,
    ⟨(some 7), .bin .neq (.t 5) (.t 6), none, []⟩,
    ⟨(some 8), .mv (.t 7), none, []⟩,
    ⟨(some 9), .mv (.t 1), (some (8, false)), []⟩,
    ⟨(some 10), .mv (.t 1), (some (8, false)), []⟩,
    ⟨(some 11), .bin .neq (.t 9) (.t 10), (some (8, false)), []⟩,
    ⟨(some 12), .pick (.t 8) (.k (bv true)) (.t 11), none, []⟩])
  (.cond (.t 12) (.seq (.ops false [⟨(some 13), .mv (.t 0), none, []⟩,
     ⟨(some 14), .mv (.t 0), none, []⟩,
     ⟨(some 15), .bin .neq (.t 13) (.t 14), none, []⟩,
     ⟨(some 16), .mv (.t 15), none, []⟩,
     ⟨(some 17), .mv (.t 1), (some (16, true)), []⟩,
     ⟨(some 18), .mv (.t 1), (some (16, true)), []⟩,
     ⟨(some 19), .bin .neq (.t 17) (.t 18), (some (16, true)), []⟩,
     ⟨(some 20), .pick (.t 16) (.t 19) (.k (bv false)), none, []⟩,
     ⟨(some 4), .mv (.t 20), none, []⟩])
   .ret)
   .skip))
 (.seq (.seq (.ops false [⟨(some 21), .mv (.t 0), none, []⟩,
    ⟨(some 22), .bin .eql (.t 21) (.k (.c (.float .f64 0))), none, []⟩,
    ⟨(some 23), .mv (.t 22), none, []⟩,
    ⟨(some 24), .mv (.t 1), (some (23, true)), []⟩,
    ⟨(some 25), .bin .eql (.t 24) (.k (.c (.float .f64 0))), (some (23, true)), []⟩,
    ⟨(some 26), .pick (.t 23) (.t 25) (.k (bv false)), none, []⟩])
  (.cond (.t 26) (.seq (.ops false [⟨(some 27), .mv (.t 0), none, []⟩,
     ⟨(some 28), .bin .quo (.k (.c (.float .f64 4607182418800017408))) (.t 27), none, []⟩,
     ⟨(some 29), .bin .gtr (.t 28) (.k (.c (.float .f64 0))), none, []⟩,
     ⟨(some 30), .mv (.t 1), none, []⟩,
     ⟨(some 31), .bin .quo (.k (.c (.float .f64 4607182418800017408))) (.t 30), none, []⟩,
     ⟨(some 32), .bin .gtr (.t 31) (.k (.c (.float .f64 0))), none, []⟩,
     ⟨(some 33), .beq false (.t 29) (.t 32), none, []⟩,
     ⟨(some 4), .mv (.t 33), none, []⟩])
   .ret)
   .skip))
 (.seq (.ops false [⟨(some 34), .mv (.t 0), none, []⟩,
   ⟨(some 35), .mv (.t 1), none, []⟩,
   ⟨(some 36), .bin .eql (.t 34) (.t 35), none, []⟩,
   ⟨(some 4), .mv (.t 36), none, []⟩])
 .ret))))⟩
theorem code29 : acode Try.prog hints 29 = some L29 := by kernel_rfl


theorem wd_yes {P : Prop} {ys : List Int} (h : P) {R : AV} {N : Objs} (k : IntsRes P ys R N) : ∃ p, R = .tup [.c (.sl p 0 ys.length), .c (.bool true)] ∧ N = [(p, ints ys)] := by
  obtain ⟨p, rfl, rfl, _⟩ := k
  exact ⟨p, by simp only [sel_t h, tt_t h], by rw [sel_t h]⟩
theorem wd_no {P : Prop} {ys : List Int} (h : ¬ P) {R : AV} {N : Objs} (k : IntsRes P ys R N) : ∃ p, R = .tup [.c (.sl p 0 0), .c (.bool false)] ∧ N = [(p, ints [])] := by
  obtain ⟨p, rfl, rfl, _⟩ := k
  exact ⟨p, by simp only [sel_f h, tt_f h, List.length_nil], by rw [sel_f h]⟩
theorem c_implWordsY {s : St} [Wf s] {st lo : Int} {n : Nat} {ys : List Int} {id_xs off_xs len_xs : Nat} {xs : List Int} [h_xs : ArgE ic s id_xs off_xs xs] (hl_xs : xs.length = len_xs := by first | rfl | simp | omega | (simp; omega)) (hP : WdP st xs lo) (hy : wcnR st xs lo = ys) (hn : ys.length = n) (hb : len_xs ≤ 2000000 := by omega) :
    Fn [] 56 [.c (.sl id_xs off_xs len_xs), iv st, iv lo] s fun V N => ∃ p, V = .tup [.c (.sl p 0 n), .c (.bool true)] ∧ N = [(p, ints ys)] := by
  subst hy; subst hn
  exact (c_implWords (st := st) (lo := lo) (xs := xs)).mono fun V N k => wd_yes hP k
theorem c_implWordsN {s : St} [Wf s] {st lo : Int} {id_xs off_xs len_xs : Nat} {xs : List Int} [h_xs : ArgE ic s id_xs off_xs xs] (hl_xs : xs.length = len_xs := by first | rfl | simp | omega | (simp; omega)) (hP : ¬ WdP st xs lo) (hb : len_xs ≤ 2000000 := by omega) :
    Fn [] 56 [.c (.sl id_xs off_xs len_xs), iv st, iv lo] s fun V N => ∃ p, V = .tup [.c (.sl p 0 0), .c (.bool false)] ∧ N = [(p, ints [])] :=
  (c_implWords (st := st) (lo := lo) (xs := xs)).mono fun V N k => wd_no hP k
theorem c_specWordsY {s : St} [Wf s] {st lo : Int} {n : Nat} {ys : List Int} {id_xs off_xs len_xs : Nat} {xs : List Int} [h_xs : ArgE ic s id_xs off_xs xs] (hl_xs : xs.length = len_xs := by first | rfl | simp | omega | (simp; omega)) (hP : WdP st xs lo) (hy : wcnR st xs lo = ys) (hn : ys.length = n) (hb : len_xs ≤ 2000000 := by omega) :
    Fn [] 53 [.c (.sl id_xs off_xs len_xs), iv st, iv lo] s fun V N => ∃ p, V = .tup [.c (.sl p 0 n), .c (.bool true)] ∧ N = [(p, ints ys)] := by
  subst hy; subst hn
  exact (c_specWords (st := st) (lo := lo) (xs := xs)).mono fun V N k => wd_yes hP k
theorem c_specWordsN {s : St} [Wf s] {st lo : Int} {id_xs off_xs len_xs : Nat} {xs : List Int} [h_xs : ArgE ic s id_xs off_xs xs] (hl_xs : xs.length = len_xs := by first | rfl | simp | omega | (simp; omega)) (hP : ¬ WdP st xs lo) (hb : len_xs ≤ 2000000 := by omega) :
    Fn [] 53 [.c (.sl id_xs off_xs len_xs), iv st, iv lo] s fun V N => ∃ p, V = .tup [.c (.sl p 0 0), .c (.bool false)] ∧ N = [(p, ints [])] :=
  (c_specWords (st := st) (lo := lo) (xs := xs)).mono fun V N k => wd_no hP k
/-! ### shares -/
def shV (n : Int) (l : Nat) : Nat := fD .f32 (FloatKind.nearest .f32 n) (FloatKind.nearest .f32 (l : Int))
def shOk (n l : Nat) : Bool := match Ieee.single.div (FloatKind.nearest .f32 (n : Int)) (FloatKind.nearest .f32 (l : Int)) with
  | some w => decide (1015021568 ≤ w) && decide (w ≤ 1065353216)
  | none => false
theorem sh_tab : ∀ l : Nat, l < 65 → ∀ n : Nat, n < 65 → 1 ≤ n ∧ n ≤ l → shOk n l = true := by decide +kernel
theorem word_ps {w : Nat} (h1 : 1015021568 ≤ w) (h2 : w ≤ 1065353216) : Ps Ieee.single w 0 (-6) := by
  have hr := read_word Ieee.single (s := false) (r := w) (by rw [in_s]; omega)
  have hw : Ieee.single.word false w = w := rfl
  rw [hw] at hr
  refine ⟨_, _, hr, rung_le ?_ (loS (by omega)), rung_ge ?_ (loS (by omega))⟩
  · unfold topR
    rw [lp_s, bi_s, fb_s, show ((0 : Int) - -149 - ((23 : Nat) : Int) + 1).toNat = 127 by decide]
    exact Nat.le_trans h2 (by decide)
  · unfold topR
    rw [lp_s, bi_s, fb_s, show ((-6 : Int) - -149 - ((23 : Nat) : Int) + 1).toNat = 121 by decide]
    exact Nat.le_trans (by decide) h1
theorem sh_ops {n : Int} {l : Nat} (hn : 1 ≤ n ∧ n ≤ l) (hl : l ≤ 64) : floatBin .quo .f32 (FloatKind.nearest .f32 n) (FloatKind.nearest .f32 (l : Int)) = some (.float .f32 (shV n l)) ∧ Ps Ieee.single (shV n l) 0 (-6) := by
  obtain ⟨m, rfl⟩ : ∃ m : Nat, n = m := ⟨n.toNat, by omega⟩
  have h := sh_tab l (by omega) m (by omega) (by omega)
  unfold shOk at h
  cases hd : Ieee.single.div (FloatKind.nearest .f32 (m : Int)) (FloatKind.nearest .f32 (l : Int)) with
  | none => rw [hd] at h; cases h
  | some w =>
    rw [hd] at h
    simp only [Bool.and_eq_true, decide_eq_true_eq] at h
    exact of_div (k := .f32) (Q := fun w => Ps Ieee.single w 0 (-6)) ⟨w, hd, word_ps h.1 h.2⟩
/-! ### terms and their sum -/
def tmV (n : Int) (l : Nat) : Nat := fD .f32 (fM .f32 (shV n l) (lgF (shV n l))) ln32
def smV (ws : List Int) (l : Nat) : Nat → Nat
  | 0 => 0
  | i + 1 => if 0 < ws.getD i 0 then fA .f32 (smV ws l i) (tmV (ws.getD i 0) l) else smV ws l i
theorem tm_ops {n : Int} {l : Nat} (hn : 1 ≤ n ∧ n ≤ l) (hl : l ≤ 64) : floatBin .mul .f32 (shV n l) (lgF (shV n l)) = some (.float .f32 (fM .f32 (shV n l) (lgF (shV n l)))) ∧ floatBin .quo .f32 (fM .f32 (shV n l) (lgF (shV n l))) ln32 = some (.float .f32 (tmV n l)) ∧ Bd Ieee.single (tmV n l) 16 := by
  obtain ⟨_, h2⟩ := sh_ops hn hl
  have h3 := (lgF_ops h2).2.2.2
  have h4 := of_mul (k := .f32) (mul_bd (f := Ieee.single) h2.bd h3 (okS (by omega)))
  have h5 := of_div (k := .f32) (div_bd (f := Ieee.single) h4.2 gd_ln32 (okS (by omega)))
  exact ⟨h4.1, h5.1, h5.2.mono (by omega)⟩
theorem sm_bd {ws : List Int} {l : Nat} (hw : ∀ i, ws.getD i 0 ≤ l) (hl : l ≤ 64) : ∀ i : Nat, i ≤ 81 → Bd Ieee.single (smV ws l i) (16 + (i : Int))
  | 0, _ => ⟨false, 0, -149, (show Ieee.single.read 0 = .number false 0 (-149) by decide), .inl rfl⟩
  | i + 1, hi => by
    have ih := sm_bd hw hl i (by omega)
    rw [smV]
    by_cases h : 0 < ws.getD i 0
    · rw [if_pos h]
      have ht := (tm_ops (n := ws.getD i 0) ⟨by omega, hw i⟩ hl).2.2
      have h1 := of_add (k := .f32) (add_bd (f := Ieee.single) (a := 16 + (i : Int)) ih (ht.mono (by omega)) (okS (by omega)))
      exact h1.2.mono (by push_cast; omega)
    · rw [if_neg h]; exact ih.mono (by push_cast; omega)
theorem sm_ops {ws : List Int} {l i : Nat} (hw : ∀ i, ws.getD i 0 ≤ l) (hl : l ≤ 64) (hi : i < 81) (h : 0 < ws.getD i 0) : floatBin .add .f32 (smV ws l i) (tmV (ws.getD i 0) l) = some (.float .f32 (smV ws l (i + 1))) := by
  have ih := sm_bd hw hl i (by omega)
  have ht := (tm_ops (n := ws.getD i 0) ⟨by omega, hw i⟩ hl).2.2
  have h1 := of_add (k := .f32) (add_bd (f := Ieee.single) (a := 16 + (i : Int)) ih (ht.mono (by omega)) (okS (by omega)))
  rw [h1.1, smV, if_pos h]
def etV (ws : List Int) (l N lo : Nat) : Nat := fD .f32 (fS .f32 0 (smV ws l N)) (FloatKind.nearest .f32 (lo : Int))
theorem et_ops {ws : List Int} {l N lo : Nat} (hw : ∀ i, ws.getD i 0 ≤ l) (hl : l ≤ 64) (hN : N ≤ 81) (ho : 1 ≤ lo ∧ lo ≤ 4) : floatBin .sub .f32 0 (smV ws l N) = some (.float .f32 (fS .f32 0 (smV ws l N))) ∧ floatBin .quo .f32 (fS .f32 0 (smV ws l N)) (FloatKind.nearest .f32 (lo : Int)) = some (.float .f32 (etV ws l N lo)) ∧ Bd Ieee.single (etV ws l N lo) 98 := by
  have h0 : Bd Ieee.single 0 97 := ⟨false, 0, -149, (show Ieee.single.read 0 = .number false 0 (-149) by decide), .inl rfl⟩
  have h1 := sm_bd hw hl N hN
  have h2 := of_sub (k := .f32) (sub_bd (f := Ieee.single) (a := 97) h0 (h1.mono (by omega)) (okS (by omega)))
  have e2 : (2 : Nat) ^ (2 : Int).toNat = 4 := by decide
  have h3 : Ps Ieee.single (FloatKind.nearest .f32 (lo : Int)) 2 0 := near_ps (k := .f32) (a := 2) ⟨by omega, by omega⟩ (by omega) (okS (by omega)) (loS (by omega))
  have h4 : Gd Ieee.single (FloatKind.nearest .f32 (lo : Int)) 0 := by
    obtain ⟨m, p, a, _, g⟩ := h3
    exact ⟨false, m, p, a, g⟩
  have h5 := of_div (k := .f32) (div_bd (f := Ieee.single) (a := 97 + 1) (k := 0) h2.2 h4 (okS (by omega)))
  exact ⟨h2.1, h5.1, h5.2.mono (by omega)⟩
noncomputable abbrev fltV (P : Prop) (r : Nat) : AV := .tup [.c (.float .f32 (sel P r 0)), .c (.bool (tt P))]
theorem R_flt {P : Prop} {r : Nat} {L : Objs} (h : P) : ∃ N, ((.tup [.c (.float .f32 r), .c (.bool true)] : AV) = fltV P r ∧ N = []) ∧ Sub N L := ⟨[], ⟨by simp only [fltV, sel_t h, tt_t h], rfl⟩, subN⟩
theorem R_fltN {P : Prop} {r : Nat} {L : Objs} (h : ¬ P) : ∃ N, ((.tup [.c (.float .f32 0), .c (.bool false)] : AV) = fltV P r ∧ N = []) ∧ Sub N L := ⟨[], ⟨by simp only [fltV, sel_f h, tt_f h], rfl⟩, subN⟩
def etR (st : Int) (xs : List Int) (lo : Int) : Nat := etV (wcnR st xs lo) xs.length (wcnR st xs lo).length lo.toNat
theorem wd_facts {S l : Nat} {xs : List Int} (hS : 2 ≤ S ∧ S ≤ 3) (hl : l ≤ 4) : (∀ i, (wcnR S xs l).getD i 0 ≤ xs.length) ∧ (wcnR S xs l).length ≤ 81 := by
  refine ⟨fun i => ?_, ?_⟩
  · rw [wcnR]; exact (wcn_in _ _).2
  · rw [wcnR, wcn_len]; exact (pow81 hS hl).2
theorem c_implWordEntropy {s : St} [Wf s] {st lo : Int} {id_xs off_xs len_xs : Nat} {xs : List Int} [h_xs : ArgE ic s id_xs off_xs xs] (hl_xs : xs.length = len_xs := by first | rfl | simp | omega | (simp; omega)) (hb : len_xs ≤ 2000000 := by omega) : FnV 28 [.c (.sl id_xs off_xs len_xs), iv st, iv lo] s (fltV (WdP st xs lo) (etR st xs lo)) := by
  refine F_start code28 ?_
  by_cases hP : WdP st xs lo
  case neg =>
    repeat' (first
 | refine A_go rfl ?_ | refine A_ifT rfl rfl ?_ | refine A_ifF rfl rfl ?_
 | refine A_add rfl rfl rfl (by omega) ?_ | refine A_sub rfl rfl rfl (by omega) ?_ | refine A_mul rfl rfl rfl (by omega) ?_ | refine A_quo rfl rfl rfl (by omega) ?_
 | ((first | refine A_lt rfl rfl rfl ?_ ?_ | refine A_gt rfl rfl rfl ?_ ?_) <;> intro hc <;> try first | contradiction | (exfalso; omega) | exact absurd rfl hc)
 | refine A_idxN1 rfl rfl rfl (by omega) ?_ | refine A_idx1 rfl rfl rfl (by omega) ?_
 | (refine A_callM rfl rfl (fun s H => c_implWordsN (hP := hP)) ?_; rintro _ _ ⟨pz, rfl, rfl⟩) | (refine A_callM0 rfl rfl (fun s H => c_implWordsN (hP := hP)) ?_; rintro _ _ ⟨pz, rfl, rfl⟩)
 | refine A_p (by rfl) rfl ?_
 | refine A_ldI rfl (by first | omega | (simp; done) | (simp; omega)) rfl ?_ | refine A_ldB rfl (by first | omega | (simp; done) | (simp; omega)) rfl ?_ | refine A_ld rfl (by rfl) rfl ?_
 | refine A_ret rfl (by exact (RP.t rfl (RP.t rfl RP.nil))) ?_)
    exact R_fltN hP
  obtain ⟨S, l, rfl, rfl, hS, hl, hn, hr⟩ := hP.nat
  obtain ⟨hw, hN⟩ := wd_facts (xs := xs) hS hl.2
  have eR : etR S xs l = etV (wcnR S xs l) len_xs (wcnR S xs l).length l := by rw [etR, hl_xs]; rfl
  rw [eR]
  rw [hl_xs] at hw hn
  obtain ⟨ws, hws⟩ : ∃ ws, wcnR S xs l = ws := ⟨_, rfl⟩
  rw [hws] at hw hN ⊢
  obtain ⟨N, hNe⟩ : ∃ N, ws.length = N := ⟨_, rfl⟩
  rw [hNe] at hN ⊢
  obtain ⟨e1, e2, _⟩ := et_ops hw hn.2 hN hl
  repeat' (first
 | refine A_go rfl ?_ | refine A_ifT rfl rfl ?_ | refine A_ifF rfl rfl ?_
 | refine A_add rfl rfl rfl (by omega) ?_ | refine A_sub rfl rfl rfl (by omega) ?_ | refine A_mul rfl rfl rfl (by omega) ?_ | refine A_quo rfl rfl rfl (by omega) ?_
 | ((first | refine A_lt rfl rfl rfl ?_ ?_ | refine A_gt rfl rfl rfl ?_ ?_) <;> intro hc <;> try first | contradiction | (exfalso; omega) | exact absurd rfl hc)
 | refine A_idxN1 rfl rfl rfl (by omega) ?_ | refine A_idx1 rfl rfl rfl (by omega) ?_
 | (refine A_callM rfl rfl (fun s H => c_implWordsY (hP := hP) (hy := hws) (hn := hNe)) ?_; rintro _ _ ⟨pz, rfl, rfl⟩) | (refine A_callM0 rfl rfl (fun s H => c_implWordsY (hP := hP) (hy := hws) (hn := hNe)) ?_; rintro _ _ ⟨pz, rfl, rfl⟩)
 | refine A_p (by rfl) rfl ?_
 | refine A_ldI rfl (by first | omega | (simp; done) | (simp; omega)) rfl ?_ | refine A_ldB rfl (by first | omega | (simp; done) | (simp; omega)) rfl ?_ | refine A_ld rfl (by rfl) rfl ?_
 | refine A_ret rfl (by exact (RP.t rfl (RP.t rfl RP.nil))) ?_)
  refine A_loop rfl [pz] (fun m fr L => ∃ i : Nat, m = N - i ∧ fr = [(0, .c (.sl id_xs off_xs len_xs)), (2, iv l), (10, f32 (smV ws len_xs i)), (23, .c (.sl pz 0 N)), (24, iv N), (25, iv i)] ∧ L = [(pz, ints ws)] ∧ i ≤ N) N ⟨0, rfl, rfl, rfl, by omega⟩ ?_
  rintro m fr L ⟨i, rfl, rfl, rfl, hi⟩
  by_cases hi' : i < N
  case neg =>
    obtain rfl : N = i := by omega
    repeat' (first
 | refine A_go rfl ?_ | refine A_ifT rfl rfl ?_ | refine A_ifF rfl rfl ?_
 | refine A_add rfl rfl rfl (by omega) ?_ | refine A_sub rfl rfl rfl (by omega) ?_ | refine A_mul rfl rfl rfl (by omega) ?_ | refine A_quo rfl rfl rfl (by omega) ?_
 | ((first | refine A_lt rfl rfl rfl ?_ ?_ | refine A_gt rfl rfl rfl ?_ ?_) <;> intro hc <;> try first | contradiction | (exfalso; omega) | exact absurd rfl hc)
 | refine A_idxN1 rfl rfl rfl (by omega) ?_ | refine A_idx1 rfl rfl rfl (by omega) ?_
 | refine A_fb rfl rfl e1 rfl ?_
 | refine A_cvI rfl rfl ?_
 | refine A_fb rfl rfl e2 rfl ?_
 | refine A_p (by rfl) rfl ?_
 | refine A_ldI rfl (by first | omega | (simp; done) | (simp; omega)) rfl ?_ | refine A_ldB rfl (by first | omega | (simp; done) | (simp; omega)) rfl ?_ | refine A_ld rfl (by rfl) rfl ?_
 | refine A_ret rfl (by exact (RP.t rfl (RP.t rfl RP.nil))) ?_)
    exact R_flt hP
  by_cases hpos : 0 < ws.getD i 0
  · have hwi := hw i
    obtain ⟨a1, a2⟩ := sh_ops (n := ws.getD i 0) (l := len_xs) ⟨by omega, hwi⟩ hn.2
    obtain ⟨b1, b2, _⟩ := tm_ops (n := ws.getD i 0) (l := len_xs) ⟨by omega, hwi⟩ hn.2
    have b3 := sm_ops hw hn.2 (by omega : i < 81) hpos
    repeat' (first
 | refine A_go rfl ?_ | refine A_ifT rfl rfl ?_ | refine A_ifF rfl rfl ?_
 | refine A_add rfl rfl rfl (by omega) ?_ | refine A_sub rfl rfl rfl (by omega) ?_ | refine A_mul rfl rfl rfl (by omega) ?_ | refine A_quo rfl rfl rfl (by omega) ?_
 | ((first | refine A_lt rfl rfl rfl ?_ ?_ | refine A_gt rfl rfl rfl ?_ ?_) <;> intro hc <;> try first | contradiction | (exfalso; omega) | exact absurd rfl hc)
 | refine A_idxN1 rfl rfl rfl (by omega) ?_ | refine A_idx1 rfl rfl rfl (by omega) ?_
 | refine A_cvI rfl rfl ?_
 | refine A_fb rfl rfl a1 rfl ?_
 | refine A_callV rfl rfl (fun s H => c_LogNumber a2) ?_
 | refine A_fb rfl rfl b1 rfl ?_
 | refine A_fb rfl rfl b2 rfl ?_
 | refine A_fb rfl rfl b3 rfl ?_
 | refine A_p (by rfl) rfl ?_
 | refine A_ldI rfl (by first | omega | (simp; done) | (simp; omega)) rfl ?_ | refine A_ldB rfl (by first | omega | (simp; done) | (simp; omega)) rfl ?_ | refine A_ld rfl (by rfl) rfl ?_
 | refine A_ret rfl (by exact (RP.t rfl (RP.t rfl RP.nil))) ?_)
    refine A_round rfl [pz] (N - (i + 1)) (by omega) ?_
    exact ⟨i + 1, rfl, rfl, rfl, by omega⟩
  · have b3 : smV ws len_xs (i + 1) = smV ws len_xs i := by rw [smV, if_neg hpos]
    repeat' (first
 | refine A_go rfl ?_ | refine A_ifT rfl rfl ?_ | refine A_ifF rfl rfl ?_
 | refine A_add rfl rfl rfl (by omega) ?_ | refine A_sub rfl rfl rfl (by omega) ?_ | refine A_mul rfl rfl rfl (by omega) ?_ | refine A_quo rfl rfl rfl (by omega) ?_
 | ((first | refine A_lt rfl rfl rfl ?_ ?_ | refine A_gt rfl rfl rfl ?_ ?_) <;> intro hc <;> try first | contradiction | (exfalso; omega) | exact absurd rfl hc)
 | refine A_idxN1 rfl rfl rfl (by omega) ?_ | refine A_idx1 rfl rfl rfl (by omega) ?_
 | refine A_p (by rfl) rfl ?_
 | refine A_ldI rfl (by first | omega | (simp; done) | (simp; omega)) rfl ?_ | refine A_ldB rfl (by first | omega | (simp; done) | (simp; omega)) rfl ?_ | refine A_ld rfl (by rfl) rfl ?_
 | refine A_ret rfl (by exact (RP.t rfl (RP.t rfl RP.nil))) ?_)
    refine A_round rfl [pz] (N - (i + 1)) (by omega) ?_
    exact ⟨i + 1, rfl, by rw [b3]; rfl, rfl, by omega⟩
theorem c_specWordEntropy {s : St} [Wf s] {st lo : Int} {id_xs off_xs len_xs : Nat} {xs : List Int} [h_xs : ArgE ic s id_xs off_xs xs] (hl_xs : xs.length = len_xs := by first | rfl | simp | omega | (simp; omega)) (hb : len_xs ≤ 2000000 := by omega) : FnV 26 [.c (.sl id_xs off_xs len_xs), iv st, iv lo] s (fltV (WdP st xs lo) (etR st xs lo)) := by
  refine F_start code26 ?_
  by_cases hP : WdP st xs lo
  case neg =>
    repeat' (first
 | refine A_go rfl ?_ | refine A_ifT rfl rfl ?_ | refine A_ifF rfl rfl ?_
 | refine A_add rfl rfl rfl (by omega) ?_ | refine A_sub rfl rfl rfl (by omega) ?_ | refine A_mul rfl rfl rfl (by omega) ?_ | refine A_quo rfl rfl rfl (by omega) ?_
 | ((first | refine A_lt rfl rfl rfl ?_ ?_ | refine A_gt rfl rfl rfl ?_ ?_) <;> intro hc <;> try first | contradiction | (exfalso; omega) | exact absurd rfl hc)
 | refine A_idxN1 rfl rfl rfl (by omega) ?_ | refine A_idx1 rfl rfl rfl (by omega) ?_
 | (refine A_callM rfl rfl (fun s H => c_specWordsN (hP := hP)) ?_; rintro _ _ ⟨pz, rfl, rfl⟩) | (refine A_callM0 rfl rfl (fun s H => c_specWordsN (hP := hP)) ?_; rintro _ _ ⟨pz, rfl, rfl⟩)
 | refine A_p (by rfl) rfl ?_
 | refine A_ldI rfl (by first | omega | (simp; done) | (simp; omega)) rfl ?_ | refine A_ldB rfl (by first | omega | (simp; done) | (simp; omega)) rfl ?_ | refine A_ld rfl (by rfl) rfl ?_
 | refine A_ret rfl (by exact (RP.t rfl (RP.t rfl RP.nil))) ?_)
    exact R_fltN hP
  obtain ⟨S, l, rfl, rfl, hS, hl, hn, hr⟩ := hP.nat
  obtain ⟨hw, hN⟩ := wd_facts (xs := xs) hS hl.2
  have eR : etR S xs l = etV (wcnR S xs l) len_xs (wcnR S xs l).length l := by rw [etR, hl_xs]; rfl
  rw [eR]
  rw [hl_xs] at hw hn
  obtain ⟨ws, hws⟩ : ∃ ws, wcnR S xs l = ws := ⟨_, rfl⟩
  rw [hws] at hw hN ⊢
  obtain ⟨N, hNe⟩ : ∃ N, ws.length = N := ⟨_, rfl⟩
  rw [hNe] at hN ⊢
  obtain ⟨e1, e2, e3⟩ := et_ops hw hn.2 hN hl
  repeat' (first
 | refine A_go rfl ?_ | refine A_ifT rfl rfl ?_ | refine A_ifF rfl rfl ?_
 | refine A_add rfl rfl rfl (by omega) ?_ | refine A_sub rfl rfl rfl (by omega) ?_ | refine A_mul rfl rfl rfl (by omega) ?_ | refine A_quo rfl rfl rfl (by omega) ?_
 | ((first | refine A_lt rfl rfl rfl ?_ ?_ | refine A_gt rfl rfl rfl ?_ ?_) <;> intro hc <;> try first | contradiction | (exfalso; omega) | exact absurd rfl hc)
 | refine A_idxN1 rfl rfl rfl (by omega) ?_ | refine A_idx1 rfl rfl rfl (by omega) ?_
 | (refine A_callM rfl rfl (fun s H => c_specWordsY (hP := hP) (hy := hws) (hn := hNe)) ?_; rintro _ _ ⟨pz, rfl, rfl⟩) | (refine A_callM0 rfl rfl (fun s H => c_specWordsY (hP := hP) (hy := hws) (hn := hNe)) ?_; rintro _ _ ⟨pz, rfl, rfl⟩)
 | refine A_p (by rfl) rfl ?_
 | refine A_ldI rfl (by first | omega | (simp; done) | (simp; omega)) rfl ?_ | refine A_ldB rfl (by first | omega | (simp; done) | (simp; omega)) rfl ?_ | refine A_ld rfl (by rfl) rfl ?_
 | refine A_ret rfl (by exact (RP.t rfl (RP.t rfl RP.nil))) ?_)
  refine A_loop rfl [pz] (fun m fr L => ∃ i : Nat, m = N - i ∧ fr = [(0, .c (.sl id_xs off_xs len_xs)), (2, iv l), (8, .c (.sl pz 0 N)), (10, f32 (smV ws len_xs i)), (11, iv i)] ∧ L = [(pz, ints ws)] ∧ i ≤ N) N ⟨0, rfl, rfl, rfl, by omega⟩ ?_
  rintro m fr L ⟨i, rfl, rfl, rfl, hi⟩
  by_cases hi' : i < N
  case neg =>
    obtain rfl : N = i := by omega
    repeat' (first
 | refine A_go rfl ?_ | refine A_ifT rfl rfl ?_ | refine A_ifF rfl rfl ?_
 | refine A_add rfl rfl rfl (by omega) ?_ | refine A_sub rfl rfl rfl (by omega) ?_ | refine A_mul rfl rfl rfl (by omega) ?_ | refine A_quo rfl rfl rfl (by omega) ?_
 | ((first | refine A_lt rfl rfl rfl ?_ ?_ | refine A_gt rfl rfl rfl ?_ ?_) <;> intro hc <;> try first | contradiction | (exfalso; omega) | exact absurd rfl hc)
 | refine A_idxN1 rfl rfl rfl (by omega) ?_ | refine A_idx1 rfl rfl rfl (by omega) ?_
 | refine A_fb rfl rfl e1 rfl ?_
 | refine A_cvI rfl rfl ?_
 | refine A_fb rfl rfl e2 rfl ?_
 | refine A_callV rfl rfl (fun s H => c_l02Number e3) ?_
 | refine A_p (by rfl) rfl ?_
 | refine A_ldI rfl (by first | omega | (simp; done) | (simp; omega)) rfl ?_ | refine A_ldB rfl (by first | omega | (simp; done) | (simp; omega)) rfl ?_ | refine A_ld rfl (by rfl) rfl ?_
 | refine A_ret rfl (by exact (RP.t rfl (RP.t rfl RP.nil))) ?_)
    exact R_flt hP
  by_cases hpos : 0 < ws.getD i 0
  · have hwi := hw i
    obtain ⟨a1, a2⟩ := sh_ops (n := ws.getD i 0) (l := len_xs) ⟨by omega, hwi⟩ hn.2
    obtain ⟨b1, b2, _⟩ := tm_ops (n := ws.getD i 0) (l := len_xs) ⟨by omega, hwi⟩ hn.2
    have b3 := sm_ops hw hn.2 (by omega : i < 81) hpos
    repeat' (first
 | refine A_go rfl ?_ | refine A_ifT rfl rfl ?_ | refine A_ifF rfl rfl ?_
 | refine A_add rfl rfl rfl (by omega) ?_ | refine A_sub rfl rfl rfl (by omega) ?_ | refine A_mul rfl rfl rfl (by omega) ?_ | refine A_quo rfl rfl rfl (by omega) ?_
 | ((first | refine A_lt rfl rfl rfl ?_ ?_ | refine A_gt rfl rfl rfl ?_ ?_) <;> intro hc <;> try first | contradiction | (exfalso; omega) | exact absurd rfl hc)
 | refine A_idxN1 rfl rfl rfl (by omega) ?_ | refine A_idx1 rfl rfl rfl (by omega) ?_
 | refine A_cvI rfl rfl ?_
 | refine A_fb rfl rfl a1 rfl ?_
 | refine A_callV rfl rfl (fun s H => c_l01Log a2) ?_
 | refine A_fb rfl rfl b1 rfl ?_
 | refine A_fb rfl rfl b2 rfl ?_
 | refine A_fb rfl rfl b3 rfl ?_
 | refine A_p (by rfl) rfl ?_
 | refine A_ldI rfl (by first | omega | (simp; done) | (simp; omega)) rfl ?_ | refine A_ldB rfl (by first | omega | (simp; done) | (simp; omega)) rfl ?_ | refine A_ld rfl (by rfl) rfl ?_
 | refine A_ret rfl (by exact (RP.t rfl (RP.t rfl RP.nil))) ?_)
    refine A_round rfl [pz] (N - (i + 1)) (by omega) ?_
    exact ⟨i + 1, rfl, rfl, rfl, by omega⟩
  · have b3 : smV ws len_xs (i + 1) = smV ws len_xs i := by rw [smV, if_neg hpos]
    repeat' (first
 | refine A_go rfl ?_ | refine A_ifT rfl rfl ?_ | refine A_ifF rfl rfl ?_
 | refine A_add rfl rfl rfl (by omega) ?_ | refine A_sub rfl rfl rfl (by omega) ?_ | refine A_mul rfl rfl rfl (by omega) ?_ | refine A_quo rfl rfl rfl (by omega) ?_
 | ((first | refine A_lt rfl rfl rfl ?_ ?_ | refine A_gt rfl rfl rfl ?_ ?_) <;> intro hc <;> try first | contradiction | (exfalso; omega) | exact absurd rfl hc)
 | refine A_idxN1 rfl rfl rfl (by omega) ?_ | refine A_idx1 rfl rfl rfl (by omega) ?_
 | refine A_p (by rfl) rfl ?_
 | refine A_ldI rfl (by first | omega | (simp; done) | (simp; omega)) rfl ?_ | refine A_ldB rfl (by first | omega | (simp; done) | (simp; omega)) rfl ?_ | refine A_ld rfl (by rfl) rfl ?_
 | refine A_ret rfl (by exact (RP.t rfl (RP.t rfl RP.nil))) ?_)
    refine A_round rfl [pz] (N - (i + 1)) (by omega) ?_
    exact ⟨i + 1, rfl, by rw [b3]; rfl, rfl, by omega⟩
theorem div_any {x : Nat} {j : Int} (h : Bd Ieee.double x j) : ∃ w, floatBin .quo .f64 one64 x = some (.float .f64 w) := by
  obtain ⟨s, m, p, e, _⟩ := h
  have : ∃ w, Ieee.double.div one64 x = some w := by
    unfold Ieee.Format.div
    rw [rd_one, e]
    simp only [Ieee.Datum.quotient]
    by_cases hm : m = 0
    · rw [if_pos hm, if_neg (by decide)]; exact ⟨_, rfl⟩
    · rw [if_neg hm]; exact ⟨_, rfl⟩
  obtain ⟨w, hw⟩ := this
  refine ⟨w, ?_⟩
  show (Ieee.double.div one64 x).map (AC.float .f64) = _
  rw [hw]; rfl
theorem c_sameFl {s : St} [Wf s] {x : Nat} {j : Int} (h : Bd Ieee.double x j) : FnV 29 [f64 x, f64 x] s (bv true) := by
  have e := ord_refl h
  have h1 : floatBin .neq .f64 x x = some (.bool false) := by
    show some (AC.bool (Ieee.double.order x x != some .eq)) = _
    rw [e]; rfl
  have h2 : floatBin .eql .f64 x x = some (.bool true) := by
    show some (AC.bool (Ieee.double.order x x == some .eq)) = _
    rw [e]; rfl
  obtain ⟨w, h3⟩ := div_any h
  refine F_start code29 ?_
  cases hz : (Ieee.double.order x 0 == some .eq) with
  | true =>
    have h4 : floatBin .eql .f64 x 0 = some (.bool true) := by
      show some (AC.bool (Ieee.double.order x 0 == some .eq)) = _
      rw [hz]
    have h5 : floatBin .gtr .f64 w 0 = some (.bool (Ieee.double.order w 0 == some .gt)) := rfl
    generalize (Ieee.double.order w 0 == some .gt) = t at h5
    repeat' (first
 | refine A_go rfl ?_ | refine A_ifT rfl rfl ?_ | refine A_ifF rfl rfl ?_
 | refine A_offP rfl rfl ?_ | refine A_offH rfl rfl ?_ | refine A_off0 rfl rfl ?_
 | refine A_quo rfl rfl rfl (by omega) ?_
 | ((first | refine A_gt rfl rfl rfl ?_ ?_ | refine A_eq rfl rfl rfl ?_ ?_ | refine A_ne rfl rfl rfl ?_ ?_ | refine A_beq rfl rfl rfl ?_ ?_) <;> intro hc <;> try first | contradiction | (exfalso; omega) | exact absurd rfl hc)
 | refine A_fb rfl rfl h1 rfl ?_
 | refine A_fb rfl rfl h4 rfl ?_
 | refine A_fb rfl rfl h3 rfl ?_
 | refine A_fb rfl rfl h5 rfl ?_
 | refine A_p (by rfl) rfl ?_
 | refine A_ret1 rfl (by exact (RP.t rfl RP.nil)) ?_)
    all_goals exact R_v rfl
  | false =>
    have h4 : floatBin .eql .f64 x 0 = some (.bool false) := by
      show some (AC.bool (Ieee.double.order x 0 == some .eq)) = _
      rw [hz]
    repeat' (first
 | refine A_go rfl ?_ | refine A_ifT rfl rfl ?_ | refine A_ifF rfl rfl ?_
 | refine A_offP rfl rfl ?_ | refine A_offH rfl rfl ?_ | refine A_off0 rfl rfl ?_
 | refine A_quo rfl rfl rfl (by omega) ?_
 | ((first | refine A_gt rfl rfl rfl ?_ ?_ | refine A_eq rfl rfl rfl ?_ ?_ | refine A_ne rfl rfl rfl ?_ ?_ | refine A_beq rfl rfl rfl ?_ ?_) <;> intro hc <;> try first | contradiction | (exfalso; omega) | exact absurd rfl hc)
 | refine A_fb rfl rfl h1 rfl ?_
 | refine A_fb rfl rfl h4 rfl ?_
 | refine A_fb rfl rfl h2 rfl ?_
 | refine A_p (by rfl) rfl ?_
 | refine A_ret1 rfl (by exact (RP.t rfl RP.nil)) ?_)
    exact R_v rfl
/-- The result, as a number of double precision. -/
theorem et_cv {st lo : Int} {xs : List Int} : ∃ v j, convFV .f64 (f32 (sel (WdP st xs lo) (etR st xs lo) 0)) = some (f64 v) ∧ Bd Ieee.double v j := by
  by_cases hP : WdP st xs lo
  · obtain ⟨S, l, rfl, rfl, hS, hl, hn, hr⟩ := hP.nat
    obtain ⟨hw, hN⟩ := wd_facts (xs := xs) hS hl.2
    have h := (et_ops hw hn.2 hN hl).2.2
    rw [sel_t hP]
    have h2 := cv_bd (s := .f32) (k := .f64) h (okD (by omega)) (by decide)
    exact ⟨_, _, h2.1, h2.2⟩
  · rw [sel_f hP]
    have h0 : Bd Ieee.single 0 97 := ⟨false, 0, -149, (show Ieee.single.read 0 = .number false 0 (-149) by decide), .inl rfl⟩
    have h2 := cv_bd (s := .f32) (k := .f64) h0 (okD (by omega)) (by decide)
    exact ⟨_, _, h2.1, h2.2⟩

end Go.Proofs.Ytlmbgaoeplffkaa
