/- Whether each word has one that leads to it. -/
import Derived.Test.YtkeabhhndcpejaaXoneToOne
import Derived.Test.YtkeabhhndcpejaaFB
namespace Go.Proofs.Ytkeabhhndcpejaa
open Go Go.RowKit
set_option linter.unusedVariables false
set_option linter.unusedSimpArgs false
set_option maxRecDepth 100000
set_option maxHeartbeats 8000000
-- spec.l03Onto
def L95 : AFun := ⟨173, [.t 2],
 (.seq (.ops false [⟨(some 2), .mv (.k (bv false)), none, []⟩])
 (.seq (.ops false [⟨(some 20), .mv (.t 0), none, []⟩,
   ⟨(some 21), .call (.f 64) [(.t 20)], none, []⟩,
   ⟨(some 3), .mv (.t 21), none, []⟩])
 (.seq (.seq (.ops false [⟨(some 4), .mv (.k (iv 0)), none, []⟩])
  (.block 0 (.loop [0, 3, 4] (.seq (.seq (.ops false [⟨(some 22), .mv (.t 4), none, []⟩,
       ⟨(some 23), .mv (.t 3), none, []⟩,
       ⟨(some 24), .bin .lss (.t 22) (.t 23), none, []⟩])
     (.cond (.t 24) .skip
      (.exit 0)))
    (.seq (.block 1 (.seq (.ops false [⟨(some 27), .mv (.t 3), none, []⟩,
        ⟨(some 28), .mv (.t 3), none, []⟩,
        ⟨(some 29), .bin .mul (.t 27) (.t 28), none, []⟩,
        ⟨(some 30), .makeS 4 1 1 [.bool false] (.t 29) (.t 29), none, []⟩,
        ⟨(some 5), .mv (.t 30), none, []⟩])
      (.seq (.ops false [⟨(some 31), .buildS 2 1 0 [.int .i64 0] [], none, []⟩,
        ⟨(some 6), .mv (.t 31), none, []⟩])
      (.seq (.seq (.ops false [⟨(some 7), .mv (.k (iv 0)), none, []⟩])
       (.block 2 (.loop [0, 3, 4, 5, 6, 7] (.seq (.seq (.ops false [⟨(some 32), .mv (.t 7), none, []⟩,
            ⟨(some 33), .mv (.t 0), none, []⟩,
            ⟨(some 34), .nilChk (.t 33), none, []⟩,
            ⟨(some 35), .fieldA 0 (.t 34), none, []⟩,
            ⟨(some 36), .load false 1 (.t 35), none, []⟩,
            ⟨(some 37), .bin .lss (.t 32) (.t 36), none, []⟩])
          (.cond (.t 37) .skip
           (.exit 2)))
         (.seq (.block 3 (.seq (.ops false [⟨(some 8), .mv (.k (iv 0)), none, []⟩])
           (.block 4 (.loop [0, 3, 4, 5, 6, 7, 8] (.seq (.seq (.ops false [⟨(some 40), .mv (.t 8), none, []⟩,
                ⟨(some 41), .mv (.t 0), none, []⟩,
                ⟨(some 42), .nilChk (.t 41), none, []⟩,
                ⟨(some 43), .fieldA 0 (.t 42), none, []⟩,
                ⟨(some 44), .load false 1 (.t 43), none, []⟩,
                ⟨(some 45), .bin .lss (.t 40) (.t 44), none, []⟩])
              (.cond (.t 45) .skip
               (.exit 4)))
             (.seq (.block 5 (.seq (.ops false [⟨(some 49), .mv (.t 0), none, []⟩,
                 ⟨(some 50), .mv (.t 4), none, []⟩,
                 ⟨(some 51), .mv (.t 7), none, []⟩,
                 ⟨(some 52), .call (.f 65) [(.t 49), (.t 50), (.t 51)], none, []⟩,
                 ⟨(some 48), .mv (.t 52), none, []⟩,
                 ⟨(some 53), .ext (.t 48) 0, none, []⟩,
                 ⟨(some 54), .ext (.t 48) 1, none, []⟩,
                 ⟨(some 9), .mv (.t 53), none, []⟩,
                 ⟨(some 10), .mv (.t 54), none, []⟩])
               (.seq (.ops false [⟨(some 56), .mv (.t 0), none, []⟩,
                 ⟨(some 57), .mv (.t 4), none, []⟩,
                 ⟨(some 58), .mv (.t 8), none, []⟩,
                 ⟨(some 59), .call (.f 65) [(.t 56), (.t 57), (.t 58)], none, []⟩,
                 ⟨(some 55), .mv (.t 59), none, []⟩,
                 ⟨(some 60), .ext (.t 55) 0, none, []⟩,
                 ⟨(some 61), .ext (.t 55) 1, none, []⟩,
                 ⟨(some 11), .mv (.t 60), none, []⟩,
                 ⟨(some 12), .mv (.t 61), none, []⟩])
               (.seq (.seq (.ops false [⟨(some 62), .mv (.t 7), none, []⟩,
                  ⟨(some 63), .mv (.t 8), none, []⟩,
                  ⟨(some 64), .bin .eql (.t 62) (.t 63), none, []⟩,
                  ⟨(some 65), .mv (.t 64), none, []⟩,
                  ⟨(some 66), .mv (.t 10), (some (65, false)), []⟩,
                  ⟨(some 67), .mv (.t 12), (some (65, false)), []⟩,
                  ⟨(some 68), .bin .neq (.t 66) (.t 67), (some (65, false)), []⟩,
                  ⟨(some 69), .pick (.t 65) (.k (bv true)) (.t 68), none, []⟩])
                (.cond (.t 69) (.exit 5)
                 .skip))
               (.seq (.seq (.ops false [⟨(some 70), .mv (.t 9), none, []⟩,
                  ⟨(some 71), .mv (.t 11), none, []⟩,
                  ⟨(some 72), .bin .eql (.t 70) (.t 71), none, []⟩])
                (.cond (.t 72) (.seq (.ops false [⟨(some 2), .mv (.k (bv false)), none, []⟩])
                 .ret)
                 .skip))
               (.seq (.ops false [⟨(some 73), .mv (.t 5), none, []⟩,
                 ⟨(some 74), .mv (.t 9), none, []⟩,
                 ⟨(some 75), .mv (.t 3), none, []⟩,
                 ⟨(some 76), .bin .mul (.t 74) (.t 75), none, []⟩,
                 ⟨(some 77), .mv (.t 11), none, []⟩,
                 ⟨(some 78), .bin .add (.t 76) (.t 77), none, []⟩,
                 ⟨(some 79), .idxA 1 (.t 73) (.t 78), none, []⟩,
                 ⟨(some 80), .load false 1 (.t 79), none, []⟩,
                 ⟨(some 81), .un .not (.t 80), none, []⟩])
               (.cond (.t 81) (.seq (.ops false [⟨(some 82), .mv (.t 5), none, []⟩,
                  ⟨(some 83), .mv (.t 9), none, []⟩,
                  ⟨(some 84), .mv (.t 3), none, []⟩,
                  ⟨(some 85), .bin .mul (.t 83) (.t 84), none, []⟩,
                  ⟨(some 86), .mv (.t 11), none, []⟩,
                  ⟨(some 87), .bin .add (.t 85) (.t 86), none, []⟩,
                  ⟨(some 88), .idxA 1 (.t 82) (.t 87), none, []⟩,
                  ⟨none, .store 1 (.t 88) (.k (bv true)), none, []⟩])
                (.ops false [⟨(some 89), .mv (.t 6), none, []⟩,
                 ⟨(some 90), .mv (.t 9), none, []⟩,
                 ⟨(some 91), .mv (.t 3), none, []⟩,
                 ⟨(some 92), .bin .mul (.t 90) (.t 91), none, []⟩,
                 ⟨(some 93), .mv (.t 11), none, []⟩,
                 ⟨(some 94), .bin .add (.t 92) (.t 93), none, []⟩,
                 ⟨(some 95), .buildS 2 1 1 [.int .i64 0] [(0, 1, (.t 94))], none, []⟩,
                 ⟨(some 96), .append 2 1 8 (.t 89) (.t 95), none, []⟩,
                 ⟨(some 6), .mv (.t 96), none, []⟩]))
                .skip)))))))
             (.ops false [⟨(some 46), .mv (.t 8), none, []⟩,
              ⟨(some 47), .bin .add (.t 46) (.k (iv 1)), none, []⟩,
              ⟨(some 8), .mv (.t 47), none, []⟩])))))))
         (.ops false [⟨(some 38), .mv (.t 7), none, []⟩,
          ⟨(some 39), .bin .add (.t 38) (.k (iv 1)), none, []⟩,
          ⟨(some 7), .mv (.t 39), none, []⟩]))))))
      (.seq (.ops false [⟨(some 13), .mv (.k (iv 0)), none, []⟩])
      (.block 6 (.loop [0, 3, 4, 5, 6, 13] (.seq (.seq (.ops false [⟨(some 97), .mv (.t 13), none, []⟩,
           ⟨(some 98), .mv (.t 6), none, []⟩,
           ⟨(some 99), .len false (.t 98), none, []⟩,
           ⟨(some 100), .bin .lss (.t 97) (.t 99), none, []⟩])
         (.cond (.t 100) .skip
          (.exit 6)))
        (.seq (.block 7 (.seq (.ops false [⟨(some 14), .mv (.k (iv 0)), none, []⟩])
          (.block 8 (.loop [0, 3, 4, 5, 6, 13, 14] (.seq (.seq (.ops false [⟨(some 103), .mv (.t 14), none, []⟩,
               ⟨(some 104), .mv (.t 0), none, []⟩,
               ⟨(some 105), .nilChk (.t 104), none, []⟩,
               ⟨(some 106), .fieldA 0 (.t 105), none, []⟩,
               ⟨(some 107), .load false 1 (.t 106), none, []⟩,
               ⟨(some 108), .bin .lss (.t 103) (.t 107), none, []⟩])
             (.cond (.t 108) .skip
              (.exit 8)))
            (.seq (.block 9 (.seq (.ops false [⟨(some 15), .mv (.k (iv 0)), none, []⟩])
              (.block 10 (.loop [0, 3, 4, 5, 6, 13, 14, 15] (.seq (.seq (.ops false [⟨(some 111), .mv (.t 15), none, []⟩,
                   ⟨(some 112), .mv (.t 0), none, []⟩,
                   ⟨(some 113), .nilChk (.t 112), none, []⟩,
                   ⟨(some 114), .fieldA 0 (.t 113), none, []⟩,
                   ⟨(some 115), .load false 1 (.t 114), none, []⟩,
                   ⟨(some 116), .bin .lss (.t 111) (.t 115), none, []⟩])
                 (.cond (.t 116) .skip
                  (.exit 10)))
                (.seq (.block 11 (.seq (.ops false [⟨(some 120), .mv (.t 0), none, []⟩,
                    ⟨(some 121), .mv (.t 6), none, []⟩,
                    ⟨(some 122), .mv (.t 13), none, []⟩,
                    ⟨(some 123), .idxA 1 (.t 121) (.t 122), none, []⟩,
                    ⟨(some 124), .load false 1 (.t 123), none, []⟩,
                    ⟨(some 125), .mv (.t 3), none, []⟩,
                    ⟨(some 126), .bin .quo (.t 124) (.t 125), none, []⟩,
                    ⟨(some 127), .mv (.t 14), none, []⟩,
                    ⟨(some 128), .call (.f 65) [(.t 120), (.t 126), (.t 127)], none, []⟩,
                    ⟨(some 119), .mv (.t 128), none, []⟩,
                    ⟨(some 129), .ext (.t 119) 0, none, []⟩,
                    ⟨(some 130), .ext (.t 119) 1, none, []⟩,
                    ⟨(some 16), .mv (.t 129), none, []⟩,
                    ⟨(some 17), .mv (.t 130), none, []⟩])
                  (.seq (.ops false [⟨(some 132), .mv (.t 0), none, []⟩,
                    ⟨(some 133), .mv (.t 6), none, []⟩,
                    ⟨(some 134), .mv (.t 13), none, []⟩,
                    ⟨(some 135), .idxA 1 (.t 133) (.t 134), none, []⟩,
                    ⟨(some 136), .load false 1 (.t 135), none, []⟩,
                    ⟨(some 137), .mv (.t 3), none, []⟩,
                    ⟨(some 138), .bin .rem (.t 136) (.t 137), none, []⟩,
                    ⟨(some 139), .mv (.t 15), none, []⟩,
                    ⟨(some 140), .call (.f 65) [(.t 132), (.t 138), (.t 139)], none, []⟩,
                    ⟨(some 131), .mv (.t 140), none, []⟩,
                    ⟨(some 141), .ext (.t 131) 0, none, []⟩,
                    ⟨(some 142), .ext (.t 131) 1, none, []⟩,
                    ⟨(some 18), .mv (.t 141), none, []⟩,
                    ⟨(some 19), .mv (.t 142), none, []⟩])
                  (.seq (.seq (.ops false [⟨(some 143), .mv (.t 17), none, []⟩,
                     ⟨(some 144), .mv (.t 19), none, []⟩,
                     ⟨(some 145), .bin .neq (.t 143) (.t 144), none, []⟩])
                   (.cond (.t 145) (.exit 11)
                    .skip))
                  (.seq (.seq (.ops false [⟨(some 146), .mv (.t 16), none, []⟩,
                     ⟨(some 147), .mv (.t 18), none, []⟩,
                     ⟨(some 148), .bin .eql (.t 146) (.t 147), none, []⟩])
                   (.cond (.t 148) (.seq (.ops false [⟨(some 2), .mv (.k (bv false)), none, []⟩])
                    .ret)
                    .skip))
                  (.seq (.ops false [⟨(some 149), .mv (.t 5), none, []⟩,
                    ⟨(some 150), .mv (.t 16), none, []⟩,
                    ⟨(some 151), .mv (.t 3), none, []⟩,
                    ⟨(some 152), .bin .mul (.t 150) (.t 151), none, []⟩,
                    ⟨(some 153), .mv (.t 18), none, []⟩,
                    ⟨(some 154), .bin .add (.t 152) (.t 153), none, []⟩,
                    ⟨(some 155), .idxA 1 (.t 149) (.t 154), none, []⟩,
                    ⟨(some 156), .load false 1 (.t 155), none, []⟩,
                    ⟨(some 157), .un .not (.t 156), none, []⟩])
                  (.cond (.t 157) (.seq (.ops false [⟨(some 158), .mv (.t 5), none, []⟩,
                     ⟨(some 159), .mv (.t 16), none, []⟩,
                     ⟨(some 160), .mv (.t 3), none, []⟩,
                     ⟨(some 161), .bin .mul (.t 159) (.t 160), none, []⟩,
                     ⟨(some 162), .mv (.t 18), none, []⟩,
                     ⟨(some 163), .bin .add (.t 161) (.t 162), none, []⟩,
                     ⟨(some 164), .idxA 1 (.t 158) (.t 163), none, []⟩,
                     ⟨none, .store 1 (.t 164) (.k (bv true)), none, []⟩])
                   (.ops false [⟨(some 165), .mv (.t 6), none, []⟩,
                    ⟨(some 166), .mv (.t 16), none, []⟩,
                    ⟨(some 167), .mv (.t 3), none, []⟩,
                    ⟨(some 168), .bin .mul (.t 166) (.t 167), none, []⟩,
                    ⟨(some 169), .mv (.t 18), none, []⟩,
                    ⟨(some 170), .bin .add (.t 168) (.t 169), none, []⟩,
                    ⟨(some 171), .buildS 2 1 1 [.int .i64 0] [(0, 1, (.t 170))], none, []⟩,
                    ⟨(some 172), .append 2 1 8 (.t 165) (.t 171), none, []⟩,
                    ⟨(some 6), .mv (.t 172), none, []⟩]))
                   .skip)))))))
                (.ops false [⟨(some 117), .mv (.t 15), none, []⟩,
                 ⟨(some 118), .bin .add (.t 117) (.k (iv 1)), none, []⟩,
                 ⟨(some 15), .mv (.t 118), none, []⟩])))))))
            (.ops false [⟨(some 109), .mv (.t 14), none, []⟩,
             ⟨(some 110), .bin .add (.t 109) (.k (iv 1)), none, []⟩,
             ⟨(some 14), .mv (.t 110), none, []⟩])))))))
        (.ops false [⟨(some 101), .mv (.t 13), none, []⟩,
         ⟨(some 102), .bin .add (.t 101) (.k (iv 1)), none, []⟩,
         ⟨(some 13), .mv (.t 102), none, []⟩]))))))))))
    (.ops false [⟨(some 25), .mv (.t 4), none, []⟩,
     ⟨(some 26), .bin .add (.t 25) (.k (iv 1)), none, []⟩,
     ⟨(some 4), .mv (.t 26), none, []⟩]))))))
 (.seq (.ops false [⟨(some 2), .mv (.k (bv true)), none, []⟩])
 .ret))))⟩
theorem code95 : acode Try.prog hints 95 = some L95 := by kernel_rfl


abbrev Dg (E p : Nat) : Prop := p / E = p % E
/-- One way, but not from a pair of the same ends to one of the same. -/
def G4 (S E : Nat) (xs : List Int) (p q : Nat) : Prop := Gp S E xs p q ∧ (¬ Dg E p ∨ ¬ Dg E q)
/-- Two different ways between the same two ends lead to the same. -/
def Bad (S E : Nat) (xs : List Int) : Prop :=
  (∃ a x y, a < E ∧ x < S ∧ y < S ∧ x ≠ y ∧ xs.getD (a * S + x) 0 = xs.getD (a * S + y) 0 ∧ (a * S + x) % E = (a * S + y) % E) ∨ ∃ a r, a < E ∧ Dg E r ∧ Plus (G4 S E xs) (a * E + a) r
def Od (S E : Nat) (xs : List Int) : Prop := ∃ p, p < E * E ∧ ¬ Dg E p ∧ (∃ a, a < E ∧ Plus (Gp S E xs) (a * E + a) p) ∧ ∃ c, c < E ∧ Plus (Gp S E xs) p (c * E + c)
theorem dg_aa {E a : Nat} (h : a < E) : Dg E (a * E + a) := by
  rw [Dg, am_div h, Nat.mul_add_mod_self_right, Nat.mod_eq_of_lt h]
theorem dg_of {E p : Nat} (h : Dg E p) (hp : p < E * E) : ∃ a, a < E ∧ p = a * E + a := by
  obtain ⟨h1, h2, h3⟩ := div_mod_lt hp
  refine ⟨p / E, h1, ?_⟩
  rw [← h] at h3; exact h3.symm
theorem tgt_div {S E p x y : Nat} (hE : 1 ≤ E) : tgt S E p x y / E = (p / E * S + x) % E ∧ tgt S E p x y % E = (p % E * S + y) % E := by
  have h := mod_in (m := p % E * S + y) hE
  exact ⟨am_div h, by rw [tgt, Nat.mul_add_mod_self_right, Nat.mod_eq_of_lt h]⟩
theorem Gp.lt {S E : Nat} {xs : List Int} {p q : Nat} (hE : 1 ≤ E) (h : Gp S E xs p q) : q < E * E := by
  obtain ⟨x, y, _, _, _, rfl⟩ := h
  exact tgt_lt hE
theorem plus_lt {S E : Nat} {xs : List Int} {p q : Nat} (hE : 1 ≤ E) (h : Plus (Gp S E xs) p q) : q < E * E := by
  cases h with
  | one g => exact g.lt hE
  | snoc _ g => exact g.lt hE
theorem od_bad {S E : Nat} {xs : List Int} (hE : 1 ≤ E) (h : Od S E xs) : Bad S E xs := by
  obtain ⟨p, hp, hd, ⟨a, ha, h1⟩, c, hc, h2⟩ := h
  have key : ∀ q, Plus (Gp S E xs) (a * E + a) q → ¬ Dg E q → ∃ a', a' < E ∧ Plus (G4 S E xs) (a' * E + a') q := fun q k => by
    induction k with
    | one g => exact fun hq => ⟨a, ha, .one ⟨g, .inr hq⟩⟩
    | @snoc b c' k g ih =>
      intro hq
      by_cases hb : Dg E b
      · obtain ⟨a', h1, rfl⟩ := dg_of hb (plus_lt hE k)
        exact ⟨a', h1, .one ⟨g, .inr hq⟩⟩
      · obtain ⟨a', h1, h2⟩ := ih hb
        exact ⟨a', h1, h2.snoc ⟨g, .inl hb⟩⟩
  obtain ⟨a', ha', k1⟩ := key p h1 hd
  have key2 : ∀ r, Plus (Gp S E xs) p r → (∃ d, Dg E d ∧ Plus (G4 S E xs) (a' * E + a') d) ∨ (Plus (G4 S E xs) (a' * E + a') r ∧ ¬ Dg E r) := fun r k => by
    induction k with
    | @one r g =>
      have := k1.snoc ⟨g, .inl hd⟩
      by_cases hr : Dg E r
      · exact .inl ⟨_, hr, this⟩
      · exact .inr ⟨this, hr⟩
    | @snoc b r k g ih =>
      rcases ih with h | ⟨h, hb⟩
      · exact .inl h
      · have := h.snoc ⟨g, .inl hb⟩
        by_cases hr : Dg E r
        · exact .inl ⟨_, hr, this⟩
        · exact .inr ⟨this, hr⟩
  rcases key2 _ h2 with ⟨d, hd, h⟩ | ⟨h, hn⟩
  · exact .inr ⟨a', d, ha', hd, h⟩
  · exact absurd (dg_aa hc) hn
theorem bad_od {S E k : Nat} {xs : List Int} (hE : 1 ≤ E) (hk : E = S * k) (h : Bad S E xs) : Od S E xs := by
  rcases h with ⟨a, x, y, ha, hx, hy, hne, _, he⟩ | ⟨a, r, ha, hr, h⟩
  · have e : ∀ z, (a * S + z) % E % S = z % S := fun z => by
      rw [hk, Nat.mod_mul_right_mod, Nat.mul_add_mod_self_right]
    have h1 := e x
    have h2 := e y
    rw [he, h2, Nat.mod_eq_of_lt hx, Nat.mod_eq_of_lt hy] at h1
    exact absurd h1.symm hne
  · cases h with
    | one g => exact absurd (dg_aa ha) (g.2.resolve_right fun g => g hr)
    | @snoc b _ k g =>
      have k1 := k.mono (G' := Gp S E xs) fun _ _ g => g.1
      obtain ⟨c, hc, rfl⟩ := dg_of hr (g.1.lt hE)
      exact ⟨b, plus_lt hE k1, g.2.resolve_right fun g => g hr, ⟨a, ha, k1⟩, c, hc, .one g.1⟩
theorem bad_one {S : Nat} {xs : List Int} (hl : xs.length = S) : Bad S 1 xs ↔ ¬ NoTw xs := by
  constructor
  · rintro (⟨a, x, y, ha, hx, hy, hne, h, _⟩ | ⟨a, r, ha, hr, h⟩)
    · obtain rfl : a = 0 := by omega
      rw [Nat.zero_mul, Nat.zero_add, Nat.zero_add] at h
      intro g
      rcases Nat.lt_or_ge x y with hlt | hge
      · exact g y x hlt (by omega) h.symm
      · exact g x y (by omega) (by omega) h
    · exfalso
      have key : ∀ q, Plus (G4 S 1 xs) (a * 1 + a) q → q < 1 * 1 := fun q k => by
        cases k with
        | one g => exact g.1.lt (Nat.le_refl 1)
        | snoc _ g => exact g.1.lt (Nat.le_refl 1)
      have hd0 : ∀ p, p < 1 → Dg 1 p := fun p h => by
        obtain rfl : p = 0 := by omega
        rfl
      cases h with
      | one g => exact g.2.elim (fun h => h (dg_aa ha)) fun h => h hr
      | snoc k g => exact g.2.elim (fun h => h (hd0 _ (key _ k))) fun h => h hr
  · intro h
    refine .inl ?_
    simp only [NoTw, Classical.not_forall] at h
    obtain ⟨i, k, h1, h2, h3⟩ := h
    exact ⟨0, i, k, by omega, by omega, by omega, by omega, by rw [Nat.zero_mul, Nat.zero_add, Nat.zero_add]; exact Classical.not_not.1 h3, by rw [Nat.mod_one, Nat.mod_one]⟩
theorem c_l03Onto {s : St} [Wf s] {q S w E : Nat} {re : Int} {id_xs off_xs len_xs : Nat} {xs : List Int} [hq : Ref s q [ic S, ic re, .sl id_xs off_xs len_xs]] [h_xs : ArgE ic s id_xs off_xs xs] (hl_xs : xs.length = len_xs := by first | rfl | simp | omega) (hE : E = S ^ (w - 1)) (hl : xs.length = E * S) (hS : 2 ≤ S ∧ S ≤ 3 := by omega) (hw : 2 * re + 1 = w ∧ 1 ≤ w ∧ w ≤ 5 := by omega) (hEb : 1 ≤ E ∧ E ≤ 81 := by omega) :
    FnB 95 [.c (.ptr q 0)] s (¬ Bad S E xs) := by
  have hNN : (E : Int) * E = ((E * E : Nat) : Int) := by push_cast; rfl
  have hEE : E * E ≤ 6561 := Nat.mul_le_mul hEb.2 hEb.2
  have hS9 : S * S ≤ 9 := Nat.mul_le_mul hS.2 hS.2
  refine F_start code95 ?_
  repeat' (first
 | refine A_go rfl ?_ | refine A_ifT rfl rfl ?_ | refine A_ifF rfl rfl ?_ | refine A_offP rfl rfl ?_ | refine A_offH rfl rfl ?_ | refine A_off0 rfl rfl ?_
 | refine A_add rfl rfl rfl (by omega) ?_ | refine A_sub rfl rfl rfl (by omega) ?_ | refine A_mul rfl rfl rfl (by omega) ?_ | refine A_rem rfl rfl rfl (by omega) ?_ | refine A_remT rfl rfl rfl (by omega) ?_ | refine A_quo rfl rfl rfl (by omega) ?_
 | ((first | refine A_lt rfl rfl rfl ?_ ?_ | refine A_le rfl rfl rfl ?_ ?_ | refine A_gt rfl rfl rfl ?_ ?_ | refine A_ge rfl rfl rfl ?_ ?_ | refine A_eq rfl rfl rfl ?_ ?_ | refine A_ne rfl rfl rfl ?_ ?_ | refine A_beq rfl rfl rfl ?_ ?_) <;> intro hc <;> try first | contradiction | (exfalso; omega) | exact absurd rfl hc)
 | refine A_idxN1 rfl rfl rfl (by omega) ?_ | refine A_idx1 rfl rfl rfl (by omega) ?_ | refine A_idxArr1 rfl rfl rfl (by omega) ?_
 | refine A_callV rfl rfl (fun s H => c_l03Ends (hE := hE)) ?_
 | refine A_fld rfl rfl ?_ | refine A_mk3 rfl rfl rfl rfl ?_ | refine A_mk23 rfl rfl rfl ?_ | refine A_mk2 rfl rfl rfl ?_ | refine A_mk13 rfl rfl ?_ | refine A_p (by rfl) rfl ?_
 | refine A_ldI rfl (by first | omega | (simp; done) | (simp; omega)) rfl ?_ | refine A_ldB rfl (by first | omega | (simp; done) | (simp; omega)) rfl ?_ | refine A_ld rfl (by rfl) rfl ?_ | refine A_ldW rfl (by simp) rfl ?_
 | refine A_st rfl rfl rfl ?_ | refine A_stW rfl rfl (by simp) rfl ?_ | refine A_stE rfl rfl (by first | omega | (simp; done) | (simp; omega)) rfl ?_
 | ((first | refine A_alloc rfl ?_ | refine A_box rfl rfl ?_ | refine A_boxC rfl rfl ?_ | refine A_makeN rfl rfl rfl (by omega) ?_ | refine A_make rfl rfl rfl (by omega) ?_ | refine A_bld1 rfl rfl ?_ | refine A_bld2 rfl rfl rfl ?_ | refine A_bld4 rfl rfl rfl rfl rfl ?_) <;> intro pz hpz)
 | refine A_bld0 rfl ?_ | (refine A_app rfl rfl rfl (by first | omega | (simp; done) | (simp; omega)) (by first | omega | (simp; done) | (simp; omega)) (by omega) ?_; intro pz) | (refine A_appN (enc := ic) rfl (by decide) rfl rfl (by first | omega | (simp; done) | (simp; omega)) (by omega) ?_; intro pz)
 | refine A_chk1 rfl rfl rfl ?_ | refine A_chk2 rfl rfl rfl rfl ?_ | refine A_chk3 rfl rfl rfl rfl rfl ?_ | refine A_chk4 rfl rfl rfl rfl rfl rfl ?_ | refine A_chkI rfl (by assumption) rfl (by simp) ?_
 | refine A_ret1 rfl (by first | exact (RP.t rfl RP.nil) | exact (RP.c rfl inferInstance rfl (by simp) RP.nil)) ?_ | refine A_ret rfl (by first | exact (RP.t rfl (RP.t rfl RP.nil)) | exact (RP.c rfl inferInstance rfl (by simp) (RP.t rfl RP.nil)) | exact (RP.t rfl (RP.t rfl (RP.t rfl RP.nil))) | exact (RP.c rfl inferInstance rfl (by simp) (RP.t rfl (RP.t rfl RP.nil))) | exact (RP.c rfl inferInstance rfl (by simp) (RP.t rfl (RP.t rfl (RP.t rfl (RP.t rfl RP.nil)))))) ?_ | refine A_ret0 rfl ?_)
  refine A_loop rfl [] (fun m fr L => ∃ a : Nat, m = E - a ∧ fr = [(0, .c (.ptr q 0)), (3, iv E), (4, iv a)] ∧ L = [] ∧ a ≤ E ∧ (∀ a' x y, a' < a → x < S → y < S → x ≠ y → xs.getD (a' * S + x) 0 = xs.getD (a' * S + y) 0 → (a' * S + x) % E ≠ (a' * S + y) % E) ∧ ∀ a' r, a' < a → Plus (G4 S E xs) (a' * E + a') r → ¬ Dg E r) E ⟨0, rfl, rfl, rfl, by omega, fun a' x y h => by omega, fun a' r h => by omega⟩ ?_
  rintro m fr L ⟨a, rfl, rfl, rfl, ha, hA1, hA2⟩
  by_cases ha' : a < E
  case neg =>
    obtain rfl : E = a := by omega
    repeat' (first
 | refine A_go rfl ?_ | refine A_ifT rfl rfl ?_ | refine A_ifF rfl rfl ?_ | refine A_offP rfl rfl ?_ | refine A_offH rfl rfl ?_ | refine A_off0 rfl rfl ?_
 | refine A_add rfl rfl rfl (by omega) ?_ | refine A_sub rfl rfl rfl (by omega) ?_ | refine A_mul rfl rfl rfl (by omega) ?_ | refine A_rem rfl rfl rfl (by omega) ?_ | refine A_remT rfl rfl rfl (by omega) ?_ | refine A_quo rfl rfl rfl (by omega) ?_
 | ((first | refine A_lt rfl rfl rfl ?_ ?_ | refine A_le rfl rfl rfl ?_ ?_ | refine A_gt rfl rfl rfl ?_ ?_ | refine A_ge rfl rfl rfl ?_ ?_ | refine A_eq rfl rfl rfl ?_ ?_ | refine A_ne rfl rfl rfl ?_ ?_ | refine A_beq rfl rfl rfl ?_ ?_) <;> intro hc <;> try first | contradiction | (exfalso; omega) | exact absurd rfl hc)
 | refine A_idxN1 rfl rfl rfl (by omega) ?_ | refine A_idx1 rfl rfl rfl (by omega) ?_ | refine A_idxArr1 rfl rfl rfl (by omega) ?_
 | refine A_fld rfl rfl ?_ | refine A_mk3 rfl rfl rfl rfl ?_ | refine A_mk23 rfl rfl rfl ?_ | refine A_mk2 rfl rfl rfl ?_ | refine A_mk13 rfl rfl ?_ | refine A_p (by rfl) rfl ?_
 | refine A_ldI rfl (by first | omega | (simp; done) | (simp; omega)) rfl ?_ | refine A_ldB rfl (by first | omega | (simp; done) | (simp; omega)) rfl ?_ | refine A_ld rfl (by rfl) rfl ?_ | refine A_ldW rfl (by simp) rfl ?_
 | refine A_st rfl rfl rfl ?_ | refine A_stW rfl rfl (by simp) rfl ?_ | refine A_stE rfl rfl (by first | omega | (simp; done) | (simp; omega)) rfl ?_
 | ((first | refine A_alloc rfl ?_ | refine A_box rfl rfl ?_ | refine A_boxC rfl rfl ?_ | refine A_makeN rfl rfl rfl (by omega) ?_ | refine A_make rfl rfl rfl (by omega) ?_ | refine A_bld1 rfl rfl ?_ | refine A_bld2 rfl rfl rfl ?_ | refine A_bld4 rfl rfl rfl rfl rfl ?_) <;> intro pz hpz)
 | refine A_bld0 rfl ?_ | (refine A_app rfl rfl rfl (by first | omega | (simp; done) | (simp; omega)) (by first | omega | (simp; done) | (simp; omega)) (by omega) ?_; intro pz) | (refine A_appN (enc := ic) rfl (by decide) rfl rfl (by first | omega | (simp; done) | (simp; omega)) (by omega) ?_; intro pz)
 | refine A_chk1 rfl rfl rfl ?_ | refine A_chk2 rfl rfl rfl rfl ?_ | refine A_chk3 rfl rfl rfl rfl rfl ?_ | refine A_chk4 rfl rfl rfl rfl rfl rfl ?_ | refine A_chkI rfl (by assumption) rfl (by simp) ?_
 | refine A_ret1 rfl (by first | exact (RP.t rfl RP.nil) | exact (RP.c rfl inferInstance rfl (by simp) RP.nil)) ?_ | refine A_ret rfl (by first | exact (RP.t rfl (RP.t rfl RP.nil)) | exact (RP.c rfl inferInstance rfl (by simp) (RP.t rfl RP.nil)) | exact (RP.t rfl (RP.t rfl (RP.t rfl RP.nil))) | exact (RP.c rfl inferInstance rfl (by simp) (RP.t rfl (RP.t rfl RP.nil))) | exact (RP.c rfl inferInstance rfl (by simp) (RP.t rfl (RP.t rfl (RP.t rfl (RP.t rfl RP.nil)))))) ?_ | refine A_ret0 rfl ?_)
    refine R_t ?_
    rintro (⟨a, x, y, ha, hx, hy, hne, h1, h2⟩ | ⟨a, r, ha, hr, h⟩)
    · exact hA1 a x y ha hx hy hne h1 h2
    · exact hA2 a r ha h hr
  have hdv : (a * E + a) / E = a := am_div ha'
  have hmd : (a * E + a) % E = a := by rw [Nat.mul_add_mod_self_right, Nat.mod_eq_of_lt ha']
  have hPl := lt_mul ha' ha'
  have hPd := dg_aa ha'
  repeat' (first
 | refine A_go rfl ?_ | refine A_ifT rfl rfl ?_ | refine A_ifF rfl rfl ?_ | refine A_offP rfl rfl ?_ | refine A_offH rfl rfl ?_ | refine A_off0 rfl rfl ?_
 | refine A_add rfl rfl rfl (by omega) ?_ | refine A_sub rfl rfl rfl (by omega) ?_ | refine A_mul rfl rfl rfl (by omega) ?_ | refine A_rem rfl rfl rfl (by omega) ?_ | refine A_remT rfl rfl rfl (by omega) ?_ | refine A_quo rfl rfl rfl (by omega) ?_
 | ((first | refine A_lt rfl rfl rfl ?_ ?_ | refine A_le rfl rfl rfl ?_ ?_ | refine A_gt rfl rfl rfl ?_ ?_ | refine A_ge rfl rfl rfl ?_ ?_ | refine A_eq rfl rfl rfl ?_ ?_ | refine A_ne rfl rfl rfl ?_ ?_ | refine A_beq rfl rfl rfl ?_ ?_) <;> intro hc <;> try first | contradiction | (exfalso; omega) | exact absurd rfl hc)
 | refine A_idxN1 rfl rfl rfl (by omega) ?_ | refine A_idx1 rfl rfl rfl (by omega) ?_ | refine A_idxArr1 rfl rfl rfl (by omega) ?_
 | simp only [hNN]
 | refine A_fld rfl rfl ?_ | refine A_mk3 rfl rfl rfl rfl ?_ | refine A_mk23 rfl rfl rfl ?_ | refine A_mk2 rfl rfl rfl ?_ | refine A_mk13 rfl rfl ?_ | refine A_p (by rfl) rfl ?_
 | refine A_ldI rfl (by first | omega | (simp; done) | (simp; omega)) rfl ?_ | refine A_ldB rfl (by first | omega | (simp; done) | (simp; omega)) rfl ?_ | refine A_ld rfl (by rfl) rfl ?_ | refine A_ldW rfl (by simp) rfl ?_
 | refine A_st rfl rfl rfl ?_ | refine A_stW rfl rfl (by simp) rfl ?_ | refine A_stE rfl rfl (by first | omega | (simp; done) | (simp; omega)) rfl ?_
 | ((first | refine A_alloc rfl ?_ | refine A_box rfl rfl ?_ | refine A_boxC rfl rfl ?_ | refine A_makeN rfl rfl rfl (by omega) ?_ | refine A_make rfl rfl rfl (by omega) ?_ | refine A_bld1 rfl rfl ?_ | refine A_bld2 rfl rfl rfl ?_ | refine A_bld4 rfl rfl rfl rfl rfl ?_) <;> intro pz hpz)
 | refine A_bld0 rfl ?_ | (refine A_app rfl rfl rfl (by first | omega | (simp; done) | (simp; omega)) (by first | omega | (simp; done) | (simp; omega)) (by omega) ?_; intro pz) | (refine A_appN (enc := ic) rfl (by decide) rfl rfl (by first | omega | (simp; done) | (simp; omega)) (by omega) ?_; intro pz)
 | refine A_chk1 rfl rfl rfl ?_ | refine A_chk2 rfl rfl rfl rfl ?_ | refine A_chk3 rfl rfl rfl rfl rfl ?_ | refine A_chk4 rfl rfl rfl rfl rfl rfl ?_ | refine A_chkI rfl (by assumption) rfl (by simp) ?_
 | refine A_ret1 rfl (by first | exact (RP.t rfl RP.nil) | exact (RP.c rfl inferInstance rfl (by simp) RP.nil)) ?_ | refine A_ret rfl (by first | exact (RP.t rfl (RP.t rfl RP.nil)) | exact (RP.c rfl inferInstance rfl (by simp) (RP.t rfl RP.nil)) | exact (RP.t rfl (RP.t rfl (RP.t rfl RP.nil))) | exact (RP.c rfl inferInstance rfl (by simp) (RP.t rfl (RP.t rfl RP.nil))) | exact (RP.c rfl inferInstance rfl (by simp) (RP.t rfl (RP.t rfl (RP.t rfl (RP.t rfl RP.nil)))))) ?_ | refine A_ret0 rfl ?_)
  obtain ⟨ps, hEq⟩ : ∃ p, p = pz := ⟨_, rfl⟩; subst hEq
  generalize hP : a * E + a = P at *
  have hsn0 : ∀ p, ¬ Sn (List.replicate (E * E) false) p := fun p h => by
    unfold Sn at h
    rw [List.getD_eq_getElem?_getD, List.getElem?_replicate] at h
    split at h <;> simp at h
  have hst : Wk (G4 S E xs) (fun y => y = P) (Sn (List.replicate (E * E) false)) (fun y : Nat => (y : Int) ∈ ([] : List Int).drop 0) (some P) (fun _ => False) :=
    ((Wk.start (G := G4 S E xs) (src := fun y => y = P)).take (x := P) (td' := fun _ => False) rfl (fun _ h => h.elim) (fun y h => .inl h)).congr (fun p => ⟨fun h => h.elim, fun h => hsn0 p h⟩) (fun y => by simp) (fun _ => Iff.rfl)
  have hu0 := unseen_le (bs := List.replicate (E * E) false) (E * E)
  refine A_loop rfl [ps, 1] (fun m fr L => ∃ (u p n : Nat) (cs : List Int) (bs : List Bool), m = S - u ∧ fr = [(0, .c (.ptr q 0)), (3, iv E), (4, iv a), (5, .c (.sl ps 0 (E * E))), (6, .c (.sl p 0 n)), (7, iv u)] ∧ L = [(ps, .rw 4 1 (bs.map bc)), (p, ints cs)] ∧ u ≤ S ∧ cs.length = n ∧ bs.length = E * E ∧ Wk (G4 S E xs) (fun y => y = P) (Sn bs) (fun y : Nat => (y : Int) ∈ cs.drop 0) (some P) (fun r => Gm S E xs P (u * S) r ∧ ¬ Dg E r) ∧ (∀ x ∈ cs, ∃ z : Nat, x = z ∧ z < E * E ∧ ¬ Dg E z) ∧ (∀ r, Sn bs r → ¬ Dg E r) ∧ n + unseen bs (E * E) ≤ E * E ∧ ∀ x y, x < S → y < S → x * S + y < u * S → x ≠ y → xs.getD (a * S + x) 0 = xs.getD (a * S + y) 0 → (a * S + x) % E ≠ (a * S + y) % E) S ⟨0, 1, 0, [], _, rfl, rfl, rfl, by omega, rfl, by simp, hst.congr (fun _ => Iff.rfl) (fun _ => Iff.rfl) (fun r => ⟨fun h => h.elim, fun h => by rw [Nat.zero_mul] at h; exact Gm.none h.1⟩), by simp, fun r h => absurd h (hsn0 r), by omega, fun x y _ _ h => by omega⟩ ?_
  rintro m fr L ⟨u, p, n, cs, bs, rfl, rfl, rfl, hu, hcl, hbl, hw2, hin, hsd, hn, hno⟩
  by_cases hu' : u < S
  · repeat' (first
 | refine A_go rfl ?_ | refine A_ifT rfl rfl ?_ | refine A_ifF rfl rfl ?_ | refine A_offP rfl rfl ?_ | refine A_offH rfl rfl ?_ | refine A_off0 rfl rfl ?_
 | refine A_add rfl rfl rfl (by omega) ?_ | refine A_sub rfl rfl rfl (by omega) ?_ | refine A_mul rfl rfl rfl (by omega) ?_ | refine A_rem rfl rfl rfl (by omega) ?_ | refine A_remT rfl rfl rfl (by omega) ?_ | refine A_quo rfl rfl rfl (by omega) ?_
 | ((first | refine A_lt rfl rfl rfl ?_ ?_ | refine A_le rfl rfl rfl ?_ ?_ | refine A_gt rfl rfl rfl ?_ ?_ | refine A_ge rfl rfl rfl ?_ ?_ | refine A_eq rfl rfl rfl ?_ ?_ | refine A_ne rfl rfl rfl ?_ ?_ | refine A_beq rfl rfl rfl ?_ ?_) <;> intro hc <;> try first | contradiction | (exfalso; omega) | exact absurd rfl hc)
 | refine A_idxN1 rfl rfl rfl (by omega) ?_ | refine A_idx1 rfl rfl rfl (by omega) ?_ | refine A_idxArr1 rfl rfl rfl (by omega) ?_
 | refine A_fld rfl rfl ?_ | refine A_mk3 rfl rfl rfl rfl ?_ | refine A_mk23 rfl rfl rfl ?_ | refine A_mk2 rfl rfl rfl ?_ | refine A_mk13 rfl rfl ?_ | refine A_p (by rfl) rfl ?_
 | refine A_ldI rfl (by first | omega | (simp; done) | (simp; omega)) rfl ?_ | refine A_ldB rfl (by first | omega | (simp; done) | (simp; omega)) rfl ?_ | refine A_ld rfl (by rfl) rfl ?_ | refine A_ldW rfl (by simp) rfl ?_
 | refine A_st rfl rfl rfl ?_ | refine A_stW rfl rfl (by simp) rfl ?_ | refine A_stE rfl rfl (by first | omega | (simp; done) | (simp; omega)) rfl ?_
 | ((first | refine A_alloc rfl ?_ | refine A_box rfl rfl ?_ | refine A_boxC rfl rfl ?_ | refine A_makeN rfl rfl rfl (by omega) ?_ | refine A_make rfl rfl rfl (by omega) ?_ | refine A_bld1 rfl rfl ?_ | refine A_bld2 rfl rfl rfl ?_ | refine A_bld4 rfl rfl rfl rfl rfl ?_) <;> intro pz hpz)
 | refine A_bld0 rfl ?_ | (refine A_app rfl rfl rfl (by first | omega | (simp; done) | (simp; omega)) (by first | omega | (simp; done) | (simp; omega)) (by omega) ?_; intro pz) | (refine A_appN (enc := ic) rfl (by decide) rfl rfl (by first | omega | (simp; done) | (simp; omega)) (by omega) ?_; intro pz)
 | refine A_chk1 rfl rfl rfl ?_ | refine A_chk2 rfl rfl rfl rfl ?_ | refine A_chk3 rfl rfl rfl rfl rfl ?_ | refine A_chk4 rfl rfl rfl rfl rfl rfl ?_ | refine A_chkI rfl (by assumption) rfl (by simp) ?_
 | refine A_ret1 rfl (by first | exact (RP.t rfl RP.nil) | exact (RP.c rfl inferInstance rfl (by simp) RP.nil)) ?_ | refine A_ret rfl (by first | exact (RP.t rfl (RP.t rfl RP.nil)) | exact (RP.c rfl inferInstance rfl (by simp) (RP.t rfl RP.nil)) | exact (RP.t rfl (RP.t rfl (RP.t rfl RP.nil))) | exact (RP.c rfl inferInstance rfl (by simp) (RP.t rfl (RP.t rfl RP.nil))) | exact (RP.c rfl inferInstance rfl (by simp) (RP.t rfl (RP.t rfl (RP.t rfl (RP.t rfl RP.nil)))))) ?_ | refine A_ret0 rfl ?_)
    refine A_loop rfl [ps, p] (fun m fr L => ∃ (v p n : Nat) (cs : List Int) (bs : List Bool), m = S - v ∧ fr = [(0, .c (.ptr q 0)), (3, iv E), (4, iv a), (5, .c (.sl ps 0 (E * E))), (6, .c (.sl p 0 n)), (7, iv u), (8, iv v)] ∧ L = [(ps, .rw 4 1 (bs.map bc)), (p, ints cs)] ∧ v ≤ S ∧ cs.length = n ∧ bs.length = E * E ∧ Wk (G4 S E xs) (fun y => y = P) (Sn bs) (fun y : Nat => (y : Int) ∈ cs.drop 0) (some P) (fun r => Gm S E xs P (u * S + v) r ∧ ¬ Dg E r) ∧ (∀ x ∈ cs, ∃ z : Nat, x = z ∧ z < E * E ∧ ¬ Dg E z) ∧ (∀ r, Sn bs r → ¬ Dg E r) ∧ n + unseen bs (E * E) ≤ E * E ∧ ∀ x y, x < S → y < S → x * S + y < u * S + v → x ≠ y → xs.getD (a * S + x) 0 = xs.getD (a * S + y) 0 → (a * S + x) % E ≠ (a * S + y) % E) S ⟨0, p, n, cs, bs, rfl, rfl, rfl, by omega, hcl, hbl, hw2, hin, hsd, hn, hno⟩ ?_
    clear hw2 hin hn hcl hbl hsd hno
    rintro m' fr L ⟨v, p, n, cs, bs, rfl, rfl, rfl, hv, hcl, hbl, hw2, hin, hsd, hn, hno⟩
    by_cases hv' : v < S
    case neg =>
      obtain rfl : S = v := by omega
      repeat' (first
 | refine A_go rfl ?_ | refine A_ifT rfl rfl ?_ | refine A_ifF rfl rfl ?_ | refine A_offP rfl rfl ?_ | refine A_offH rfl rfl ?_ | refine A_off0 rfl rfl ?_
 | refine A_add rfl rfl rfl (by omega) ?_ | refine A_sub rfl rfl rfl (by omega) ?_ | refine A_mul rfl rfl rfl (by omega) ?_ | refine A_rem rfl rfl rfl (by omega) ?_ | refine A_remT rfl rfl rfl (by omega) ?_ | refine A_quo rfl rfl rfl (by omega) ?_
 | ((first | refine A_lt rfl rfl rfl ?_ ?_ | refine A_le rfl rfl rfl ?_ ?_ | refine A_gt rfl rfl rfl ?_ ?_ | refine A_ge rfl rfl rfl ?_ ?_ | refine A_eq rfl rfl rfl ?_ ?_ | refine A_ne rfl rfl rfl ?_ ?_ | refine A_beq rfl rfl rfl ?_ ?_) <;> intro hc <;> try first | contradiction | (exfalso; omega) | exact absurd rfl hc)
 | refine A_idxN1 rfl rfl rfl (by omega) ?_ | refine A_idx1 rfl rfl rfl (by omega) ?_ | refine A_idxArr1 rfl rfl rfl (by omega) ?_
 | refine A_fld rfl rfl ?_ | refine A_mk3 rfl rfl rfl rfl ?_ | refine A_mk23 rfl rfl rfl ?_ | refine A_mk2 rfl rfl rfl ?_ | refine A_mk13 rfl rfl ?_ | refine A_p (by rfl) rfl ?_
 | refine A_ldI rfl (by first | omega | (simp; done) | (simp; omega)) rfl ?_ | refine A_ldB rfl (by first | omega | (simp; done) | (simp; omega)) rfl ?_ | refine A_ld rfl (by rfl) rfl ?_ | refine A_ldW rfl (by simp) rfl ?_
 | refine A_st rfl rfl rfl ?_ | refine A_stW rfl rfl (by simp) rfl ?_ | refine A_stE rfl rfl (by first | omega | (simp; done) | (simp; omega)) rfl ?_
 | ((first | refine A_alloc rfl ?_ | refine A_box rfl rfl ?_ | refine A_boxC rfl rfl ?_ | refine A_makeN rfl rfl rfl (by omega) ?_ | refine A_make rfl rfl rfl (by omega) ?_ | refine A_bld1 rfl rfl ?_ | refine A_bld2 rfl rfl rfl ?_ | refine A_bld4 rfl rfl rfl rfl rfl ?_) <;> intro pz hpz)
 | refine A_bld0 rfl ?_ | (refine A_app rfl rfl rfl (by first | omega | (simp; done) | (simp; omega)) (by first | omega | (simp; done) | (simp; omega)) (by omega) ?_; intro pz) | (refine A_appN (enc := ic) rfl (by decide) rfl rfl (by first | omega | (simp; done) | (simp; omega)) (by omega) ?_; intro pz)
 | refine A_chk1 rfl rfl rfl ?_ | refine A_chk2 rfl rfl rfl rfl ?_ | refine A_chk3 rfl rfl rfl rfl rfl ?_ | refine A_chk4 rfl rfl rfl rfl rfl rfl ?_ | refine A_chkI rfl (by assumption) rfl (by simp) ?_
 | refine A_ret1 rfl (by first | exact (RP.t rfl RP.nil) | exact (RP.c rfl inferInstance rfl (by simp) RP.nil)) ?_ | refine A_ret rfl (by first | exact (RP.t rfl (RP.t rfl RP.nil)) | exact (RP.c rfl inferInstance rfl (by simp) (RP.t rfl RP.nil)) | exact (RP.t rfl (RP.t rfl (RP.t rfl RP.nil))) | exact (RP.c rfl inferInstance rfl (by simp) (RP.t rfl (RP.t rfl RP.nil))) | exact (RP.c rfl inferInstance rfl (by simp) (RP.t rfl (RP.t rfl (RP.t rfl (RP.t rfl RP.nil)))))) ?_ | refine A_ret0 rfl ?_)
      refine A_round rfl [ps, p] (S - (u + 1)) (by omega) ?_
      have e1 : u * S + S = (u + 1) * S := by rw [Nat.add_mul]; omega
      rw [e1] at hno hw2
      exact ⟨u + 1, p, n, cs, bs, rfl, rfl, rfl, by omega, hcl, hbl, hw2, hin, hsd, hn, hno⟩
    have hno' : (u ≠ v → xs.getD (a * S + u) 0 = xs.getD (a * S + v) 0 → (a * S + u) % E ≠ (a * S + v) % E) → ∀ x y, x < S → y < S → x * S + y < u * S + (v + 1) → x ≠ y → xs.getD (a * S + x) 0 = xs.getD (a * S + y) 0 → (a * S + x) % E ≠ (a * S + y) % E := fun h0 x y hx hy h => by
      by_cases e : x * S + y = u * S + v
      · obtain ⟨rfl, rfl⟩ := dig_eq hy hv' e
        exact h0
      · exact hno x y hx hy (by omega)
    by_cases huv : u = v
    · subst huv
      have hgm : ∀ r, (Gm S E xs P (u * S + u) r ∧ ¬ Dg E r) ↔ (Gm S E xs P (u * S + (u + 1)) r ∧ ¬ Dg E r) := fun r => by
        rw [Gm.step hu' hv' (by rw [hdv, hmd])]
        constructor
        · rintro ⟨h1, h2⟩; exact ⟨.inr h1, h2⟩
        · rintro ⟨h1 | h1, h2⟩
          · subst h1
            obtain ⟨e1, e2⟩ := tgt_div (S := S) (p := P) (x := u) (y := u) hEb.1
            exact absurd (by rw [Dg, e1, e2, hdv, hmd]) h2
          · exact ⟨h1, h2⟩
      repeat' (first
 | refine A_go rfl ?_ | refine A_ifT rfl rfl ?_ | refine A_ifF rfl rfl ?_ | refine A_offP rfl rfl ?_ | refine A_offH rfl rfl ?_ | refine A_off0 rfl rfl ?_
 | refine A_add rfl rfl rfl (by omega) ?_ | refine A_sub rfl rfl rfl (by omega) ?_ | refine A_mul rfl rfl rfl (by omega) ?_ | refine A_rem rfl rfl rfl (by omega) ?_ | refine A_remT rfl rfl rfl (by omega) ?_ | refine A_quo rfl rfl rfl (by omega) ?_
 | ((first | refine A_lt rfl rfl rfl ?_ ?_ | refine A_le rfl rfl rfl ?_ ?_ | refine A_gt rfl rfl rfl ?_ ?_ | refine A_ge rfl rfl rfl ?_ ?_ | refine A_eq rfl rfl rfl ?_ ?_ | refine A_ne rfl rfl rfl ?_ ?_ | refine A_beq rfl rfl rfl ?_ ?_) <;> intro hc <;> try first | contradiction | (exfalso; omega) | exact absurd rfl hc)
 | refine A_idxN1 rfl rfl rfl (by omega) ?_ | refine A_idx1 rfl rfl rfl (by omega) ?_ | refine A_idxArr1 rfl rfl rfl (by omega) ?_
 | refine A_callV rfl rfl (fun s H => c_l03Pairs (a := a) (d := u) (hE := hE) (hl := hl)) ?_
 | refine A_fld rfl rfl ?_ | refine A_mk3 rfl rfl rfl rfl ?_ | refine A_mk23 rfl rfl rfl ?_ | refine A_mk2 rfl rfl rfl ?_ | refine A_mk13 rfl rfl ?_ | refine A_p (by rfl) rfl ?_
 | refine A_ldI rfl (by first | omega | (simp; done) | (simp; omega)) rfl ?_ | refine A_ldB rfl (by first | omega | (simp; done) | (simp; omega)) rfl ?_ | refine A_ld rfl (by rfl) rfl ?_ | refine A_ldW rfl (by simp) rfl ?_
 | refine A_st rfl rfl rfl ?_ | refine A_stW rfl rfl (by simp) rfl ?_ | refine A_stE rfl rfl (by first | omega | (simp; done) | (simp; omega)) rfl ?_
 | ((first | refine A_alloc rfl ?_ | refine A_box rfl rfl ?_ | refine A_boxC rfl rfl ?_ | refine A_makeN rfl rfl rfl (by omega) ?_ | refine A_make rfl rfl rfl (by omega) ?_ | refine A_bld1 rfl rfl ?_ | refine A_bld2 rfl rfl rfl ?_ | refine A_bld4 rfl rfl rfl rfl rfl ?_) <;> intro pz hpz)
 | refine A_bld0 rfl ?_ | (refine A_app rfl rfl rfl (by first | omega | (simp; done) | (simp; omega)) (by first | omega | (simp; done) | (simp; omega)) (by omega) ?_; intro pz) | (refine A_appN (enc := ic) rfl (by decide) rfl rfl (by first | omega | (simp; done) | (simp; omega)) (by omega) ?_; intro pz)
 | refine A_chk1 rfl rfl rfl ?_ | refine A_chk2 rfl rfl rfl rfl ?_ | refine A_chk3 rfl rfl rfl rfl rfl ?_ | refine A_chk4 rfl rfl rfl rfl rfl rfl ?_ | refine A_chkI rfl (by assumption) rfl (by simp) ?_
 | refine A_ret1 rfl (by first | exact (RP.t rfl RP.nil) | exact (RP.c rfl inferInstance rfl (by simp) RP.nil)) ?_ | refine A_ret rfl (by first | exact (RP.t rfl (RP.t rfl RP.nil)) | exact (RP.c rfl inferInstance rfl (by simp) (RP.t rfl RP.nil)) | exact (RP.t rfl (RP.t rfl (RP.t rfl RP.nil))) | exact (RP.c rfl inferInstance rfl (by simp) (RP.t rfl (RP.t rfl RP.nil))) | exact (RP.c rfl inferInstance rfl (by simp) (RP.t rfl (RP.t rfl (RP.t rfl (RP.t rfl RP.nil)))))) ?_ | refine A_ret0 rfl ?_)
      refine A_round rfl [ps, p] (S - (u + 1)) (by omega) ?_
      exact ⟨u + 1, p, n, cs, bs, rfl, rfl, rfl, by omega, hcl, hbl, hw2.congr (fun _ => Iff.rfl) (fun _ => Iff.rfl) hgm, hin, hsd, hn, hno' fun h => absurd rfl h⟩
    by_cases heq : xs.getD (a * S + u) 0 = xs.getD (a * S + v) 0
    case neg =>
      have hne : xs.getD (P / E * S + u) 0 ≠ xs.getD (P % E * S + v) 0 := by rw [hdv, hmd]; exact heq
      repeat' (first
 | refine A_go rfl ?_ | refine A_ifT rfl rfl ?_ | refine A_ifF rfl rfl ?_ | refine A_offP rfl rfl ?_ | refine A_offH rfl rfl ?_ | refine A_off0 rfl rfl ?_
 | refine A_add rfl rfl rfl (by omega) ?_ | refine A_sub rfl rfl rfl (by omega) ?_ | refine A_mul rfl rfl rfl (by omega) ?_ | refine A_rem rfl rfl rfl (by omega) ?_ | refine A_remT rfl rfl rfl (by omega) ?_ | refine A_quo rfl rfl rfl (by omega) ?_
 | ((first | refine A_lt rfl rfl rfl ?_ ?_ | refine A_le rfl rfl rfl ?_ ?_ | refine A_gt rfl rfl rfl ?_ ?_ | refine A_ge rfl rfl rfl ?_ ?_ | refine A_eq rfl rfl rfl ?_ ?_ | refine A_ne rfl rfl rfl ?_ ?_ | refine A_beq rfl rfl rfl ?_ ?_) <;> intro hc <;> try first | contradiction | (exfalso; omega) | exact absurd rfl hc)
 | refine A_idxN1 rfl rfl rfl (by omega) ?_ | refine A_idx1 rfl rfl rfl (by omega) ?_ | refine A_idxArr1 rfl rfl rfl (by omega) ?_
 | refine A_callV rfl rfl (fun s H => c_l03Pairs (a := a) (d := u) (hE := hE) (hl := hl)) ?_
 | refine A_callV rfl rfl (fun s H => c_l03Pairs (a := a) (d := v) (hE := hE) (hl := hl)) ?_
 | refine A_fld rfl rfl ?_ | refine A_mk3 rfl rfl rfl rfl ?_ | refine A_mk23 rfl rfl rfl ?_ | refine A_mk2 rfl rfl rfl ?_ | refine A_mk13 rfl rfl ?_ | refine A_p (by rfl) rfl ?_
 | refine A_ldI rfl (by first | omega | (simp; done) | (simp; omega)) rfl ?_ | refine A_ldB rfl (by first | omega | (simp; done) | (simp; omega)) rfl ?_ | refine A_ld rfl (by rfl) rfl ?_ | refine A_ldW rfl (by simp) rfl ?_
 | refine A_st rfl rfl rfl ?_ | refine A_stW rfl rfl (by simp) rfl ?_ | refine A_stE rfl rfl (by first | omega | (simp; done) | (simp; omega)) rfl ?_
 | ((first | refine A_alloc rfl ?_ | refine A_box rfl rfl ?_ | refine A_boxC rfl rfl ?_ | refine A_makeN rfl rfl rfl (by omega) ?_ | refine A_make rfl rfl rfl (by omega) ?_ | refine A_bld1 rfl rfl ?_ | refine A_bld2 rfl rfl rfl ?_ | refine A_bld4 rfl rfl rfl rfl rfl ?_) <;> intro pz hpz)
 | refine A_bld0 rfl ?_ | (refine A_app rfl rfl rfl (by first | omega | (simp; done) | (simp; omega)) (by first | omega | (simp; done) | (simp; omega)) (by omega) ?_; intro pz) | (refine A_appN (enc := ic) rfl (by decide) rfl rfl (by first | omega | (simp; done) | (simp; omega)) (by omega) ?_; intro pz)
 | refine A_chk1 rfl rfl rfl ?_ | refine A_chk2 rfl rfl rfl rfl ?_ | refine A_chk3 rfl rfl rfl rfl rfl ?_ | refine A_chk4 rfl rfl rfl rfl rfl rfl ?_ | refine A_chkI rfl (by assumption) rfl (by simp) ?_
 | refine A_ret1 rfl (by first | exact (RP.t rfl RP.nil) | exact (RP.c rfl inferInstance rfl (by simp) RP.nil)) ?_ | refine A_ret rfl (by first | exact (RP.t rfl (RP.t rfl RP.nil)) | exact (RP.c rfl inferInstance rfl (by simp) (RP.t rfl RP.nil)) | exact (RP.t rfl (RP.t rfl (RP.t rfl RP.nil))) | exact (RP.c rfl inferInstance rfl (by simp) (RP.t rfl (RP.t rfl RP.nil))) | exact (RP.c rfl inferInstance rfl (by simp) (RP.t rfl (RP.t rfl (RP.t rfl (RP.t rfl RP.nil)))))) ?_ | refine A_ret0 rfl ?_)
      refine A_round rfl [ps, p] (S - (v + 1)) (by omega) ?_
      exact ⟨v + 1, p, n, cs, bs, rfl, rfl, rfl, by omega, hcl, hbl, hw2.congr (fun _ => Iff.rfl) (fun _ => Iff.rfl) (fun r => by rw [Gm.skip hv' hne]), hin, hsd, hn, hno' fun _ h => absurd h heq⟩
    have heqP : xs.getD (P / E * S + u) 0 = xs.getD (P % E * S + v) 0 := by rw [hdv, hmd]; exact heq
    obtain ⟨c1, hc1⟩ : ∃ c, (a * S + u) % E = c := ⟨_, rfl⟩
    obtain ⟨c2, hc2⟩ : ∃ c, (a * S + v) % E = c := ⟨_, rfl⟩
    have l1 : c1 < E := by rw [← hc1]; exact mod_in hEb.1
    have l2 : c2 < E := by rw [← hc2]; exact mod_in hEb.1
    by_cases h12 : c1 = c2
    · subst h12
      repeat' (first
 | refine A_go rfl ?_ | refine A_ifT rfl rfl ?_ | refine A_ifF rfl rfl ?_ | refine A_offP rfl rfl ?_ | refine A_offH rfl rfl ?_ | refine A_off0 rfl rfl ?_
 | refine A_add rfl rfl rfl (by omega) ?_ | refine A_sub rfl rfl rfl (by omega) ?_ | refine A_mul rfl rfl rfl (by omega) ?_ | refine A_rem rfl rfl rfl (by omega) ?_ | refine A_remT rfl rfl rfl (by omega) ?_ | refine A_quo rfl rfl rfl (by omega) ?_
 | ((first | refine A_lt rfl rfl rfl ?_ ?_ | refine A_le rfl rfl rfl ?_ ?_ | refine A_gt rfl rfl rfl ?_ ?_ | refine A_ge rfl rfl rfl ?_ ?_ | refine A_eq rfl rfl rfl ?_ ?_ | refine A_ne rfl rfl rfl ?_ ?_ | refine A_beq rfl rfl rfl ?_ ?_) <;> intro hc <;> try first | contradiction | (exfalso; omega) | exact absurd rfl hc)
 | refine A_idxN1 rfl rfl rfl (by omega) ?_ | refine A_idx1 rfl rfl rfl (by omega) ?_ | refine A_idxArr1 rfl rfl rfl (by omega) ?_
 | simp only [hc1, hc2]
 | refine A_callV rfl rfl (fun s H => c_l03Pairs (a := a) (d := u) (hE := hE) (hl := hl)) ?_
 | refine A_callV rfl rfl (fun s H => c_l03Pairs (a := a) (d := v) (hE := hE) (hl := hl)) ?_
 | refine A_fld rfl rfl ?_ | refine A_mk3 rfl rfl rfl rfl ?_ | refine A_mk23 rfl rfl rfl ?_ | refine A_mk2 rfl rfl rfl ?_ | refine A_mk13 rfl rfl ?_ | refine A_p (by rfl) rfl ?_
 | refine A_ldI rfl (by first | omega | (simp; done) | (simp; omega)) rfl ?_ | refine A_ldB rfl (by first | omega | (simp; done) | (simp; omega)) rfl ?_ | refine A_ld rfl (by rfl) rfl ?_ | refine A_ldW rfl (by simp) rfl ?_
 | refine A_st rfl rfl rfl ?_ | refine A_stW rfl rfl (by simp) rfl ?_ | refine A_stE rfl rfl (by first | omega | (simp; done) | (simp; omega)) rfl ?_
 | ((first | refine A_alloc rfl ?_ | refine A_box rfl rfl ?_ | refine A_boxC rfl rfl ?_ | refine A_makeN rfl rfl rfl (by omega) ?_ | refine A_make rfl rfl rfl (by omega) ?_ | refine A_bld1 rfl rfl ?_ | refine A_bld2 rfl rfl rfl ?_ | refine A_bld4 rfl rfl rfl rfl rfl ?_) <;> intro pz hpz)
 | refine A_bld0 rfl ?_ | (refine A_app rfl rfl rfl (by first | omega | (simp; done) | (simp; omega)) (by first | omega | (simp; done) | (simp; omega)) (by omega) ?_; intro pz) | (refine A_appN (enc := ic) rfl (by decide) rfl rfl (by first | omega | (simp; done) | (simp; omega)) (by omega) ?_; intro pz)
 | refine A_chk1 rfl rfl rfl ?_ | refine A_chk2 rfl rfl rfl rfl ?_ | refine A_chk3 rfl rfl rfl rfl rfl ?_ | refine A_chk4 rfl rfl rfl rfl rfl rfl ?_ | refine A_chkI rfl (by assumption) rfl (by simp) ?_
 | refine A_ret1 rfl (by first | exact (RP.t rfl RP.nil) | exact (RP.c rfl inferInstance rfl (by simp) RP.nil)) ?_ | refine A_ret rfl (by first | exact (RP.t rfl (RP.t rfl RP.nil)) | exact (RP.c rfl inferInstance rfl (by simp) (RP.t rfl RP.nil)) | exact (RP.t rfl (RP.t rfl (RP.t rfl RP.nil))) | exact (RP.c rfl inferInstance rfl (by simp) (RP.t rfl (RP.t rfl RP.nil))) | exact (RP.c rfl inferInstance rfl (by simp) (RP.t rfl (RP.t rfl (RP.t rfl (RP.t rfl RP.nil)))))) ?_ | refine A_ret0 rfl ?_)
      exact R_f fun h => h (.inl ⟨a, u, v, ha', hu', hv', huv, heq, hc1.trans hc2.symm⟩)
    have hT := lt_mul l1 l2
    have hte : tgt S E P u v = c1 * E + c2 := by rw [tgt, hdv, hmd, hc1, hc2]
    have hTd : ¬ Dg E (c1 * E + c2) := by
      rw [Dg, am_div l2, Nat.mul_add_mod_self_right, Nat.mod_eq_of_lt l2]; exact h12
    have hG : G4 S E xs P (c1 * E + c2) := ⟨⟨u, v, hu', hv', heqP, hte.symm⟩, .inr hTd⟩
    have hGm : ∀ r, (Gm S E xs P (u * S + (v + 1)) r ∧ ¬ Dg E r) → r = c1 * E + c2 ∨ (Gm S E xs P (u * S + v) r ∧ ¬ Dg E r) := fun r h => by
      rw [← hte]; exact ((Gm.step hu' hv' heqP).1 h.1).imp id fun g => ⟨g, h.2⟩
    have eT : (c1 : Int) * E + c2 = ((c1 * E + c2 : Nat) : Int) := by rw [Int.natCast_add, Int.natCast_mul]
    have mT : 0 ≤ (c1 : Int) * E ∧ (c1 : Int) * E ≤ 6561 := by
      have e : ((c1 * E : Nat) : Int) = (c1 : Int) * E := by push_cast; rfl
      omega
    have hno2 := hno' fun _ _ => by rw [hc1, hc2]; exact h12
    cases hbT : bs.getD (c1 * E + c2) false with
    | true =>
      repeat' (first
 | refine A_go rfl ?_ | refine A_ifT rfl rfl ?_ | refine A_ifF rfl rfl ?_ | refine A_offP rfl rfl ?_ | refine A_offH rfl rfl ?_ | refine A_off0 rfl rfl ?_
 | refine A_add rfl rfl rfl (by omega) ?_ | refine A_sub rfl rfl rfl (by omega) ?_ | refine A_mul rfl rfl rfl (by omega) ?_ | refine A_rem rfl rfl rfl (by omega) ?_ | refine A_remT rfl rfl rfl (by omega) ?_ | refine A_quo rfl rfl rfl (by omega) ?_
 | ((first | refine A_lt rfl rfl rfl ?_ ?_ | refine A_le rfl rfl rfl ?_ ?_ | refine A_gt rfl rfl rfl ?_ ?_ | refine A_ge rfl rfl rfl ?_ ?_ | refine A_eq rfl rfl rfl ?_ ?_ | refine A_ne rfl rfl rfl ?_ ?_ | refine A_beq rfl rfl rfl ?_ ?_) <;> intro hc <;> try first | contradiction | (exfalso; omega) | exact absurd rfl hc)
 | refine A_idxN1 rfl rfl rfl (by omega) ?_ | refine A_idx1 rfl rfl rfl (by omega) ?_ | refine A_idxArr1 rfl rfl rfl (by omega) ?_
 | simp only [hc1, hc2, hbT]
 | refine A_callV rfl rfl (fun s H => c_l03Pairs (a := a) (d := u) (hE := hE) (hl := hl)) ?_
 | refine A_callV rfl rfl (fun s H => c_l03Pairs (a := a) (d := v) (hE := hE) (hl := hl)) ?_
 | refine A_fld rfl rfl ?_ | refine A_mk3 rfl rfl rfl rfl ?_ | refine A_mk23 rfl rfl rfl ?_ | refine A_mk2 rfl rfl rfl ?_ | refine A_mk13 rfl rfl ?_ | refine A_p (by rfl) rfl ?_
 | refine A_ldI rfl (by first | omega | (simp; done) | (simp; omega)) rfl ?_ | refine A_ldB rfl (by first | omega | (simp; done) | (simp; omega)) rfl ?_ | refine A_ld rfl (by rfl) rfl ?_ | refine A_ldW rfl (by simp) rfl ?_
 | refine A_st rfl rfl rfl ?_ | refine A_stW rfl rfl (by simp) rfl ?_ | refine A_stE rfl rfl (by first | omega | (simp; done) | (simp; omega)) rfl ?_
 | ((first | refine A_alloc rfl ?_ | refine A_box rfl rfl ?_ | refine A_boxC rfl rfl ?_ | refine A_makeN rfl rfl rfl (by omega) ?_ | refine A_make rfl rfl rfl (by omega) ?_ | refine A_bld1 rfl rfl ?_ | refine A_bld2 rfl rfl rfl ?_ | refine A_bld4 rfl rfl rfl rfl rfl ?_) <;> intro pz hpz)
 | refine A_bld0 rfl ?_ | (refine A_app rfl rfl rfl (by first | omega | (simp; done) | (simp; omega)) (by first | omega | (simp; done) | (simp; omega)) (by omega) ?_; intro pz) | (refine A_appN (enc := ic) rfl (by decide) rfl rfl (by first | omega | (simp; done) | (simp; omega)) (by omega) ?_; intro pz)
 | refine A_chk1 rfl rfl rfl ?_ | refine A_chk2 rfl rfl rfl rfl ?_ | refine A_chk3 rfl rfl rfl rfl rfl ?_ | refine A_chk4 rfl rfl rfl rfl rfl rfl ?_ | refine A_chkI rfl (by assumption) rfl (by simp) ?_
 | refine A_ret1 rfl (by first | exact (RP.t rfl RP.nil) | exact (RP.c rfl inferInstance rfl (by simp) RP.nil)) ?_ | refine A_ret rfl (by first | exact (RP.t rfl (RP.t rfl RP.nil)) | exact (RP.c rfl inferInstance rfl (by simp) (RP.t rfl RP.nil)) | exact (RP.t rfl (RP.t rfl (RP.t rfl RP.nil))) | exact (RP.c rfl inferInstance rfl (by simp) (RP.t rfl (RP.t rfl RP.nil))) | exact (RP.c rfl inferInstance rfl (by simp) (RP.t rfl (RP.t rfl (RP.t rfl (RP.t rfl RP.nil)))))) ?_ | refine A_ret0 rfl ?_)
      refine A_round rfl [ps, p] (S - (v + 1)) (by omega) ?_
      exact ⟨v + 1, p, n, cs, bs, rfl, rfl, rfl, by omega, hcl, hbl, hw2.old hbT hGm, hin, hsd, hn, hno2⟩
    | false =>
      have hus := unseen_set (by omega) hbT (E * E)
      rw [if_pos (by omega)] at hus
      repeat' (first
 | refine A_go rfl ?_ | refine A_ifT rfl rfl ?_ | refine A_ifF rfl rfl ?_ | refine A_offP rfl rfl ?_ | refine A_offH rfl rfl ?_ | refine A_off0 rfl rfl ?_
 | refine A_add rfl rfl rfl (by omega) ?_ | refine A_sub rfl rfl rfl (by omega) ?_ | refine A_mul rfl rfl rfl (by omega) ?_ | refine A_rem rfl rfl rfl (by omega) ?_ | refine A_remT rfl rfl rfl (by omega) ?_ | refine A_quo rfl rfl rfl (by omega) ?_
 | ((first | refine A_lt rfl rfl rfl ?_ ?_ | refine A_le rfl rfl rfl ?_ ?_ | refine A_gt rfl rfl rfl ?_ ?_ | refine A_ge rfl rfl rfl ?_ ?_ | refine A_eq rfl rfl rfl ?_ ?_ | refine A_ne rfl rfl rfl ?_ ?_ | refine A_beq rfl rfl rfl ?_ ?_) <;> intro hc <;> try first | contradiction | (exfalso; omega) | exact absurd rfl hc)
 | refine A_idxN1 rfl rfl rfl (by omega) ?_ | refine A_idx1 rfl rfl rfl (by omega) ?_ | refine A_idxArr1 rfl rfl rfl (by omega) ?_
 | simp only [hc1, hc2, hbT, eT]
 | refine A_callV rfl rfl (fun s H => c_l03Pairs (a := a) (d := u) (hE := hE) (hl := hl)) ?_
 | refine A_callV rfl rfl (fun s H => c_l03Pairs (a := a) (d := v) (hE := hE) (hl := hl)) ?_
 | refine A_fld rfl rfl ?_ | refine A_mk3 rfl rfl rfl rfl ?_ | refine A_mk23 rfl rfl rfl ?_ | refine A_mk2 rfl rfl rfl ?_ | refine A_mk13 rfl rfl ?_ | refine A_p (by rfl) rfl ?_
 | refine A_ldI rfl (by first | omega | (simp; done) | (simp; omega)) rfl ?_ | refine A_ldB rfl (by first | omega | (simp; done) | (simp; omega)) rfl ?_ | refine A_ld rfl (by rfl) rfl ?_ | refine A_ldW rfl (by simp) rfl ?_
 | refine A_st rfl rfl rfl ?_ | refine A_stW rfl rfl (by simp) rfl ?_ | refine A_stE rfl rfl (by first | omega | (simp; done) | (simp; omega)) rfl ?_
 | ((first | refine A_alloc rfl ?_ | refine A_box rfl rfl ?_ | refine A_boxC rfl rfl ?_ | refine A_makeN rfl rfl rfl (by omega) ?_ | refine A_make rfl rfl rfl (by omega) ?_ | refine A_bld1 rfl rfl ?_ | refine A_bld2 rfl rfl rfl ?_ | refine A_bld4 rfl rfl rfl rfl rfl ?_) <;> intro pz hpz)
 | refine A_bld0 rfl ?_ | (refine A_app rfl rfl rfl (by first | omega | (simp; done) | (simp; omega)) (by first | omega | (simp; done) | (simp; omega)) (by omega) ?_; intro pz) | (refine A_appN (enc := ic) rfl (by decide) rfl rfl (by first | omega | (simp; done) | (simp; omega)) (by omega) ?_; intro pz)
 | refine A_chk1 rfl rfl rfl ?_ | refine A_chk2 rfl rfl rfl rfl ?_ | refine A_chk3 rfl rfl rfl rfl rfl ?_ | refine A_chk4 rfl rfl rfl rfl rfl rfl ?_ | refine A_chkI rfl (by assumption) rfl (by simp) ?_
 | refine A_ret1 rfl (by first | exact (RP.t rfl RP.nil) | exact (RP.c rfl inferInstance rfl (by simp) RP.nil)) ?_ | refine A_ret rfl (by first | exact (RP.t rfl (RP.t rfl RP.nil)) | exact (RP.c rfl inferInstance rfl (by simp) (RP.t rfl RP.nil)) | exact (RP.t rfl (RP.t rfl (RP.t rfl RP.nil))) | exact (RP.c rfl inferInstance rfl (by simp) (RP.t rfl (RP.t rfl RP.nil))) | exact (RP.c rfl inferInstance rfl (by simp) (RP.t rfl (RP.t rfl (RP.t rfl (RP.t rfl RP.nil)))))) ?_ | refine A_ret0 rfl ?_)
      refine A_round rfl [ps, pz] (S - (v + 1)) (by omega) ?_
      refine ⟨v + 1, pz, n + 1, _, _, rfl, rfl, rfl, by omega, by simp [hcl], by simp [hbl], ?_, ?_, ?_, by omega, hno2⟩
      · refine hw2.new hG (fun r => sn_set (by omega)) (fun r => ?_) hGm
        rw [List.drop_zero, List.drop_zero, List.mem_append, List.mem_singleton]
        exact ⟨fun h => h.elim .inr (fun g => .inl (by omega)), fun h => h.elim (fun g => .inr (by omega)) .inl⟩
      · intro z hz
        rcases List.mem_append.1 hz with g | g
        · exact hin z g
        · exact ⟨_, List.mem_singleton.1 g, hT, hTd⟩
      · intro r hr
        rcases (sn_set (by omega)).1 hr with rfl | g
        · exact hTd
        · exact hsd r g
  obtain rfl : S = u := by omega
  have hno1 : ∀ x y, x < S → y < S → x ≠ y → xs.getD (a * S + x) 0 = xs.getD (a * S + y) 0 → (a * S + x) % E ≠ (a * S + y) % E := fun x y hx hy => hno x y hx hy (lt_mul hx hy)
  have hw3 := hw2.next (ds' := fun _ => False) fun r h => ⟨Gm.all.2 h.1, h.2.resolve_left fun g => g hPd⟩
  repeat' (first
 | refine A_go rfl ?_ | refine A_ifT rfl rfl ?_ | refine A_ifF rfl rfl ?_ | refine A_offP rfl rfl ?_ | refine A_offH rfl rfl ?_ | refine A_off0 rfl rfl ?_
 | refine A_add rfl rfl rfl (by omega) ?_ | refine A_sub rfl rfl rfl (by omega) ?_ | refine A_mul rfl rfl rfl (by omega) ?_ | refine A_rem rfl rfl rfl (by omega) ?_ | refine A_remT rfl rfl rfl (by omega) ?_ | refine A_quo rfl rfl rfl (by omega) ?_
 | ((first | refine A_lt rfl rfl rfl ?_ ?_ | refine A_le rfl rfl rfl ?_ ?_ | refine A_gt rfl rfl rfl ?_ ?_ | refine A_ge rfl rfl rfl ?_ ?_ | refine A_eq rfl rfl rfl ?_ ?_ | refine A_ne rfl rfl rfl ?_ ?_ | refine A_beq rfl rfl rfl ?_ ?_) <;> intro hc <;> try first | contradiction | (exfalso; omega) | exact absurd rfl hc)
 | refine A_idxN1 rfl rfl rfl (by omega) ?_ | refine A_idx1 rfl rfl rfl (by omega) ?_ | refine A_idxArr1 rfl rfl rfl (by omega) ?_
 | refine A_fld rfl rfl ?_ | refine A_mk3 rfl rfl rfl rfl ?_ | refine A_mk23 rfl rfl rfl ?_ | refine A_mk2 rfl rfl rfl ?_ | refine A_mk13 rfl rfl ?_ | refine A_p (by rfl) rfl ?_
 | refine A_ldI rfl (by first | omega | (simp; done) | (simp; omega)) rfl ?_ | refine A_ldB rfl (by first | omega | (simp; done) | (simp; omega)) rfl ?_ | refine A_ld rfl (by rfl) rfl ?_ | refine A_ldW rfl (by simp) rfl ?_
 | refine A_st rfl rfl rfl ?_ | refine A_stW rfl rfl (by simp) rfl ?_ | refine A_stE rfl rfl (by first | omega | (simp; done) | (simp; omega)) rfl ?_
 | ((first | refine A_alloc rfl ?_ | refine A_box rfl rfl ?_ | refine A_boxC rfl rfl ?_ | refine A_makeN rfl rfl rfl (by omega) ?_ | refine A_make rfl rfl rfl (by omega) ?_ | refine A_bld1 rfl rfl ?_ | refine A_bld2 rfl rfl rfl ?_ | refine A_bld4 rfl rfl rfl rfl rfl ?_) <;> intro pz hpz)
 | refine A_bld0 rfl ?_ | (refine A_app rfl rfl rfl (by first | omega | (simp; done) | (simp; omega)) (by first | omega | (simp; done) | (simp; omega)) (by omega) ?_; intro pz) | (refine A_appN (enc := ic) rfl (by decide) rfl rfl (by first | omega | (simp; done) | (simp; omega)) (by omega) ?_; intro pz)
 | refine A_chk1 rfl rfl rfl ?_ | refine A_chk2 rfl rfl rfl rfl ?_ | refine A_chk3 rfl rfl rfl rfl rfl ?_ | refine A_chk4 rfl rfl rfl rfl rfl rfl ?_ | refine A_chkI rfl (by assumption) rfl (by simp) ?_
 | refine A_ret1 rfl (by first | exact (RP.t rfl RP.nil) | exact (RP.c rfl inferInstance rfl (by simp) RP.nil)) ?_ | refine A_ret rfl (by first | exact (RP.t rfl (RP.t rfl RP.nil)) | exact (RP.c rfl inferInstance rfl (by simp) (RP.t rfl RP.nil)) | exact (RP.t rfl (RP.t rfl (RP.t rfl RP.nil))) | exact (RP.c rfl inferInstance rfl (by simp) (RP.t rfl (RP.t rfl RP.nil))) | exact (RP.c rfl inferInstance rfl (by simp) (RP.t rfl (RP.t rfl (RP.t rfl (RP.t rfl RP.nil)))))) ?_ | refine A_ret0 rfl ?_)
  refine A_loop rfl [ps, p] (fun m fr L => ∃ (i p n : Nat) (cs : List Int) (bs : List Bool), fr = [(0, .c (.ptr q 0)), (3, iv E), (4, iv a), (5, .c (.sl ps 0 (E * E))), (6, .c (.sl p 0 n)), (13, iv i)] ∧ L = [(ps, .rw 4 1 (bs.map bc)), (p, ints cs)] ∧ (cs.length = n ∧ i ≤ n) ∧ bs.length = E * E ∧ Wk (G4 S E xs) (fun y => y = P) (Sn bs) (fun y : Nat => (y : Int) ∈ cs.drop i) none (fun _ => False) ∧ (∀ x ∈ cs, ∃ z : Nat, x = z ∧ z < E * E ∧ ¬ Dg E z) ∧ (∀ r, Sn bs r → ¬ Dg E r) ∧ n + unseen bs (E * E) ≤ E * E ∧ 2 * unseen bs (E * E) + (n - i) ≤ m) (2 * (E * E)) ⟨0, p, n, cs, bs, rfl, rfl, ⟨hcl, by omega⟩, hbl, hw3, hin, hsd, hn, by omega⟩ ?_
  clear hno hw3 hw2 hin hsd hn hcl hbl
  rintro m fr L ⟨i, p, n, cs, bs, rfl, rfl, ⟨hcl, hi⟩, hbl, hw2, hin, hsd, hn, hm⟩
  by_cases hi' : i < n
  case neg =>
    obtain rfl : n = i := by omega
    have hend : ∀ r, Plus (G4 S E xs) P r → ¬ Dg E r := fun r h =>
      hsd r ((hw2.end (fun y hy => by rw [List.drop_of_length_le (by omega)] at hy; cases hy) r).2 ⟨P, rfl, h⟩)
    repeat' (first
 | refine A_go rfl ?_ | refine A_ifT rfl rfl ?_ | refine A_ifF rfl rfl ?_ | refine A_offP rfl rfl ?_ | refine A_offH rfl rfl ?_ | refine A_off0 rfl rfl ?_
 | refine A_add rfl rfl rfl (by omega) ?_ | refine A_sub rfl rfl rfl (by omega) ?_ | refine A_mul rfl rfl rfl (by omega) ?_ | refine A_rem rfl rfl rfl (by omega) ?_ | refine A_remT rfl rfl rfl (by omega) ?_ | refine A_quo rfl rfl rfl (by omega) ?_
 | ((first | refine A_lt rfl rfl rfl ?_ ?_ | refine A_le rfl rfl rfl ?_ ?_ | refine A_gt rfl rfl rfl ?_ ?_ | refine A_ge rfl rfl rfl ?_ ?_ | refine A_eq rfl rfl rfl ?_ ?_ | refine A_ne rfl rfl rfl ?_ ?_ | refine A_beq rfl rfl rfl ?_ ?_) <;> intro hc <;> try first | contradiction | (exfalso; omega) | exact absurd rfl hc)
 | refine A_idxN1 rfl rfl rfl (by omega) ?_ | refine A_idx1 rfl rfl rfl (by omega) ?_ | refine A_idxArr1 rfl rfl rfl (by omega) ?_
 | refine A_fld rfl rfl ?_ | refine A_mk3 rfl rfl rfl rfl ?_ | refine A_mk23 rfl rfl rfl ?_ | refine A_mk2 rfl rfl rfl ?_ | refine A_mk13 rfl rfl ?_ | refine A_p (by rfl) rfl ?_
 | refine A_ldI rfl (by first | omega | (simp; done) | (simp; omega)) rfl ?_ | refine A_ldB rfl (by first | omega | (simp; done) | (simp; omega)) rfl ?_ | refine A_ld rfl (by rfl) rfl ?_ | refine A_ldW rfl (by simp) rfl ?_
 | refine A_st rfl rfl rfl ?_ | refine A_stW rfl rfl (by simp) rfl ?_ | refine A_stE rfl rfl (by first | omega | (simp; done) | (simp; omega)) rfl ?_
 | ((first | refine A_alloc rfl ?_ | refine A_box rfl rfl ?_ | refine A_boxC rfl rfl ?_ | refine A_makeN rfl rfl rfl (by omega) ?_ | refine A_make rfl rfl rfl (by omega) ?_ | refine A_bld1 rfl rfl ?_ | refine A_bld2 rfl rfl rfl ?_ | refine A_bld4 rfl rfl rfl rfl rfl ?_) <;> intro pz hpz)
 | refine A_bld0 rfl ?_ | (refine A_app rfl rfl rfl (by first | omega | (simp; done) | (simp; omega)) (by first | omega | (simp; done) | (simp; omega)) (by omega) ?_; intro pz) | (refine A_appN (enc := ic) rfl (by decide) rfl rfl (by first | omega | (simp; done) | (simp; omega)) (by omega) ?_; intro pz)
 | refine A_chk1 rfl rfl rfl ?_ | refine A_chk2 rfl rfl rfl rfl ?_ | refine A_chk3 rfl rfl rfl rfl rfl ?_ | refine A_chk4 rfl rfl rfl rfl rfl rfl ?_ | refine A_chkI rfl (by assumption) rfl (by simp) ?_
 | refine A_ret1 rfl (by first | exact (RP.t rfl RP.nil) | exact (RP.c rfl inferInstance rfl (by simp) RP.nil)) ?_ | refine A_ret rfl (by first | exact (RP.t rfl (RP.t rfl RP.nil)) | exact (RP.c rfl inferInstance rfl (by simp) (RP.t rfl RP.nil)) | exact (RP.t rfl (RP.t rfl (RP.t rfl RP.nil))) | exact (RP.c rfl inferInstance rfl (by simp) (RP.t rfl (RP.t rfl RP.nil))) | exact (RP.c rfl inferInstance rfl (by simp) (RP.t rfl (RP.t rfl (RP.t rfl (RP.t rfl RP.nil)))))) ?_ | refine A_ret0 rfl ?_)
    refine A_round rfl [] (E - (a + 1)) (by omega) ?_
    refine ⟨a + 1, rfl, rfl, rfl, by omega, fun a' x y h => ?_, fun a' r h => ?_⟩
    · by_cases e : a' = a
      · subst e; exact hno1 x y
      · exact hA1 a' x y (by omega)
    · by_cases e : a' = a
      · subst e; rw [hP]; exact hend r
      · exact hA2 a' r (by omega)
  obtain ⟨X, hX, hXl, hXd⟩ := hin _ (getD_mem (d := 0) (by omega : i < cs.length))
  obtain ⟨hax, hbx, _⟩ := div_mod_lt hXl
  have dr : cs.drop i = (X : Int) :: cs.drop (i + 1) := by
    rw [List.drop_eq_getElem_cons (by omega), ← hX, List.getD_eq_getElem?_getD, List.getElem?_eq_getElem (by omega)]; rfl
  have hXP : Plus (G4 S E xs) P X := by
    rcases hw2.todo X (by show (X : Int) ∈ cs.drop i; rw [dr]; exact List.mem_cons_self) with h | h
    · subst h; exact absurd hPd hXd
    · obtain ⟨z, rfl, h⟩ := hw2.sound X h
      exact h
  have hw3 := hw2.take (x := X) (td' := fun y : Nat => (y : Int) ∈ cs.drop (i + 1)) (by show (X : Int) ∈ cs.drop i; rw [dr]; exact List.mem_cons_self) (fun y hy => by show (y : Int) ∈ cs.drop i; rw [dr]; exact List.mem_cons_of_mem _ hy) (fun y hy => by rw [dr] at hy; exact (List.mem_cons.1 hy).imp (fun g => by omega) id)
  have qE : (X : Int) / E = ((X / E : Nat) : Int) := by push_cast; rfl
  have rE : (X : Int) % E = ((X % E : Nat) : Int) := by push_cast; rfl
  repeat' (first
 | refine A_go rfl ?_ | refine A_ifT rfl rfl ?_ | refine A_ifF rfl rfl ?_ | refine A_offP rfl rfl ?_ | refine A_offH rfl rfl ?_ | refine A_off0 rfl rfl ?_
 | refine A_add rfl rfl rfl (by omega) ?_ | refine A_sub rfl rfl rfl (by omega) ?_ | refine A_mul rfl rfl rfl (by omega) ?_ | refine A_rem rfl rfl rfl (by omega) ?_ | refine A_remT rfl rfl rfl (by omega) ?_ | refine A_quo rfl rfl rfl (by omega) ?_
 | ((first | refine A_lt rfl rfl rfl ?_ ?_ | refine A_le rfl rfl rfl ?_ ?_ | refine A_gt rfl rfl rfl ?_ ?_ | refine A_ge rfl rfl rfl ?_ ?_ | refine A_eq rfl rfl rfl ?_ ?_ | refine A_ne rfl rfl rfl ?_ ?_ | refine A_beq rfl rfl rfl ?_ ?_) <;> intro hc <;> try first | contradiction | (exfalso; omega) | exact absurd rfl hc)
 | refine A_idxN1 rfl rfl rfl (by omega) ?_ | refine A_idx1 rfl rfl rfl (by omega) ?_ | refine A_idxArr1 rfl rfl rfl (by omega) ?_
 | refine A_fld rfl rfl ?_ | refine A_mk3 rfl rfl rfl rfl ?_ | refine A_mk23 rfl rfl rfl ?_ | refine A_mk2 rfl rfl rfl ?_ | refine A_mk13 rfl rfl ?_ | refine A_p (by rfl) rfl ?_
 | refine A_ldI rfl (by first | omega | (simp; done) | (simp; omega)) rfl ?_ | refine A_ldB rfl (by first | omega | (simp; done) | (simp; omega)) rfl ?_ | refine A_ld rfl (by rfl) rfl ?_ | refine A_ldW rfl (by simp) rfl ?_
 | refine A_st rfl rfl rfl ?_ | refine A_stW rfl rfl (by simp) rfl ?_ | refine A_stE rfl rfl (by first | omega | (simp; done) | (simp; omega)) rfl ?_
 | ((first | refine A_alloc rfl ?_ | refine A_box rfl rfl ?_ | refine A_boxC rfl rfl ?_ | refine A_makeN rfl rfl rfl (by omega) ?_ | refine A_make rfl rfl rfl (by omega) ?_ | refine A_bld1 rfl rfl ?_ | refine A_bld2 rfl rfl rfl ?_ | refine A_bld4 rfl rfl rfl rfl rfl ?_) <;> intro pz hpz)
 | refine A_bld0 rfl ?_ | (refine A_app rfl rfl rfl (by first | omega | (simp; done) | (simp; omega)) (by first | omega | (simp; done) | (simp; omega)) (by omega) ?_; intro pz) | (refine A_appN (enc := ic) rfl (by decide) rfl rfl (by first | omega | (simp; done) | (simp; omega)) (by omega) ?_; intro pz)
 | refine A_chk1 rfl rfl rfl ?_ | refine A_chk2 rfl rfl rfl rfl ?_ | refine A_chk3 rfl rfl rfl rfl rfl ?_ | refine A_chk4 rfl rfl rfl rfl rfl rfl ?_ | refine A_chkI rfl (by assumption) rfl (by simp) ?_
 | refine A_ret1 rfl (by first | exact (RP.t rfl RP.nil) | exact (RP.c rfl inferInstance rfl (by simp) RP.nil)) ?_ | refine A_ret rfl (by first | exact (RP.t rfl (RP.t rfl RP.nil)) | exact (RP.c rfl inferInstance rfl (by simp) (RP.t rfl RP.nil)) | exact (RP.t rfl (RP.t rfl (RP.t rfl RP.nil))) | exact (RP.c rfl inferInstance rfl (by simp) (RP.t rfl (RP.t rfl RP.nil))) | exact (RP.c rfl inferInstance rfl (by simp) (RP.t rfl (RP.t rfl (RP.t rfl (RP.t rfl RP.nil)))))) ?_ | refine A_ret0 rfl ?_)
  refine A_loop rfl [ps, p] (fun m' fr L => ∃ (u p n : Nat) (cs : List Int) (bs : List Bool), m' = S - u ∧ fr = [(0, .c (.ptr q 0)), (3, iv E), (4, iv a), (5, .c (.sl ps 0 (E * E))), (6, .c (.sl p 0 n)), (13, iv i), (14, iv u)] ∧ L = [(ps, .rw 4 1 (bs.map bc)), (p, ints cs)] ∧ u ≤ S ∧ (cs.length = n ∧ i < n ∧ cs.getD i 0 = X) ∧ bs.length = E * E ∧ Wk (G4 S E xs) (fun y => y = P) (Sn bs) (fun y : Nat => (y : Int) ∈ cs.drop (i + 1)) (some X) (Gm S E xs X (u * S)) ∧ (∀ x ∈ cs, ∃ z : Nat, x = z ∧ z < E * E ∧ ¬ Dg E z) ∧ (∀ r, Sn bs r → ¬ Dg E r) ∧ n + unseen bs (E * E) ≤ E * E ∧ 2 * unseen bs (E * E) + (n - i) ≤ m) S ⟨0, p, n, cs, bs, rfl, rfl, rfl, by omega, ⟨hcl, hi', hX⟩, hbl, hw3.congr (fun _ => Iff.rfl) (fun _ => Iff.rfl) (fun r => ⟨fun h => h.elim, fun h => by rw [Nat.zero_mul] at h; exact Gm.none h⟩), hin, hsd, hn, hm⟩ ?_
  clear dr hw3 hw2 hin hsd hn hm hcl hX hbl hi'
  rintro m' fr L ⟨u, p, n, cs, bs, rfl, rfl, rfl, hu, ⟨hcl, hi', hX⟩, hbl, hw2, hin, hsd, hn, hm⟩
  by_cases hu' : u < S
  case neg =>
    obtain rfl : S = u := by omega
    repeat' (first
 | refine A_go rfl ?_ | refine A_ifT rfl rfl ?_ | refine A_ifF rfl rfl ?_ | refine A_offP rfl rfl ?_ | refine A_offH rfl rfl ?_ | refine A_off0 rfl rfl ?_
 | refine A_add rfl rfl rfl (by omega) ?_ | refine A_sub rfl rfl rfl (by omega) ?_ | refine A_mul rfl rfl rfl (by omega) ?_ | refine A_rem rfl rfl rfl (by omega) ?_ | refine A_remT rfl rfl rfl (by omega) ?_ | refine A_quo rfl rfl rfl (by omega) ?_
 | ((first | refine A_lt rfl rfl rfl ?_ ?_ | refine A_le rfl rfl rfl ?_ ?_ | refine A_gt rfl rfl rfl ?_ ?_ | refine A_ge rfl rfl rfl ?_ ?_ | refine A_eq rfl rfl rfl ?_ ?_ | refine A_ne rfl rfl rfl ?_ ?_ | refine A_beq rfl rfl rfl ?_ ?_) <;> intro hc <;> try first | contradiction | (exfalso; omega) | exact absurd rfl hc)
 | refine A_idxN1 rfl rfl rfl (by omega) ?_ | refine A_idx1 rfl rfl rfl (by omega) ?_ | refine A_idxArr1 rfl rfl rfl (by omega) ?_
 | refine A_fld rfl rfl ?_ | refine A_mk3 rfl rfl rfl rfl ?_ | refine A_mk23 rfl rfl rfl ?_ | refine A_mk2 rfl rfl rfl ?_ | refine A_mk13 rfl rfl ?_ | refine A_p (by rfl) rfl ?_
 | refine A_ldI rfl (by first | omega | (simp; done) | (simp; omega)) rfl ?_ | refine A_ldB rfl (by first | omega | (simp; done) | (simp; omega)) rfl ?_ | refine A_ld rfl (by rfl) rfl ?_ | refine A_ldW rfl (by simp) rfl ?_
 | refine A_st rfl rfl rfl ?_ | refine A_stW rfl rfl (by simp) rfl ?_ | refine A_stE rfl rfl (by first | omega | (simp; done) | (simp; omega)) rfl ?_
 | ((first | refine A_alloc rfl ?_ | refine A_box rfl rfl ?_ | refine A_boxC rfl rfl ?_ | refine A_makeN rfl rfl rfl (by omega) ?_ | refine A_make rfl rfl rfl (by omega) ?_ | refine A_bld1 rfl rfl ?_ | refine A_bld2 rfl rfl rfl ?_ | refine A_bld4 rfl rfl rfl rfl rfl ?_) <;> intro pz hpz)
 | refine A_bld0 rfl ?_ | (refine A_app rfl rfl rfl (by first | omega | (simp; done) | (simp; omega)) (by first | omega | (simp; done) | (simp; omega)) (by omega) ?_; intro pz) | (refine A_appN (enc := ic) rfl (by decide) rfl rfl (by first | omega | (simp; done) | (simp; omega)) (by omega) ?_; intro pz)
 | refine A_chk1 rfl rfl rfl ?_ | refine A_chk2 rfl rfl rfl rfl ?_ | refine A_chk3 rfl rfl rfl rfl rfl ?_ | refine A_chk4 rfl rfl rfl rfl rfl rfl ?_ | refine A_chkI rfl (by assumption) rfl (by simp) ?_
 | refine A_ret1 rfl (by first | exact (RP.t rfl RP.nil) | exact (RP.c rfl inferInstance rfl (by simp) RP.nil)) ?_ | refine A_ret rfl (by first | exact (RP.t rfl (RP.t rfl RP.nil)) | exact (RP.c rfl inferInstance rfl (by simp) (RP.t rfl RP.nil)) | exact (RP.t rfl (RP.t rfl (RP.t rfl RP.nil))) | exact (RP.c rfl inferInstance rfl (by simp) (RP.t rfl (RP.t rfl RP.nil))) | exact (RP.c rfl inferInstance rfl (by simp) (RP.t rfl (RP.t rfl (RP.t rfl (RP.t rfl RP.nil)))))) ?_ | refine A_ret0 rfl ?_)
    refine A_round rfl [ps, p] (m - 1) (by omega) ?_
    exact ⟨i + 1, p, n, cs, bs, rfl, rfl, ⟨hcl, by omega⟩, hbl, hw2.next (fun r h => Gm.all.2 h.1), hin, hsd, hn, by omega⟩
  repeat' (first
 | refine A_go rfl ?_ | refine A_ifT rfl rfl ?_ | refine A_ifF rfl rfl ?_ | refine A_offP rfl rfl ?_ | refine A_offH rfl rfl ?_ | refine A_off0 rfl rfl ?_
 | refine A_add rfl rfl rfl (by omega) ?_ | refine A_sub rfl rfl rfl (by omega) ?_ | refine A_mul rfl rfl rfl (by omega) ?_ | refine A_rem rfl rfl rfl (by omega) ?_ | refine A_remT rfl rfl rfl (by omega) ?_ | refine A_quo rfl rfl rfl (by omega) ?_
 | ((first | refine A_lt rfl rfl rfl ?_ ?_ | refine A_le rfl rfl rfl ?_ ?_ | refine A_gt rfl rfl rfl ?_ ?_ | refine A_ge rfl rfl rfl ?_ ?_ | refine A_eq rfl rfl rfl ?_ ?_ | refine A_ne rfl rfl rfl ?_ ?_ | refine A_beq rfl rfl rfl ?_ ?_) <;> intro hc <;> try first | contradiction | (exfalso; omega) | exact absurd rfl hc)
 | refine A_idxN1 rfl rfl rfl (by omega) ?_ | refine A_idx1 rfl rfl rfl (by omega) ?_ | refine A_idxArr1 rfl rfl rfl (by omega) ?_
 | refine A_fld rfl rfl ?_ | refine A_mk3 rfl rfl rfl rfl ?_ | refine A_mk23 rfl rfl rfl ?_ | refine A_mk2 rfl rfl rfl ?_ | refine A_mk13 rfl rfl ?_ | refine A_p (by rfl) rfl ?_
 | refine A_ldI rfl (by first | omega | (simp; done) | (simp; omega)) rfl ?_ | refine A_ldB rfl (by first | omega | (simp; done) | (simp; omega)) rfl ?_ | refine A_ld rfl (by rfl) rfl ?_ | refine A_ldW rfl (by simp) rfl ?_
 | refine A_st rfl rfl rfl ?_ | refine A_stW rfl rfl (by simp) rfl ?_ | refine A_stE rfl rfl (by first | omega | (simp; done) | (simp; omega)) rfl ?_
 | ((first | refine A_alloc rfl ?_ | refine A_box rfl rfl ?_ | refine A_boxC rfl rfl ?_ | refine A_makeN rfl rfl rfl (by omega) ?_ | refine A_make rfl rfl rfl (by omega) ?_ | refine A_bld1 rfl rfl ?_ | refine A_bld2 rfl rfl rfl ?_ | refine A_bld4 rfl rfl rfl rfl rfl ?_) <;> intro pz hpz)
 | refine A_bld0 rfl ?_ | (refine A_app rfl rfl rfl (by first | omega | (simp; done) | (simp; omega)) (by first | omega | (simp; done) | (simp; omega)) (by omega) ?_; intro pz) | (refine A_appN (enc := ic) rfl (by decide) rfl rfl (by first | omega | (simp; done) | (simp; omega)) (by omega) ?_; intro pz)
 | refine A_chk1 rfl rfl rfl ?_ | refine A_chk2 rfl rfl rfl rfl ?_ | refine A_chk3 rfl rfl rfl rfl rfl ?_ | refine A_chk4 rfl rfl rfl rfl rfl rfl ?_ | refine A_chkI rfl (by assumption) rfl (by simp) ?_
 | refine A_ret1 rfl (by first | exact (RP.t rfl RP.nil) | exact (RP.c rfl inferInstance rfl (by simp) RP.nil)) ?_ | refine A_ret rfl (by first | exact (RP.t rfl (RP.t rfl RP.nil)) | exact (RP.c rfl inferInstance rfl (by simp) (RP.t rfl RP.nil)) | exact (RP.t rfl (RP.t rfl (RP.t rfl RP.nil))) | exact (RP.c rfl inferInstance rfl (by simp) (RP.t rfl (RP.t rfl RP.nil))) | exact (RP.c rfl inferInstance rfl (by simp) (RP.t rfl (RP.t rfl (RP.t rfl (RP.t rfl RP.nil)))))) ?_ | refine A_ret0 rfl ?_)
  refine A_loop rfl [ps, p] (fun m' fr L => ∃ (v p n : Nat) (cs : List Int) (bs : List Bool), m' = S - v ∧ fr = [(0, .c (.ptr q 0)), (3, iv E), (4, iv a), (5, .c (.sl ps 0 (E * E))), (6, .c (.sl p 0 n)), (13, iv i), (14, iv u), (15, iv v)] ∧ L = [(ps, .rw 4 1 (bs.map bc)), (p, ints cs)] ∧ v ≤ S ∧ (cs.length = n ∧ i < n ∧ cs.getD i 0 = X) ∧ bs.length = E * E ∧ Wk (G4 S E xs) (fun y => y = P) (Sn bs) (fun y : Nat => (y : Int) ∈ cs.drop (i + 1)) (some X) (Gm S E xs X (u * S + v)) ∧ (∀ x ∈ cs, ∃ z : Nat, x = z ∧ z < E * E ∧ ¬ Dg E z) ∧ (∀ r, Sn bs r → ¬ Dg E r) ∧ n + unseen bs (E * E) ≤ E * E ∧ 2 * unseen bs (E * E) + (n - i) ≤ m) S ⟨0, p, n, cs, bs, rfl, rfl, rfl, by omega, ⟨hcl, hi', hX⟩, hbl, hw2, hin, hsd, hn, hm⟩ ?_
  clear hw2 hin hsd hn hm hcl hX hbl hi'
  rintro m' fr L ⟨v, p, n, cs, bs, rfl, rfl, rfl, hv, ⟨hcl, hi', hX⟩, hbl, hw2, hin, hsd, hn, hm⟩
  by_cases hv' : v < S
  case neg =>
    obtain rfl : S = v := by omega
    repeat' (first
 | refine A_go rfl ?_ | refine A_ifT rfl rfl ?_ | refine A_ifF rfl rfl ?_ | refine A_offP rfl rfl ?_ | refine A_offH rfl rfl ?_ | refine A_off0 rfl rfl ?_
 | refine A_add rfl rfl rfl (by omega) ?_ | refine A_sub rfl rfl rfl (by omega) ?_ | refine A_mul rfl rfl rfl (by omega) ?_ | refine A_rem rfl rfl rfl (by omega) ?_ | refine A_remT rfl rfl rfl (by omega) ?_ | refine A_quo rfl rfl rfl (by omega) ?_
 | ((first | refine A_lt rfl rfl rfl ?_ ?_ | refine A_le rfl rfl rfl ?_ ?_ | refine A_gt rfl rfl rfl ?_ ?_ | refine A_ge rfl rfl rfl ?_ ?_ | refine A_eq rfl rfl rfl ?_ ?_ | refine A_ne rfl rfl rfl ?_ ?_ | refine A_beq rfl rfl rfl ?_ ?_) <;> intro hc <;> try first | contradiction | (exfalso; omega) | exact absurd rfl hc)
 | refine A_idxN1 rfl rfl rfl (by omega) ?_ | refine A_idx1 rfl rfl rfl (by omega) ?_ | refine A_idxArr1 rfl rfl rfl (by omega) ?_
 | refine A_fld rfl rfl ?_ | refine A_mk3 rfl rfl rfl rfl ?_ | refine A_mk23 rfl rfl rfl ?_ | refine A_mk2 rfl rfl rfl ?_ | refine A_mk13 rfl rfl ?_ | refine A_p (by rfl) rfl ?_
 | refine A_ldI rfl (by first | omega | (simp; done) | (simp; omega)) rfl ?_ | refine A_ldB rfl (by first | omega | (simp; done) | (simp; omega)) rfl ?_ | refine A_ld rfl (by rfl) rfl ?_ | refine A_ldW rfl (by simp) rfl ?_
 | refine A_st rfl rfl rfl ?_ | refine A_stW rfl rfl (by simp) rfl ?_ | refine A_stE rfl rfl (by first | omega | (simp; done) | (simp; omega)) rfl ?_
 | ((first | refine A_alloc rfl ?_ | refine A_box rfl rfl ?_ | refine A_boxC rfl rfl ?_ | refine A_makeN rfl rfl rfl (by omega) ?_ | refine A_make rfl rfl rfl (by omega) ?_ | refine A_bld1 rfl rfl ?_ | refine A_bld2 rfl rfl rfl ?_ | refine A_bld4 rfl rfl rfl rfl rfl ?_) <;> intro pz hpz)
 | refine A_bld0 rfl ?_ | (refine A_app rfl rfl rfl (by first | omega | (simp; done) | (simp; omega)) (by first | omega | (simp; done) | (simp; omega)) (by omega) ?_; intro pz) | (refine A_appN (enc := ic) rfl (by decide) rfl rfl (by first | omega | (simp; done) | (simp; omega)) (by omega) ?_; intro pz)
 | refine A_chk1 rfl rfl rfl ?_ | refine A_chk2 rfl rfl rfl rfl ?_ | refine A_chk3 rfl rfl rfl rfl rfl ?_ | refine A_chk4 rfl rfl rfl rfl rfl rfl ?_ | refine A_chkI rfl (by assumption) rfl (by simp) ?_
 | refine A_ret1 rfl (by first | exact (RP.t rfl RP.nil) | exact (RP.c rfl inferInstance rfl (by simp) RP.nil)) ?_ | refine A_ret rfl (by first | exact (RP.t rfl (RP.t rfl RP.nil)) | exact (RP.c rfl inferInstance rfl (by simp) (RP.t rfl RP.nil)) | exact (RP.t rfl (RP.t rfl (RP.t rfl RP.nil))) | exact (RP.c rfl inferInstance rfl (by simp) (RP.t rfl (RP.t rfl RP.nil))) | exact (RP.c rfl inferInstance rfl (by simp) (RP.t rfl (RP.t rfl (RP.t rfl (RP.t rfl RP.nil)))))) ?_ | refine A_ret0 rfl ?_)
    refine A_round rfl [ps, p] (S - (u + 1)) (by omega) ?_
    exact ⟨u + 1, p, n, cs, bs, rfl, rfl, rfl, by omega, ⟨hcl, hi', hX⟩, hbl, by rw [Nat.add_mul, Nat.one_mul]; exact hw2, hin, hsd, hn, hm⟩
  by_cases heq : xs.getD (X / E * S + u) 0 = xs.getD (X % E * S + v) 0
  case neg =>
    repeat' (first
 | refine A_go rfl ?_ | refine A_ifT rfl rfl ?_ | refine A_ifF rfl rfl ?_ | refine A_offP rfl rfl ?_ | refine A_offH rfl rfl ?_ | refine A_off0 rfl rfl ?_
 | refine A_add rfl rfl rfl (by omega) ?_ | refine A_sub rfl rfl rfl (by omega) ?_ | refine A_mul rfl rfl rfl (by omega) ?_ | refine A_rem rfl rfl rfl (by omega) ?_ | refine A_remT rfl rfl rfl (by omega) ?_ | refine A_quo rfl rfl rfl (by omega) ?_
 | ((first | refine A_lt rfl rfl rfl ?_ ?_ | refine A_le rfl rfl rfl ?_ ?_ | refine A_gt rfl rfl rfl ?_ ?_ | refine A_ge rfl rfl rfl ?_ ?_ | refine A_eq rfl rfl rfl ?_ ?_ | refine A_ne rfl rfl rfl ?_ ?_ | refine A_beq rfl rfl rfl ?_ ?_) <;> intro hc <;> try first | contradiction | (exfalso; omega) | exact absurd rfl hc)
 | refine A_idxN1 rfl rfl rfl (by omega) ?_ | refine A_idx1 rfl rfl rfl (by omega) ?_ | refine A_idxArr1 rfl rfl rfl (by omega) ?_
 | simp only [hX, qE, rE]
 | refine A_callV rfl rfl (fun s H => c_l03Pairs (d := u) (hE := hE) (hl := hl)) ?_
 | refine A_callV rfl rfl (fun s H => c_l03Pairs (d := v) (hE := hE) (hl := hl)) ?_
 | refine A_fld rfl rfl ?_ | refine A_mk3 rfl rfl rfl rfl ?_ | refine A_mk23 rfl rfl rfl ?_ | refine A_mk2 rfl rfl rfl ?_ | refine A_mk13 rfl rfl ?_ | refine A_p (by rfl) rfl ?_
 | refine A_ldI rfl (by first | omega | (simp; done) | (simp; omega)) rfl ?_ | refine A_ldB rfl (by first | omega | (simp; done) | (simp; omega)) rfl ?_ | refine A_ld rfl (by rfl) rfl ?_ | refine A_ldW rfl (by simp) rfl ?_
 | refine A_st rfl rfl rfl ?_ | refine A_stW rfl rfl (by simp) rfl ?_ | refine A_stE rfl rfl (by first | omega | (simp; done) | (simp; omega)) rfl ?_
 | ((first | refine A_alloc rfl ?_ | refine A_box rfl rfl ?_ | refine A_boxC rfl rfl ?_ | refine A_makeN rfl rfl rfl (by omega) ?_ | refine A_make rfl rfl rfl (by omega) ?_ | refine A_bld1 rfl rfl ?_ | refine A_bld2 rfl rfl rfl ?_ | refine A_bld4 rfl rfl rfl rfl rfl ?_) <;> intro pz hpz)
 | refine A_bld0 rfl ?_ | (refine A_app rfl rfl rfl (by first | omega | (simp; done) | (simp; omega)) (by first | omega | (simp; done) | (simp; omega)) (by omega) ?_; intro pz) | (refine A_appN (enc := ic) rfl (by decide) rfl rfl (by first | omega | (simp; done) | (simp; omega)) (by omega) ?_; intro pz)
 | refine A_chk1 rfl rfl rfl ?_ | refine A_chk2 rfl rfl rfl rfl ?_ | refine A_chk3 rfl rfl rfl rfl rfl ?_ | refine A_chk4 rfl rfl rfl rfl rfl rfl ?_ | refine A_chkI rfl (by assumption) rfl (by simp) ?_
 | refine A_ret1 rfl (by first | exact (RP.t rfl RP.nil) | exact (RP.c rfl inferInstance rfl (by simp) RP.nil)) ?_ | refine A_ret rfl (by first | exact (RP.t rfl (RP.t rfl RP.nil)) | exact (RP.c rfl inferInstance rfl (by simp) (RP.t rfl RP.nil)) | exact (RP.t rfl (RP.t rfl (RP.t rfl RP.nil))) | exact (RP.c rfl inferInstance rfl (by simp) (RP.t rfl (RP.t rfl RP.nil))) | exact (RP.c rfl inferInstance rfl (by simp) (RP.t rfl (RP.t rfl (RP.t rfl (RP.t rfl RP.nil)))))) ?_ | refine A_ret0 rfl ?_)
    refine A_round rfl [ps, p] (S - (v + 1)) (by omega) ?_
    exact ⟨v + 1, p, n, cs, bs, rfl, rfl, rfl, by omega, ⟨hcl, hi', hX⟩, hbl, hw2.congr (fun _ => Iff.rfl) (fun _ => Iff.rfl) (fun r => (Gm.skip hv' heq).symm), hin, hsd, hn, hm⟩
  obtain ⟨c1, hc1⟩ : ∃ c, (X / E * S + u) % E = c := ⟨_, rfl⟩
  obtain ⟨c2, hc2⟩ : ∃ c, (X % E * S + v) % E = c := ⟨_, rfl⟩
  have l1 : c1 < E := by rw [← hc1]; exact mod_in hEb.1
  have l2 : c2 < E := by rw [← hc2]; exact mod_in hEb.1
  have hT := lt_mul l1 l2
  have hte : tgt S E X u v = c1 * E + c2 := by rw [tgt, hc1, hc2]
  have hG : G4 S E xs X (c1 * E + c2) := ⟨⟨u, v, hu', hv', heq, hte.symm⟩, .inl hXd⟩
  by_cases h12 : c1 = c2
  · subst h12
    repeat' (first
 | refine A_go rfl ?_ | refine A_ifT rfl rfl ?_ | refine A_ifF rfl rfl ?_ | refine A_offP rfl rfl ?_ | refine A_offH rfl rfl ?_ | refine A_off0 rfl rfl ?_
 | refine A_add rfl rfl rfl (by omega) ?_ | refine A_sub rfl rfl rfl (by omega) ?_ | refine A_mul rfl rfl rfl (by omega) ?_ | refine A_rem rfl rfl rfl (by omega) ?_ | refine A_remT rfl rfl rfl (by omega) ?_ | refine A_quo rfl rfl rfl (by omega) ?_
 | ((first | refine A_lt rfl rfl rfl ?_ ?_ | refine A_le rfl rfl rfl ?_ ?_ | refine A_gt rfl rfl rfl ?_ ?_ | refine A_ge rfl rfl rfl ?_ ?_ | refine A_eq rfl rfl rfl ?_ ?_ | refine A_ne rfl rfl rfl ?_ ?_ | refine A_beq rfl rfl rfl ?_ ?_) <;> intro hc <;> try first | contradiction | (exfalso; omega) | exact absurd rfl hc)
 | refine A_idxN1 rfl rfl rfl (by omega) ?_ | refine A_idx1 rfl rfl rfl (by omega) ?_ | refine A_idxArr1 rfl rfl rfl (by omega) ?_
 | simp only [hX, qE, rE, hc1, hc2]
 | refine A_callV rfl rfl (fun s H => c_l03Pairs (d := u) (hE := hE) (hl := hl)) ?_
 | refine A_callV rfl rfl (fun s H => c_l03Pairs (d := v) (hE := hE) (hl := hl)) ?_
 | refine A_fld rfl rfl ?_ | refine A_mk3 rfl rfl rfl rfl ?_ | refine A_mk23 rfl rfl rfl ?_ | refine A_mk2 rfl rfl rfl ?_ | refine A_mk13 rfl rfl ?_ | refine A_p (by rfl) rfl ?_
 | refine A_ldI rfl (by first | omega | (simp; done) | (simp; omega)) rfl ?_ | refine A_ldB rfl (by first | omega | (simp; done) | (simp; omega)) rfl ?_ | refine A_ld rfl (by rfl) rfl ?_ | refine A_ldW rfl (by simp) rfl ?_
 | refine A_st rfl rfl rfl ?_ | refine A_stW rfl rfl (by simp) rfl ?_ | refine A_stE rfl rfl (by first | omega | (simp; done) | (simp; omega)) rfl ?_
 | ((first | refine A_alloc rfl ?_ | refine A_box rfl rfl ?_ | refine A_boxC rfl rfl ?_ | refine A_makeN rfl rfl rfl (by omega) ?_ | refine A_make rfl rfl rfl (by omega) ?_ | refine A_bld1 rfl rfl ?_ | refine A_bld2 rfl rfl rfl ?_ | refine A_bld4 rfl rfl rfl rfl rfl ?_) <;> intro pz hpz)
 | refine A_bld0 rfl ?_ | (refine A_app rfl rfl rfl (by first | omega | (simp; done) | (simp; omega)) (by first | omega | (simp; done) | (simp; omega)) (by omega) ?_; intro pz) | (refine A_appN (enc := ic) rfl (by decide) rfl rfl (by first | omega | (simp; done) | (simp; omega)) (by omega) ?_; intro pz)
 | refine A_chk1 rfl rfl rfl ?_ | refine A_chk2 rfl rfl rfl rfl ?_ | refine A_chk3 rfl rfl rfl rfl rfl ?_ | refine A_chk4 rfl rfl rfl rfl rfl rfl ?_ | refine A_chkI rfl (by assumption) rfl (by simp) ?_
 | refine A_ret1 rfl (by first | exact (RP.t rfl RP.nil) | exact (RP.c rfl inferInstance rfl (by simp) RP.nil)) ?_ | refine A_ret rfl (by first | exact (RP.t rfl (RP.t rfl RP.nil)) | exact (RP.c rfl inferInstance rfl (by simp) (RP.t rfl RP.nil)) | exact (RP.t rfl (RP.t rfl (RP.t rfl RP.nil))) | exact (RP.c rfl inferInstance rfl (by simp) (RP.t rfl (RP.t rfl RP.nil))) | exact (RP.c rfl inferInstance rfl (by simp) (RP.t rfl (RP.t rfl (RP.t rfl (RP.t rfl RP.nil)))))) ?_ | refine A_ret0 rfl ?_)
    exact R_f fun h => h (.inr ⟨a, _, ha', dg_aa l1, by rw [hP]; exact hXP.snoc hG⟩)
  have hTd : ¬ Dg E (c1 * E + c2) := by
    rw [Dg, am_div l2, Nat.mul_add_mod_self_right, Nat.mod_eq_of_lt l2]; exact h12
  have hGm : ∀ r, Gm S E xs X (u * S + (v + 1)) r → r = c1 * E + c2 ∨ Gm S E xs X (u * S + v) r := fun r h => by
    rw [← hte]; exact (Gm.step hu' hv' heq).1 h
  have eT : (c1 : Int) * E + c2 = ((c1 * E + c2 : Nat) : Int) := by rw [Int.natCast_add, Int.natCast_mul]
  have mT : 0 ≤ (c1 : Int) * E ∧ (c1 : Int) * E ≤ 6561 := by
    have e : ((c1 * E : Nat) : Int) = (c1 : Int) * E := by push_cast; rfl
    omega
  cases hbT : bs.getD (c1 * E + c2) false with
  | true =>
    repeat' (first
 | refine A_go rfl ?_ | refine A_ifT rfl rfl ?_ | refine A_ifF rfl rfl ?_ | refine A_offP rfl rfl ?_ | refine A_offH rfl rfl ?_ | refine A_off0 rfl rfl ?_
 | refine A_add rfl rfl rfl (by omega) ?_ | refine A_sub rfl rfl rfl (by omega) ?_ | refine A_mul rfl rfl rfl (by omega) ?_ | refine A_rem rfl rfl rfl (by omega) ?_ | refine A_remT rfl rfl rfl (by omega) ?_ | refine A_quo rfl rfl rfl (by omega) ?_
 | ((first | refine A_lt rfl rfl rfl ?_ ?_ | refine A_le rfl rfl rfl ?_ ?_ | refine A_gt rfl rfl rfl ?_ ?_ | refine A_ge rfl rfl rfl ?_ ?_ | refine A_eq rfl rfl rfl ?_ ?_ | refine A_ne rfl rfl rfl ?_ ?_ | refine A_beq rfl rfl rfl ?_ ?_) <;> intro hc <;> try first | contradiction | (exfalso; omega) | exact absurd rfl hc)
 | refine A_idxN1 rfl rfl rfl (by omega) ?_ | refine A_idx1 rfl rfl rfl (by omega) ?_ | refine A_idxArr1 rfl rfl rfl (by omega) ?_
 | simp only [hX, qE, rE, hc1, hc2, hbT]
 | refine A_callV rfl rfl (fun s H => c_l03Pairs (d := u) (hE := hE) (hl := hl)) ?_
 | refine A_callV rfl rfl (fun s H => c_l03Pairs (d := v) (hE := hE) (hl := hl)) ?_
 | refine A_fld rfl rfl ?_ | refine A_mk3 rfl rfl rfl rfl ?_ | refine A_mk23 rfl rfl rfl ?_ | refine A_mk2 rfl rfl rfl ?_ | refine A_mk13 rfl rfl ?_ | refine A_p (by rfl) rfl ?_
 | refine A_ldI rfl (by first | omega | (simp; done) | (simp; omega)) rfl ?_ | refine A_ldB rfl (by first | omega | (simp; done) | (simp; omega)) rfl ?_ | refine A_ld rfl (by rfl) rfl ?_ | refine A_ldW rfl (by simp) rfl ?_
 | refine A_st rfl rfl rfl ?_ | refine A_stW rfl rfl (by simp) rfl ?_ | refine A_stE rfl rfl (by first | omega | (simp; done) | (simp; omega)) rfl ?_
 | ((first | refine A_alloc rfl ?_ | refine A_box rfl rfl ?_ | refine A_boxC rfl rfl ?_ | refine A_makeN rfl rfl rfl (by omega) ?_ | refine A_make rfl rfl rfl (by omega) ?_ | refine A_bld1 rfl rfl ?_ | refine A_bld2 rfl rfl rfl ?_ | refine A_bld4 rfl rfl rfl rfl rfl ?_) <;> intro pz hpz)
 | refine A_bld0 rfl ?_ | (refine A_app rfl rfl rfl (by first | omega | (simp; done) | (simp; omega)) (by first | omega | (simp; done) | (simp; omega)) (by omega) ?_; intro pz) | (refine A_appN (enc := ic) rfl (by decide) rfl rfl (by first | omega | (simp; done) | (simp; omega)) (by omega) ?_; intro pz)
 | refine A_chk1 rfl rfl rfl ?_ | refine A_chk2 rfl rfl rfl rfl ?_ | refine A_chk3 rfl rfl rfl rfl rfl ?_ | refine A_chk4 rfl rfl rfl rfl rfl rfl ?_ | refine A_chkI rfl (by assumption) rfl (by simp) ?_
 | refine A_ret1 rfl (by first | exact (RP.t rfl RP.nil) | exact (RP.c rfl inferInstance rfl (by simp) RP.nil)) ?_ | refine A_ret rfl (by first | exact (RP.t rfl (RP.t rfl RP.nil)) | exact (RP.c rfl inferInstance rfl (by simp) (RP.t rfl RP.nil)) | exact (RP.t rfl (RP.t rfl (RP.t rfl RP.nil))) | exact (RP.c rfl inferInstance rfl (by simp) (RP.t rfl (RP.t rfl RP.nil))) | exact (RP.c rfl inferInstance rfl (by simp) (RP.t rfl (RP.t rfl (RP.t rfl (RP.t rfl RP.nil)))))) ?_ | refine A_ret0 rfl ?_)
    refine A_round rfl [ps, p] (S - (v + 1)) (by omega) ?_
    exact ⟨v + 1, p, n, cs, bs, rfl, rfl, rfl, by omega, ⟨hcl, hi', hX⟩, hbl, hw2.old hbT hGm, hin, hsd, hn, hm⟩
  | false =>
    have hus := unseen_set (by omega) hbT (E * E)
    rw [if_pos (by omega)] at hus
    repeat' (first
 | refine A_go rfl ?_ | refine A_ifT rfl rfl ?_ | refine A_ifF rfl rfl ?_ | refine A_offP rfl rfl ?_ | refine A_offH rfl rfl ?_ | refine A_off0 rfl rfl ?_
 | refine A_add rfl rfl rfl (by omega) ?_ | refine A_sub rfl rfl rfl (by omega) ?_ | refine A_mul rfl rfl rfl (by omega) ?_ | refine A_rem rfl rfl rfl (by omega) ?_ | refine A_remT rfl rfl rfl (by omega) ?_ | refine A_quo rfl rfl rfl (by omega) ?_
 | ((first | refine A_lt rfl rfl rfl ?_ ?_ | refine A_le rfl rfl rfl ?_ ?_ | refine A_gt rfl rfl rfl ?_ ?_ | refine A_ge rfl rfl rfl ?_ ?_ | refine A_eq rfl rfl rfl ?_ ?_ | refine A_ne rfl rfl rfl ?_ ?_ | refine A_beq rfl rfl rfl ?_ ?_) <;> intro hc <;> try first | contradiction | (exfalso; omega) | exact absurd rfl hc)
 | refine A_idxN1 rfl rfl rfl (by omega) ?_ | refine A_idx1 rfl rfl rfl (by omega) ?_ | refine A_idxArr1 rfl rfl rfl (by omega) ?_
 | simp only [hX, qE, rE, hc1, hc2, hbT, eT]
 | refine A_callV rfl rfl (fun s H => c_l03Pairs (d := u) (hE := hE) (hl := hl)) ?_
 | refine A_callV rfl rfl (fun s H => c_l03Pairs (d := v) (hE := hE) (hl := hl)) ?_
 | refine A_fld rfl rfl ?_ | refine A_mk3 rfl rfl rfl rfl ?_ | refine A_mk23 rfl rfl rfl ?_ | refine A_mk2 rfl rfl rfl ?_ | refine A_mk13 rfl rfl ?_ | refine A_p (by rfl) rfl ?_
 | refine A_ldI rfl (by first | omega | (simp; done) | (simp; omega)) rfl ?_ | refine A_ldB rfl (by first | omega | (simp; done) | (simp; omega)) rfl ?_ | refine A_ld rfl (by rfl) rfl ?_ | refine A_ldW rfl (by simp) rfl ?_
 | refine A_st rfl rfl rfl ?_ | refine A_stW rfl rfl (by simp) rfl ?_ | refine A_stE rfl rfl (by first | omega | (simp; done) | (simp; omega)) rfl ?_
 | ((first | refine A_alloc rfl ?_ | refine A_box rfl rfl ?_ | refine A_boxC rfl rfl ?_ | refine A_makeN rfl rfl rfl (by omega) ?_ | refine A_make rfl rfl rfl (by omega) ?_ | refine A_bld1 rfl rfl ?_ | refine A_bld2 rfl rfl rfl ?_ | refine A_bld4 rfl rfl rfl rfl rfl ?_) <;> intro pz hpz)
 | refine A_bld0 rfl ?_ | (refine A_app rfl rfl rfl (by first | omega | (simp; done) | (simp; omega)) (by first | omega | (simp; done) | (simp; omega)) (by omega) ?_; intro pz) | (refine A_appN (enc := ic) rfl (by decide) rfl rfl (by first | omega | (simp; done) | (simp; omega)) (by omega) ?_; intro pz)
 | refine A_chk1 rfl rfl rfl ?_ | refine A_chk2 rfl rfl rfl rfl ?_ | refine A_chk3 rfl rfl rfl rfl rfl ?_ | refine A_chk4 rfl rfl rfl rfl rfl rfl ?_ | refine A_chkI rfl (by assumption) rfl (by simp) ?_
 | refine A_ret1 rfl (by first | exact (RP.t rfl RP.nil) | exact (RP.c rfl inferInstance rfl (by simp) RP.nil)) ?_ | refine A_ret rfl (by first | exact (RP.t rfl (RP.t rfl RP.nil)) | exact (RP.c rfl inferInstance rfl (by simp) (RP.t rfl RP.nil)) | exact (RP.t rfl (RP.t rfl (RP.t rfl RP.nil))) | exact (RP.c rfl inferInstance rfl (by simp) (RP.t rfl (RP.t rfl RP.nil))) | exact (RP.c rfl inferInstance rfl (by simp) (RP.t rfl (RP.t rfl (RP.t rfl (RP.t rfl RP.nil)))))) ?_ | refine A_ret0 rfl ?_)
    refine A_round rfl [ps, pz] (S - (v + 1)) (by omega) ?_
    refine ⟨v + 1, pz, n + 1, _, _, rfl, rfl, rfl, by omega, ⟨by simp [hcl], by omega, ?_⟩, by simp [hbl], ?_, ?_, ?_, by omega, by omega⟩
    · rw [List.getD_eq_getElem?_getD, List.getElem?_append_left (by omega), ← List.getD_eq_getElem?_getD]; exact hX
    · refine hw2.new hG (fun r => sn_set (by omega)) (fun r => ?_) hGm
      rw [List.drop_append_of_le_length (by omega), List.mem_append, List.mem_singleton]
      exact ⟨fun h => h.elim .inr (fun g => .inl (by omega)), fun h => h.elim (fun g => .inr (by omega)) .inl⟩
    · intro z hz
      rcases List.mem_append.1 hz with g | g
      · exact hin z g
      · exact ⟨_, List.mem_singleton.1 g, hT, hTd⟩
    · intro r hr
      rcases (sn_set (by omega)).1 hr with rfl | g
      · exact hTd
      · exact hsd r g

end Go.Proofs.Ytkeabhhndcpejaa
