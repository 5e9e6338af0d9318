/- What can be come to in one or more steps. -/
import Derived.Test.YtkeabhhndcpejaaXmat
import Derived.Test.YtkeabhhndcpejaaXclone
import Derived.Test.YtkeabhhndcpejaaFB
namespace Go.Proofs.Ytkeabhhndcpejaa
open Go Go.RowKit
set_option linter.unusedVariables false
set_option linter.unusedSimpArgs false
set_option maxRecDepth 100000
set_option maxHeartbeats 8000000
-- (impl.Rule).reached
def L94 : AFun := ⟨54, [.t 6],
 (.seq (.ops false [⟨(some 3), .box 28 (.t 0), none, []⟩,
   ⟨(some 6), .mv (.k (.c (.sl 0 0 0))), none, []⟩])
 (.seq (.ops false [⟨(some 12), .mv (.t 2), none, []⟩,
   ⟨(some 13), .len false (.t 12), none, []⟩,
   ⟨(some 14), .makeS 4 1 1 [.bool false] (.t 13) (.t 13), none, []⟩,
   ⟨(some 7), .mv (.t 14), none, []⟩])
 (.seq (.ops false [⟨(some 15), .mv (.t 1), none, []⟩,
   ⟨(some 16), .call (.f 89) [(.t 15)], none, []⟩,
   ⟨(some 8), .mv (.t 16), none, []⟩])
 (.seq (.block 0 (.loop [2, 7, 8] (.seq (.seq (.ops false [⟨(some 17), .mv (.t 8), none, []⟩,
       ⟨(some 18), .len false (.t 17), none, []⟩,
       ⟨(some 19), .bin .gtr (.t 18) (.k (iv 0)), none, []⟩])
     (.cond (.t 19) .skip
      (.exit 0)))
    (.block 1 (.seq (.ops false [⟨(some 20), .mv (.t 8), none, []⟩,
       ⟨(some 21), .mv (.t 8), none, []⟩,
       ⟨(some 22), .len false (.t 21), none, []⟩,
       ⟨(some 23), .bin .sub (.t 22) (.k (iv 1)), none, []⟩,
       ⟨(some 24), .idxA 1 (.t 20) (.t 23), none, []⟩,
       ⟨(some 25), .load false 1 (.t 24), none, []⟩,
       ⟨(some 9), .mv (.t 25), none, []⟩])
     (.seq (.ops false [⟨(some 26), .mv (.t 8), none, []⟩,
       ⟨(some 27), .mv (.t 8), none, []⟩,
       ⟨(some 28), .len false (.t 27), none, []⟩,
       ⟨(some 29), .bin .sub (.t 28) (.k (iv 1)), none, []⟩,
       ⟨(some 30), .slice 1 (.t 26) none (some (.t 29)), none, []⟩,
       ⟨(some 8), .mv (.t 30), none, []⟩])
     (.seq (.ops false [⟨(some 31), .mv (.t 2), none, []⟩,
       ⟨(some 32), .mv (.t 9), none, []⟩,
       ⟨(some 33), .idxA 1 (.t 31) (.t 32), none, []⟩,
       ⟨(some 34), .load false 1 (.t 33), none, []⟩,
       ⟨(some 35), .len false (.t 34), none, []⟩,
       ⟨(some 36), .mv (.k (iv 0)), none, []⟩])
     (.block 2 (.loop [2, 7, 8, 34, 35, 36] (.seq (.ops false [⟨(some 37), .bin .lss (.t 36) (.t 35), none, []⟩])
       (.seq (.cond (.t 37) .skip
         (.exit 2))
       (.seq (.block 3 (.seq (.ops false [⟨(some 38), .idxA 1 (.t 34) (.t 36), none, []⟩,
           ⟨(some 39), .load false 1 (.t 38), none, []⟩,
           ⟨(some 11), .mv (.t 39), none, []⟩])
         (.seq (.ops false [⟨(some 40), .mv (.t 7), none, []⟩,
           ⟨(some 41), .mv (.t 11), none, []⟩,
           ⟨(some 42), .idxA 1 (.t 40) (.t 41), none, []⟩,
           ⟨(some 43), .load false 1 (.t 42), none, []⟩,
           ⟨(some 44), .un .not (.t 43), none, []⟩])
         (.cond (.t 44) (.seq (.ops false [⟨(some 45), .mv (.t 7), none, []⟩,
            ⟨(some 46), .mv (.t 11), none, []⟩,
            ⟨(some 47), .idxA 1 (.t 45) (.t 46), none, []⟩,
            ⟨none, .store 1 (.t 47) (.k (bv true)), none, []⟩])
          (.ops false [⟨(some 48), .mv (.t 8), none, []⟩,
           ⟨(some 49), .mv (.t 11), none, []⟩,
           ⟨(some 50), .buildS 2 1 1 [.int .i64 0] [(0, 1, (.t 49))], none, []⟩,
           ⟨(some 51), .append 2 1 8 (.t 48) (.t 50), none, []⟩,
           ⟨(some 8), .mv (.t 51), none, []⟩]))
          .skip))))
       (.ops false [⟨(some 52), .bin .add (.t 36) (.k (iv 1)), none, []⟩,
        ⟨(some 36), .mv (.t 52), none, []⟩])))))))))))))
 (.seq (.ops false [⟨(some 53), .mv (.t 7), none, []⟩,
   ⟨(some 6), .mv (.t 53), none, []⟩])
 .ret)))))⟩
theorem code94 : acode Try.prog hints 94 = some L94 := by kernel_rfl


/-- Ways of at least one step. -/
inductive Plus (G : Nat → Nat → Prop) : Nat → Nat → Prop
  | one {a b : Nat} : G a b → Plus G a b
  | snoc {a b c : Nat} : Plus G a b → G b c → Plus G a c
theorem Plus.trans {G : Nat → Nat → Prop} {a b c : Nat} (h : Plus G a b) (k : Plus G b c) : Plus G a c := by
  induction k with
  | one g => exact h.snoc g
  | snoc _ g ih => exact ih.snoc g
theorem Plus.head {G : Nat → Nat → Prop} {a b c : Nat} (h : G a b) (k : Plus G b c) : Plus G a c := (Plus.one h).trans k
theorem Plus.mono {G G' : Nat → Nat → Prop} (h : ∀ a b, G a b → G' a b) {a b : Nat} (k : Plus G a b) : Plus G' a b := by
  induction k with
  | one g => exact .one (h _ _ g)
  | snoc _ g ih => exact ih.snoc (h _ _ g)
theorem Plus.rev {G G' : Nat → Nat → Prop} (h : ∀ a b, G a b → G' b a) {a b : Nat} (k : Plus G a b) : Plus G' b a := by
  induction k with
  | one g => exact .one (h _ _ g)
  | snoc _ g ih => exact ih.head (h _ _ g)
section
variable (G : Nat → Nat → Prop) (src : Nat → Prop)
/-- On the way: 'sn' were come to, 'td' are still to be looked at; 'x' is looked at: its first 'ds' are done. -/
structure Wk (sn : Nat → Prop) (td : Nat → Prop) (x : Option Nat) (ds : Nat → Prop) : Prop where
  sound : ∀ q, sn q → ∃ p, src p ∧ Plus G p q
  todo : ∀ y, td y → src y ∨ sn y
  at_ : ∀ y, x = some y → src y ∨ sn y
  done : ∀ y, (src y ∨ sn y) → td y ∨ (∀ q, G y q → sn q) ∨ (x = some y ∧ ∀ q, ds q → sn q)
variable {G src}
theorem Wk.start : Wk G src (fun _ => False) src none (fun _ => False) := ⟨fun q h => h.elim, fun y h => .inl h, (fun y h => by cases h), fun y h => .inl (h.elim id fun h => h.elim)⟩
theorem Wk.fin {sn td : Nat → Prop} {ds : Nat → Prop} (h : Wk G src sn td none ds) (ht : ∀ y, ¬ td y) {p q : Nat} (k : Plus G p q) (hp : src p) : sn q := by
  induction k with
  | one g => rcases h.done _ (.inl hp) with g1 | g1 | g1; exact absurd g1 (ht _); exact g1 _ g; cases g1.1
  | snoc _ g ih => rcases h.done _ (.inr ih) with g1 | g1 | g1; exact absurd g1 (ht _); exact g1 _ g; cases g1.1
theorem Wk.end {sn td : Nat → Prop} {ds : Nat → Prop} (h : Wk G src sn td none ds) (ht : ∀ y, ¬ td y) (q : Nat) : sn q ↔ ∃ p, src p ∧ Plus G p q :=
  ⟨h.sound q, fun ⟨p, hp, k⟩ => h.fin ht k hp⟩
theorem Wk.congr {sn sn' td td' : Nat → Prop} {x : Option Nat} {ds ds' : Nat → Prop} (h : Wk G src sn td x ds) (h1 : ∀ q, sn q ↔ sn' q) (h2 : ∀ q, td q ↔ td' q) (h3 : ∀ q, ds q ↔ ds' q) : Wk G src sn' td' x ds' := by
  obtain rfl : sn = sn' := funext fun q => propext (h1 q)
  obtain rfl : td = td' := funext fun q => propext (h2 q)
  obtain rfl : ds = ds' := funext fun q => propext (h3 q)
  exact h
/-- One is taken. -/
theorem Wk.take {sn td td' : Nat → Prop} {ds : Nat → Prop} (h : Wk G src sn td none ds) {x : Nat} (hx : td x) (h1 : ∀ y, td' y → td y) (h2 : ∀ y, td y → y = x ∨ td' y) : Wk G src sn td' (some x) (fun _ => False) :=
  ⟨h.sound, fun y hy => h.todo y (h1 y hy), (fun y e => by obtain rfl := Option.some.inj e; exact h.todo _ hx), fun y hy => by
    rcases h.done y hy with g | g | g
    · rcases h2 y g with rfl | g
      · exact .inr (.inr ⟨rfl, fun q hq => hq.elim⟩)
      · exact .inl g
    · exact .inr (.inl g)
    · cases g.1⟩
/-- One that was come to. -/
theorem Wk.old {sn td ds ds' : Nat → Prop} {x q : Nat} (h : Wk G src sn td (some x) ds) (hq : sn q) (hd : ∀ p, ds' p → p = q ∨ ds p) : Wk G src sn td (some x) ds' :=
  ⟨h.sound, h.todo, h.at_, fun y hy => by
    rcases h.done y hy with g | g | ⟨g1, g2⟩
    · exact .inl g
    · exact .inr (.inl g)
    · exact .inr (.inr ⟨g1, fun p hp => (hd p hp).elim (fun e => e ▸ hq) (g2 p)⟩)⟩
/-- A new one. -/
theorem Wk.new {sn sn' td td' ds ds' : Nat → Prop} {x q : Nat} (h : Wk G src sn td (some x) ds) (hg : G x q) (hs : ∀ p, sn' p ↔ p = q ∨ sn p) (ht : ∀ p, td' p ↔ p = q ∨ td p) (hd : ∀ p, ds' p → p = q ∨ ds p) : Wk G src sn' td' (some x) ds' :=
  ⟨fun p hp => by
    rcases (hs p).1 hp with rfl | hp
    · rcases h.at_ x rfl with g | g
      · exact ⟨x, g, .one hg⟩
      · obtain ⟨r, h1, h2⟩ := h.sound x g; exact ⟨r, h1, h2.snoc hg⟩
    · exact h.sound p hp, fun y hy => by
    rcases (ht y).1 hy with rfl | hy
    · exact .inr ((hs _).2 (.inl rfl))
    · exact (h.todo y hy).imp id fun g => (hs y).2 (.inr g), fun y e => (h.at_ y e).imp id fun g => (hs y).2 (.inr g), fun y hy => by
    by_cases e : y = q
    · exact .inl ((ht y).2 (.inl e))
    have hy' : src y ∨ sn y := hy.imp id fun g => ((hs y).1 g).resolve_left e
    rcases h.done y hy' with g | g | ⟨g1, g2⟩
    · exact .inl ((ht y).2 (.inr g))
    · exact .inr (.inl fun p hp => (hs p).2 (.inr (g p hp)))
    · exact .inr (.inr ⟨g1, fun p hp => (hs p).2 ((hd p hp).imp id (g2 p))⟩)⟩
/-- All of one are done. -/
theorem Wk.next {sn td ds ds' : Nat → Prop} {x : Nat} (h : Wk G src sn td (some x) ds) (hd : ∀ q, G x q → ds q) : Wk G src sn td none ds' :=
  ⟨h.sound, h.todo, (fun y e => by cases e), fun y hy => by
    rcases h.done y hy with g | g | ⟨g1, g2⟩
    · exact .inl g
    · exact .inr (.inl g)
    · obtain rfl := Option.some.inj g1; exact .inr (.inl fun q hq => g2 q (hd q hq))⟩
end
/-- How many were not come to. -/
def unseen (bs : List Bool) : Nat → Nat
  | 0 => 0
  | m + 1 => unseen bs m + if bs.getD m false = true then 0 else 1
theorem unseen_le {bs : List Bool} : ∀ m, unseen bs m ≤ m
  | 0 => Nat.le_refl 0
  | m + 1 => by have := unseen_le (bs := bs) m; rw [unseen]; split <;> omega
theorem unseen_set {bs : List Bool} {v : Nat} (hl : v < bs.length) (h : bs.getD v false = false) : ∀ m, unseen (bs.set v true) m + (if v < m then 1 else 0) = unseen bs m
  | 0 => rfl
  | m + 1 => by
    have ih := unseen_set hl h m
    rw [unseen, unseen, getD_set hl]
    by_cases e : v = m
    · subst e
      rw [if_neg (Nat.lt_irrefl v)] at ih
      rw [if_pos rfl, if_pos rfl, if_pos (by omega), h]; simp; omega
    · rw [if_neg e]
      by_cases h2 : v < m
      · rw [if_pos h2] at ih; rw [if_pos (show v < m + 1 by omega)]; omega
      · rw [if_neg h2] at ih; rw [if_neg (show ¬ v < m + 1 by omega)]; omega
abbrev Sn (bs : List Bool) (q : Nat) : Prop := bs.getD q false = true
theorem sn_set {bs : List Bool} {q p : Nat} (hl : q < bs.length) : Sn (bs.set q true) p ↔ p = q ∨ Sn bs p := by
  unfold Sn
  rw [getD_set hl]
  by_cases e : q = p
  · simp [e]
  · rw [if_neg e]; exact ⟨.inr, fun h => h.resolve_left fun g => e g.symm⟩
abbrev Gz (zs : List Row) (a b : Nat) : Prop := (b : Int) ∈ (zs.getD a Row.nil).xs
theorem mem_take_succ {cs : List Int} {k : Nat} {y : Int} (h : k < cs.length) : y ∈ cs.take (k + 1) ↔ y = cs.getD k 0 ∨ y ∈ cs.take k := by
  rw [List.take_add_one, getD_some 0 h]
  simp only [Option.toList_some, List.mem_append, List.mem_singleton]
  exact or_comm
theorem c_reached {s : St} [Wf s] {S re : Int} {v : AC} {id_fr off_fr len_fr : Nat} {fr : List Int} [h_fr : ArgE ic s id_fr off_fr fr] (hl_fr : fr.length = len_fr := by first | rfl | simp | omega | (simp; omega)) {idg offg N : Nat} {zs : List Row} [hg : ArgE rc s idg offg zs] [ha : ArgAll s zs] (hN : zs.length = N) (hz : ∀ z ∈ zs, (z.xs.length = z.len ∧ z.len ≤ 1000000) ∧ ∀ x ∈ z.xs, 0 ≤ x ∧ x < N) (hfr : ∀ x ∈ fr, 0 ≤ x ∧ x < N) (hb : N ≤ 6561 ∧ len_fr ≤ 6561 := by omega) :
    Fn [] 94 [.agg [ic S, ic re, v], .c (.sl id_fr off_fr len_fr), .c (.sl idg offg N)] s fun R M => ∃ p bs, R = .c (.sl p 0 N) ∧ M = [(p, .rw 4 1 (bs.map bc))] ∧ bs.length = N ∧ ∀ q, Sn bs q ↔ ∃ p : Nat, (p : Int) ∈ fr ∧ Plus (Gz zs) p q := by
  refine F_start code94 ?_
  repeat' (first
 | refine A_go rfl ?_ | refine A_ifT rfl rfl ?_ | refine A_ifF rfl rfl ?_ | refine A_offP rfl rfl ?_ | refine A_offH rfl rfl ?_ | refine A_off0 rfl rfl ?_
 | refine A_add rfl rfl rfl (by omega) ?_ | refine A_sub rfl rfl rfl (by omega) ?_ | refine A_mul rfl rfl rfl (by omega) ?_ | refine A_rem rfl rfl rfl (by omega) ?_ | refine A_remT rfl rfl rfl (by omega) ?_ | refine A_quo rfl rfl rfl (by omega) ?_
 | ((first | refine A_lt rfl rfl rfl ?_ ?_ | refine A_le rfl rfl rfl ?_ ?_ | refine A_gt rfl rfl rfl ?_ ?_ | refine A_ge rfl rfl rfl ?_ ?_ | refine A_eq rfl rfl rfl ?_ ?_ | refine A_ne rfl rfl rfl ?_ ?_ | refine A_beq rfl rfl rfl ?_ ?_) <;> intro hc <;> try first | contradiction | (exfalso; omega) | exact absurd rfl hc)
 | refine A_idxN1 rfl rfl rfl (by omega) ?_ | refine A_idx1 rfl rfl rfl (by omega) ?_ | refine A_idxArr1 rfl rfl rfl (by omega) ?_
 | (refine A_callM rfl rfl (fun s H => c_clone) ?_; rintro _ _ ⟨pz, rfl, rfl⟩) | (refine A_callM0 rfl rfl (fun s H => c_clone) ?_; rintro _ _ ⟨pz, rfl, rfl⟩)
 | refine A_fld rfl rfl ?_ | refine A_mk3 rfl rfl rfl rfl ?_ | refine A_mk23 rfl rfl rfl ?_ | refine A_mk2 rfl rfl rfl ?_ | refine A_mk13 rfl rfl ?_ | refine A_p (by rfl) rfl ?_
 | refine A_ldI rfl (by first | omega | (simp; done) | (simp; omega)) rfl ?_ | refine A_ldB rfl (by first | omega | (simp; done) | (simp; omega)) rfl ?_ | refine A_ld rfl (by rfl) rfl ?_ | refine A_ldW rfl (by simp) rfl ?_
 | refine A_st rfl rfl rfl ?_ | refine A_stW rfl rfl (by simp) rfl ?_ | refine A_stE rfl rfl (by first | omega | (simp; done) | (simp; omega)) rfl ?_
 | ((first | refine A_alloc rfl ?_ | refine A_box rfl rfl ?_ | refine A_boxC rfl rfl ?_ | refine A_makeN rfl rfl rfl (by omega) ?_ | refine A_make rfl rfl rfl (by omega) ?_ | refine A_bld1 rfl rfl ?_ | refine A_bld2 rfl rfl rfl ?_ | refine A_bld4 rfl rfl rfl rfl rfl ?_) <;> intro pz hpz)
 | refine A_bld0 rfl ?_ | (refine A_app rfl rfl rfl (by first | omega | (simp; done) | (simp; omega)) (by first | omega | (simp; done) | (simp; omega)) (by omega) ?_; intro pz) | (refine A_appN (enc := ic) rfl (by decide) rfl rfl (by first | omega | (simp; done) | (simp; omega)) (by omega) ?_; intro pz)
 | refine A_chk1 rfl rfl rfl ?_ | refine A_chk2 rfl rfl rfl rfl ?_ | refine A_chk3 rfl rfl rfl rfl rfl ?_ | refine A_chk4 rfl rfl rfl rfl rfl rfl ?_ | refine A_chkI rfl (by assumption) rfl (by simp) ?_
 | refine A_ret1 rfl (by first | exact (RP.t rfl RP.nil) | exact (RP.c rfl inferInstance rfl (by simp) RP.nil)) ?_ | refine A_ret rfl (by first | exact (RP.t rfl (RP.t rfl RP.nil)) | exact (RP.c rfl inferInstance rfl (by simp) (RP.t rfl RP.nil)) | exact (RP.t rfl (RP.t rfl (RP.t rfl RP.nil))) | exact (RP.c rfl inferInstance rfl (by simp) (RP.t rfl (RP.t rfl RP.nil))) | exact (RP.c rfl inferInstance rfl (by simp) (RP.t rfl (RP.t rfl (RP.t rfl (RP.t rfl RP.nil)))))) ?_ | refine A_ret0 rfl ?_)
  rename_i q _ ps
  obtain ⟨p0, hEq⟩ : ∃ p, p = pz := ⟨_, rfl⟩; subst hEq
  have hsn0 : ∀ p, ¬ Sn (List.replicate N false) p := fun p h => by
    unfold Sn at h
    rw [List.getD_eq_getElem?_getD, List.getElem?_replicate] at h
    split at h <;> simp at h
  refine A_loop rfl [q, ps, p0] (fun m fr' L => ∃ (p n : Nat) (cs : List Int) (bs : List Bool), fr' = [(2, .c (.sl idg offg N)), (7, .c (.sl ps 0 N)), (8, .c (.sl p 0 n))] ∧ L = [(q, .rw 28 3 [ic S, ic re, v]), (ps, .rw 4 1 (bs.map bc)), (p, ints cs)] ∧ n ≤ cs.length ∧ bs.length = N ∧ Wk (Gz zs) (fun p : Nat => (p : Int) ∈ fr) (Sn bs) (fun y : Nat => (y : Int) ∈ cs.take n) none (fun _ => False) ∧ (∀ x ∈ cs.take n, 0 ≤ x ∧ x < N) ∧ 2 * unseen bs N + n ≤ m ∧ m ≤ 20000) (2 * N + len_fr) ⟨p0, len_fr, fr, _, rfl, rfl, by omega, by simp, Wk.start.congr (fun q => ⟨fun h => h.elim, fun h => hsn0 q h⟩) (fun q => by rw [List.take_of_length_le (by omega)]) (fun q => Iff.rfl), by rw [List.take_of_length_le (by omega)]; exact hfr, by have := unseen_le (bs := List.replicate N false) N; omega, by omega⟩ ?_
  rintro m fr' L ⟨p, n, cs, bs, rfl, rfl, hn, hbl, hw, hin, hm, hm2⟩
  cases n with
  | zero =>
    repeat' (first
 | refine A_go rfl ?_ | refine A_ifT rfl rfl ?_ | refine A_ifF rfl rfl ?_ | refine A_offP rfl rfl ?_ | refine A_offH rfl rfl ?_ | refine A_off0 rfl rfl ?_
 | refine A_add rfl rfl rfl (by omega) ?_ | refine A_sub rfl rfl rfl (by omega) ?_ | refine A_mul rfl rfl rfl (by omega) ?_ | refine A_rem rfl rfl rfl (by omega) ?_ | refine A_remT rfl rfl rfl (by omega) ?_ | refine A_quo rfl rfl rfl (by omega) ?_
 | ((first | refine A_lt rfl rfl rfl ?_ ?_ | refine A_le rfl rfl rfl ?_ ?_ | refine A_gt rfl rfl rfl ?_ ?_ | refine A_ge rfl rfl rfl ?_ ?_ | refine A_eq rfl rfl rfl ?_ ?_ | refine A_ne rfl rfl rfl ?_ ?_ | refine A_beq rfl rfl rfl ?_ ?_) <;> intro hc <;> try first | contradiction | (exfalso; omega) | exact absurd rfl hc)
 | refine A_idxN1 rfl rfl rfl (by omega) ?_ | refine A_idx1 rfl rfl rfl (by omega) ?_ | refine A_idxArr1 rfl rfl rfl (by omega) ?_
 | refine A_fld rfl rfl ?_ | refine A_mk3 rfl rfl rfl rfl ?_ | refine A_mk23 rfl rfl rfl ?_ | refine A_mk2 rfl rfl rfl ?_ | refine A_mk13 rfl rfl ?_ | refine A_p (by rfl) rfl ?_
 | refine A_ldI rfl (by first | omega | (simp; done) | (simp; omega)) rfl ?_ | refine A_ldB rfl (by first | omega | (simp; done) | (simp; omega)) rfl ?_ | refine A_ld rfl (by rfl) rfl ?_ | refine A_ldW rfl (by simp) rfl ?_
 | refine A_st rfl rfl rfl ?_ | refine A_stW rfl rfl (by simp) rfl ?_ | refine A_stE rfl rfl (by first | omega | (simp; done) | (simp; omega)) rfl ?_
 | ((first | refine A_alloc rfl ?_ | refine A_box rfl rfl ?_ | refine A_boxC rfl rfl ?_ | refine A_makeN rfl rfl rfl (by omega) ?_ | refine A_make rfl rfl rfl (by omega) ?_ | refine A_bld1 rfl rfl ?_ | refine A_bld2 rfl rfl rfl ?_ | refine A_bld4 rfl rfl rfl rfl rfl ?_) <;> intro pz hpz)
 | refine A_bld0 rfl ?_ | (refine A_app rfl rfl rfl (by first | omega | (simp; done) | (simp; omega)) (by first | omega | (simp; done) | (simp; omega)) (by omega) ?_; intro pz) | (refine A_appN (enc := ic) rfl (by decide) rfl rfl (by first | omega | (simp; done) | (simp; omega)) (by omega) ?_; intro pz)
 | refine A_chk1 rfl rfl rfl ?_ | refine A_chk2 rfl rfl rfl rfl ?_ | refine A_chk3 rfl rfl rfl rfl rfl ?_ | refine A_chk4 rfl rfl rfl rfl rfl rfl ?_ | refine A_chkI rfl (by assumption) rfl (by simp) ?_
 | refine A_ret1 rfl (by first | exact (RP.t rfl RP.nil) | exact (RP.c rfl inferInstance rfl (by simp) RP.nil)) ?_ | refine A_ret rfl (by first | exact (RP.t rfl (RP.t rfl RP.nil)) | exact (RP.c rfl inferInstance rfl (by simp) (RP.t rfl RP.nil)) | exact (RP.t rfl (RP.t rfl (RP.t rfl RP.nil))) | exact (RP.c rfl inferInstance rfl (by simp) (RP.t rfl (RP.t rfl RP.nil))) | exact (RP.c rfl inferInstance rfl (by simp) (RP.t rfl (RP.t rfl (RP.t rfl (RP.t rfl RP.nil)))))) ?_ | refine A_ret0 rfl ?_)
    refine R_s ⟨ps, bs, rfl, rfl, hbl, fun q => hw.end (fun y hy => by simp at hy) q⟩
  | succ k =>
    have hk : k < cs.length := by omega
    have hxin := hin _ ((mem_take_succ hk).2 (.inl rfl))
    have e : (((k + 1 : Nat) : Int) - 1).toNat = k := by omega
    obtain ⟨x, hx⟩ : ∃ x : Nat, cs.getD k 0 = x := ⟨(cs.getD k 0).toNat, by omega⟩
    rw [hx] at hxin
    have hxl : x < zs.length := by omega
    haveI : Fact' (x < zs.length) := ⟨hxl⟩
    obtain ⟨⟨z1, z2⟩, z3⟩ := hz _ (getD_mem (d := Row.nil) hxl)
    have hw1 := hw.take (x := x) (td' := fun y : Nat => (y : Int) ∈ cs.take k) ((mem_take_succ hk).2 (.inl hx.symm)) (fun y hy => (mem_take_succ hk).2 (.inr hy)) (fun y hy => ((mem_take_succ hk).1 hy).imp (fun g => by omega) id)
    have hin1 : ∀ y ∈ cs.take k, 0 ≤ y ∧ y < N := fun y hy => hin y ((mem_take_succ hk).2 (.inr hy))
    repeat' (first
 | refine A_go rfl ?_ | refine A_ifT rfl rfl ?_ | refine A_ifF rfl rfl ?_ | refine A_offP rfl rfl ?_ | refine A_offH rfl rfl ?_ | refine A_off0 rfl rfl ?_
 | refine A_add rfl rfl rfl (by omega) ?_ | refine A_sub rfl rfl rfl (by omega) ?_ | refine A_mul rfl rfl rfl (by omega) ?_ | refine A_rem rfl rfl rfl (by omega) ?_ | refine A_remT rfl rfl rfl (by omega) ?_ | refine A_quo rfl rfl rfl (by omega) ?_
 | ((first | refine A_lt rfl rfl rfl ?_ ?_ | refine A_le rfl rfl rfl ?_ ?_ | refine A_gt rfl rfl rfl ?_ ?_ | refine A_ge rfl rfl rfl ?_ ?_ | refine A_eq rfl rfl rfl ?_ ?_ | refine A_ne rfl rfl rfl ?_ ?_ | refine A_beq rfl rfl rfl ?_ ?_) <;> intro hc <;> try first | contradiction | (exfalso; omega) | exact absurd rfl hc)
 | refine A_idxN1 rfl rfl rfl (by omega) ?_ | refine A_idx1 rfl rfl rfl (by omega) ?_ | refine A_idxArr1 rfl rfl rfl (by omega) ?_
 | refine A_slTo rfl rfl rfl (by omega) ?_
 | simp only [e, hx]
 | refine A_ldR rfl (by omega) rfl ?_
 | refine A_fld rfl rfl ?_ | refine A_mk3 rfl rfl rfl rfl ?_ | refine A_mk23 rfl rfl rfl ?_ | refine A_mk2 rfl rfl rfl ?_ | refine A_mk13 rfl rfl ?_ | refine A_p (by rfl) rfl ?_
 | refine A_ldI rfl (by first | omega | (simp; done) | (simp; omega)) rfl ?_ | refine A_ldB rfl (by first | omega | (simp; done) | (simp; omega)) rfl ?_ | refine A_ld rfl (by rfl) rfl ?_ | refine A_ldW rfl (by simp) rfl ?_
 | refine A_st rfl rfl rfl ?_ | refine A_stW rfl rfl (by simp) rfl ?_ | refine A_stE rfl rfl (by first | omega | (simp; done) | (simp; omega)) rfl ?_
 | ((first | refine A_alloc rfl ?_ | refine A_box rfl rfl ?_ | refine A_boxC rfl rfl ?_ | refine A_makeN rfl rfl rfl (by omega) ?_ | refine A_make rfl rfl rfl (by omega) ?_ | refine A_bld1 rfl rfl ?_ | refine A_bld2 rfl rfl rfl ?_ | refine A_bld4 rfl rfl rfl rfl rfl ?_) <;> intro pz hpz)
 | refine A_bld0 rfl ?_ | (refine A_app rfl rfl rfl (by first | omega | (simp; done) | (simp; omega)) (by first | omega | (simp; done) | (simp; omega)) (by omega) ?_; intro pz) | (refine A_appN (enc := ic) rfl (by decide) rfl rfl (by first | omega | (simp; done) | (simp; omega)) (by omega) ?_; intro pz)
 | refine A_chk1 rfl rfl rfl ?_ | refine A_chk2 rfl rfl rfl rfl ?_ | refine A_chk3 rfl rfl rfl rfl rfl ?_ | refine A_chk4 rfl rfl rfl rfl rfl rfl ?_ | refine A_chkI rfl (by assumption) rfl (by simp) ?_
 | refine A_ret1 rfl (by first | exact (RP.t rfl RP.nil) | exact (RP.c rfl inferInstance rfl (by simp) RP.nil)) ?_ | refine A_ret rfl (by first | exact (RP.t rfl (RP.t rfl RP.nil)) | exact (RP.c rfl inferInstance rfl (by simp) (RP.t rfl RP.nil)) | exact (RP.t rfl (RP.t rfl (RP.t rfl RP.nil))) | exact (RP.c rfl inferInstance rfl (by simp) (RP.t rfl (RP.t rfl RP.nil))) | exact (RP.c rfl inferInstance rfl (by simp) (RP.t rfl (RP.t rfl (RP.t rfl (RP.t rfl RP.nil)))))) ?_ | refine A_ret0 rfl ?_)
    try simp only [Int.toNat_natCast]
    refine A_loop rfl [q, ps, p] (fun m' fr' L => ∃ (i p n : Nat) (cs : List Int) (bs : List Bool), m' = (zs.getD x Row.nil).len - i ∧ fr' = [(2, .c (.sl idg offg N)), (7, .c (.sl ps 0 N)), (8, .c (.sl p 0 n)), (34, .c (rc (zs.getD x Row.nil))), (35, iv (zs.getD x Row.nil).len), (36, iv i)] ∧ L = [(q, .rw 28 3 [ic S, ic re, v]), (ps, .rw 4 1 (bs.map bc)), (p, ints cs)] ∧ i ≤ (zs.getD x Row.nil).len ∧ n ≤ cs.length ∧ bs.length = N ∧ Wk (Gz zs) (fun p : Nat => (p : Int) ∈ fr) (Sn bs) (fun y : Nat => (y : Int) ∈ cs.take n) (some x) (fun q => (q : Int) ∈ (zs.getD x Row.nil).xs.take i) ∧ (∀ x ∈ cs.take n, 0 ≤ x ∧ x < N) ∧ 2 * unseen bs N + n + 1 ≤ m) (zs.getD x Row.nil).len ⟨0, p, k, cs, bs, rfl, rfl, rfl, by omega, by omega, hbl, hw1.congr (fun _ => Iff.rfl) (fun _ => Iff.rfl) (fun q => by simp), hin1, by omega⟩ ?_
    rintro m' fr' L ⟨i, p, n, cs, bs, rfl, rfl, rfl, hi, hn, hbl, hw, hin, hm⟩
    by_cases hi' : i < (zs.getD x Row.nil).len
    · have hil : i < (zs.getD x Row.nil).xs.length := by omega
      have hyin := z3 _ (getD_mem (d := 0) hil)
      obtain ⟨y, hy⟩ : ∃ y : Nat, (zs.getD x Row.nil).xs.getD i 0 = y := ⟨((zs.getD x Row.nil).xs.getD i 0).toNat, by omega⟩
      have hyl : y < bs.length := by omega
      have hG : Gz zs x y := by unfold Gz; rw [← hy]; exact getD_mem hil
      have hd : ∀ p : Nat, (p : Int) ∈ (zs.getD x Row.nil).xs.take (i + 1) → p = y ∨ (p : Int) ∈ (zs.getD x Row.nil).xs.take i := fun p hp => ((mem_take_succ hil).1 hp).imp (fun g => by omega) id
      cases hb : bs.getD y false with
      | true =>
        repeat' (first
 | refine A_go rfl ?_ | refine A_ifT rfl rfl ?_ | refine A_ifF rfl rfl ?_ | refine A_offP rfl rfl ?_ | refine A_offH rfl rfl ?_ | refine A_off0 rfl rfl ?_
 | refine A_add rfl rfl rfl (by omega) ?_ | refine A_sub rfl rfl rfl (by omega) ?_ | refine A_mul rfl rfl rfl (by omega) ?_ | refine A_rem rfl rfl rfl (by omega) ?_ | refine A_remT rfl rfl rfl (by omega) ?_ | refine A_quo rfl rfl rfl (by omega) ?_
 | ((first | refine A_lt rfl rfl rfl ?_ ?_ | refine A_le rfl rfl rfl ?_ ?_ | refine A_gt rfl rfl rfl ?_ ?_ | refine A_ge rfl rfl rfl ?_ ?_ | refine A_eq rfl rfl rfl ?_ ?_ | refine A_ne rfl rfl rfl ?_ ?_ | refine A_beq rfl rfl rfl ?_ ?_) <;> intro hc <;> try first | contradiction | (exfalso; omega) | exact absurd rfl hc)
 | refine A_idxN1 rfl rfl rfl (by omega) ?_ | refine A_idx1 rfl rfl rfl (by omega) ?_ | refine A_idxArr1 rfl rfl rfl (by omega) ?_
 | simp only [hy, Int.toNat_natCast, hb]
 | (refine A_ifB rfl rfl ?_ ?_ <;> intro hc)
 | refine A_fld rfl rfl ?_ | refine A_mk3 rfl rfl rfl rfl ?_ | refine A_mk23 rfl rfl rfl ?_ | refine A_mk2 rfl rfl rfl ?_ | refine A_mk13 rfl rfl ?_ | refine A_p (by rfl) rfl ?_
 | refine A_ldI rfl (by first | omega | (simp; done) | (simp; omega)) rfl ?_ | refine A_ldB rfl (by first | omega | (simp; done) | (simp; omega)) rfl ?_ | refine A_ld rfl (by rfl) rfl ?_ | refine A_ldW rfl (by simp) rfl ?_
 | refine A_st rfl rfl rfl ?_ | refine A_stW rfl rfl (by simp) rfl ?_ | refine A_stE rfl rfl (by first | omega | (simp; done) | (simp; omega)) rfl ?_
 | ((first | refine A_alloc rfl ?_ | refine A_box rfl rfl ?_ | refine A_boxC rfl rfl ?_ | refine A_makeN rfl rfl rfl (by omega) ?_ | refine A_make rfl rfl rfl (by omega) ?_ | refine A_bld1 rfl rfl ?_ | refine A_bld2 rfl rfl rfl ?_ | refine A_bld4 rfl rfl rfl rfl rfl ?_) <;> intro pz hpz)
 | refine A_bld0 rfl ?_ | (refine A_app rfl rfl rfl (by first | omega | (simp; done) | (simp; omega)) (by first | omega | (simp; done) | (simp; omega)) (by omega) ?_; intro pz) | (refine A_appN (enc := ic) rfl (by decide) rfl rfl (by first | omega | (simp; done) | (simp; omega)) (by omega) ?_; intro pz)
 | refine A_chk1 rfl rfl rfl ?_ | refine A_chk2 rfl rfl rfl rfl ?_ | refine A_chk3 rfl rfl rfl rfl rfl ?_ | refine A_chk4 rfl rfl rfl rfl rfl rfl ?_ | refine A_chkI rfl (by assumption) rfl (by simp) ?_
 | refine A_ret1 rfl (by first | exact (RP.t rfl RP.nil) | exact (RP.c rfl inferInstance rfl (by simp) RP.nil)) ?_ | refine A_ret rfl (by first | exact (RP.t rfl (RP.t rfl RP.nil)) | exact (RP.c rfl inferInstance rfl (by simp) (RP.t rfl RP.nil)) | exact (RP.t rfl (RP.t rfl (RP.t rfl RP.nil))) | exact (RP.c rfl inferInstance rfl (by simp) (RP.t rfl (RP.t rfl RP.nil))) | exact (RP.c rfl inferInstance rfl (by simp) (RP.t rfl (RP.t rfl (RP.t rfl (RP.t rfl RP.nil)))))) ?_ | refine A_ret0 rfl ?_)
        refine A_round rfl [q, ps, p] ((zs.getD x Row.nil).len - (i + 1)) (by omega) ?_
        exact ⟨i + 1, p, n, cs, bs, rfl, rfl, rfl, by omega, hn, hbl, hw.old hb hd, hin, hm⟩
      | false =>
        have hu := unseen_set hyl hb N
        rw [if_pos (by omega)] at hu
        have ht2 : (cs.take n ++ [(y : Int)]).take (n + 1) = cs.take n ++ [(y : Int)] := List.take_of_length_le (by simp; omega)
        repeat' (first
 | refine A_go rfl ?_ | refine A_ifT rfl rfl ?_ | refine A_ifF rfl rfl ?_ | refine A_offP rfl rfl ?_ | refine A_offH rfl rfl ?_ | refine A_off0 rfl rfl ?_
 | refine A_add rfl rfl rfl (by omega) ?_ | refine A_sub rfl rfl rfl (by omega) ?_ | refine A_mul rfl rfl rfl (by omega) ?_ | refine A_rem rfl rfl rfl (by omega) ?_ | refine A_remT rfl rfl rfl (by omega) ?_ | refine A_quo rfl rfl rfl (by omega) ?_
 | ((first | refine A_lt rfl rfl rfl ?_ ?_ | refine A_le rfl rfl rfl ?_ ?_ | refine A_gt rfl rfl rfl ?_ ?_ | refine A_ge rfl rfl rfl ?_ ?_ | refine A_eq rfl rfl rfl ?_ ?_ | refine A_ne rfl rfl rfl ?_ ?_ | refine A_beq rfl rfl rfl ?_ ?_) <;> intro hc <;> try first | contradiction | (exfalso; omega) | exact absurd rfl hc)
 | refine A_idxN1 rfl rfl rfl (by omega) ?_ | refine A_idx1 rfl rfl rfl (by omega) ?_ | refine A_idxArr1 rfl rfl rfl (by omega) ?_
 | simp only [hy, Int.toNat_natCast, hb]
 | (refine A_ifB rfl rfl ?_ ?_ <;> intro hc)
 | (refine A_appT rfl rfl rfl (by omega) rfl (by omega) ?_ <;> intro pz)
 | refine A_fld rfl rfl ?_ | refine A_mk3 rfl rfl rfl rfl ?_ | refine A_mk23 rfl rfl rfl ?_ | refine A_mk2 rfl rfl rfl ?_ | refine A_mk13 rfl rfl ?_ | refine A_p (by rfl) rfl ?_
 | refine A_ldI rfl (by first | omega | (simp; done) | (simp; omega)) rfl ?_ | refine A_ldB rfl (by first | omega | (simp; done) | (simp; omega)) rfl ?_ | refine A_ld rfl (by rfl) rfl ?_ | refine A_ldW rfl (by simp) rfl ?_
 | refine A_st rfl rfl rfl ?_ | refine A_stW rfl rfl (by simp) rfl ?_ | refine A_stE rfl rfl (by first | omega | (simp; done) | (simp; omega)) rfl ?_
 | ((first | refine A_alloc rfl ?_ | refine A_box rfl rfl ?_ | refine A_boxC rfl rfl ?_ | refine A_makeN rfl rfl rfl (by omega) ?_ | refine A_make rfl rfl rfl (by omega) ?_ | refine A_bld1 rfl rfl ?_ | refine A_bld2 rfl rfl rfl ?_ | refine A_bld4 rfl rfl rfl rfl rfl ?_) <;> intro pz hpz)
 | refine A_bld0 rfl ?_ | (refine A_app rfl rfl rfl (by first | omega | (simp; done) | (simp; omega)) (by first | omega | (simp; done) | (simp; omega)) (by omega) ?_; intro pz) | (refine A_appN (enc := ic) rfl (by decide) rfl rfl (by first | omega | (simp; done) | (simp; omega)) (by omega) ?_; intro pz)
 | refine A_chk1 rfl rfl rfl ?_ | refine A_chk2 rfl rfl rfl rfl ?_ | refine A_chk3 rfl rfl rfl rfl rfl ?_ | refine A_chk4 rfl rfl rfl rfl rfl rfl ?_ | refine A_chkI rfl (by assumption) rfl (by simp) ?_
 | refine A_ret1 rfl (by first | exact (RP.t rfl RP.nil) | exact (RP.c rfl inferInstance rfl (by simp) RP.nil)) ?_ | refine A_ret rfl (by first | exact (RP.t rfl (RP.t rfl RP.nil)) | exact (RP.c rfl inferInstance rfl (by simp) (RP.t rfl RP.nil)) | exact (RP.t rfl (RP.t rfl (RP.t rfl RP.nil))) | exact (RP.c rfl inferInstance rfl (by simp) (RP.t rfl (RP.t rfl RP.nil))) | exact (RP.c rfl inferInstance rfl (by simp) (RP.t rfl (RP.t rfl (RP.t rfl (RP.t rfl RP.nil)))))) ?_ | refine A_ret0 rfl ?_)
        refine A_round rfl [q, ps, pz] ((zs.getD x Row.nil).len - (i + 1)) (by omega) ?_
        refine ⟨i + 1, pz, n + 1, _, _, rfl, rfl, rfl, by omega, by simp; omega, by simp [hbl], ?_, ?_, by omega⟩
        · refine hw.new hG (fun p => sn_set hyl) (fun p => ?_) hd
          rw [ht2, List.mem_append, List.mem_singleton]
          exact ⟨fun h => h.elim .inr (fun g => .inl (by omega)), fun h => h.elim (fun g => .inr (by omega)) .inl⟩
        · rw [ht2]
          intro a ha
          rcases List.mem_append.1 ha with g | g
          · exact hin a g
          · obtain rfl := List.mem_singleton.1 g; omega
    · obtain rfl : (zs.getD x Row.nil).len = i := by omega
      repeat' (first
 | refine A_go rfl ?_ | refine A_ifT rfl rfl ?_ | refine A_ifF rfl rfl ?_ | refine A_offP rfl rfl ?_ | refine A_offH rfl rfl ?_ | refine A_off0 rfl rfl ?_
 | refine A_add rfl rfl rfl (by omega) ?_ | refine A_sub rfl rfl rfl (by omega) ?_ | refine A_mul rfl rfl rfl (by omega) ?_ | refine A_rem rfl rfl rfl (by omega) ?_ | refine A_remT rfl rfl rfl (by omega) ?_ | refine A_quo rfl rfl rfl (by omega) ?_
 | ((first | refine A_lt rfl rfl rfl ?_ ?_ | refine A_le rfl rfl rfl ?_ ?_ | refine A_gt rfl rfl rfl ?_ ?_ | refine A_ge rfl rfl rfl ?_ ?_ | refine A_eq rfl rfl rfl ?_ ?_ | refine A_ne rfl rfl rfl ?_ ?_ | refine A_beq rfl rfl rfl ?_ ?_) <;> intro hc <;> try first | contradiction | (exfalso; omega) | exact absurd rfl hc)
 | refine A_idxN1 rfl rfl rfl (by omega) ?_ | refine A_idx1 rfl rfl rfl (by omega) ?_ | refine A_idxArr1 rfl rfl rfl (by omega) ?_
 | refine A_fld rfl rfl ?_ | refine A_mk3 rfl rfl rfl rfl ?_ | refine A_mk23 rfl rfl rfl ?_ | refine A_mk2 rfl rfl rfl ?_ | refine A_mk13 rfl rfl ?_ | refine A_p (by rfl) rfl ?_
 | refine A_ldI rfl (by first | omega | (simp; done) | (simp; omega)) rfl ?_ | refine A_ldB rfl (by first | omega | (simp; done) | (simp; omega)) rfl ?_ | refine A_ld rfl (by rfl) rfl ?_ | refine A_ldW rfl (by simp) rfl ?_
 | refine A_st rfl rfl rfl ?_ | refine A_stW rfl rfl (by simp) rfl ?_ | refine A_stE rfl rfl (by first | omega | (simp; done) | (simp; omega)) rfl ?_
 | ((first | refine A_alloc rfl ?_ | refine A_box rfl rfl ?_ | refine A_boxC rfl rfl ?_ | refine A_makeN rfl rfl rfl (by omega) ?_ | refine A_make rfl rfl rfl (by omega) ?_ | refine A_bld1 rfl rfl ?_ | refine A_bld2 rfl rfl rfl ?_ | refine A_bld4 rfl rfl rfl rfl rfl ?_) <;> intro pz hpz)
 | refine A_bld0 rfl ?_ | (refine A_app rfl rfl rfl (by first | omega | (simp; done) | (simp; omega)) (by first | omega | (simp; done) | (simp; omega)) (by omega) ?_; intro pz) | (refine A_appN (enc := ic) rfl (by decide) rfl rfl (by first | omega | (simp; done) | (simp; omega)) (by omega) ?_; intro pz)
 | refine A_chk1 rfl rfl rfl ?_ | refine A_chk2 rfl rfl rfl rfl ?_ | refine A_chk3 rfl rfl rfl rfl rfl ?_ | refine A_chk4 rfl rfl rfl rfl rfl rfl ?_ | refine A_chkI rfl (by assumption) rfl (by simp) ?_
 | refine A_ret1 rfl (by first | exact (RP.t rfl RP.nil) | exact (RP.c rfl inferInstance rfl (by simp) RP.nil)) ?_ | refine A_ret rfl (by first | exact (RP.t rfl (RP.t rfl RP.nil)) | exact (RP.c rfl inferInstance rfl (by simp) (RP.t rfl RP.nil)) | exact (RP.t rfl (RP.t rfl (RP.t rfl RP.nil))) | exact (RP.c rfl inferInstance rfl (by simp) (RP.t rfl (RP.t rfl RP.nil))) | exact (RP.c rfl inferInstance rfl (by simp) (RP.t rfl (RP.t rfl (RP.t rfl (RP.t rfl RP.nil)))))) ?_ | refine A_ret0 rfl ?_)
      refine A_round rfl [q, ps, p] (m - 1) (by omega) ?_
      refine ⟨p, n, cs, bs, rfl, rfl, hn, hbl, hw.next (fun q hq => ?_), hin, by omega, by omega⟩
      rw [List.take_of_length_le (by omega)]; exact hq

end Go.Proofs.Ytkeabhhndcpejaa
