/- Lists of lists among the arguments. -/
import Derived.Test.YtafdjnhlhepibaaXmat
import Derived.Test.YtafdjnhlhepibaaFB
import Derived.ProofKit
import Derived.Deep.Matrix
namespace Go.Proofs.Ytafdjnhlhepibaa
open Go Go.RowKit
set_option linter.unusedVariables false
set_option linter.unusedSimpArgs false
set_option maxRecDepth 100000
set_option maxHeartbeats 8000000


/-- A slice of slices of numbers, as a row tells of it. -/
def IsMat (k : IntKind) (w : World) (a : Option Addr) (len cap : Nat) (A : Nat → Option Addr) (Ln Cp : Nat → Nat) (Z : Nat → List Int) : Prop :=
  (∀ r, r < len → IsRow k w (A r) (Ln r) (Cp r) (Z r)) ∧ ((a = none ∧ len = 0 ∧ cap = 0) ∨ ∃ x, a = some x ∧ (0 < cap → x.block < w.heap.size ∧ x.spot = none) ∧ len ≤ cap ∧ cap ≤ maxLen ∧ ∀ r, r < len → w.cell? (x.add r) = some (.slice (A r) (Ln r) (Cp r)))
theorem lt_of_cell {w : World} {x : Addr} {v : Value} (h : w.cell? x = some v) : x.block < w.heap.size ∧ x.spot = none := by
  simp only [World.cell?] at h
  split at h
  · rename_i hh
    refine ⟨(Array.getElem?_eq_some_iff.1 hh).1, ?_⟩
    split at h
    · cases h
    · rename_i hsp; cases hx : x.spot <;> simp [hx] at hsp ⊢
  · cases h
theorem mat_of {H : Type} {enc : TypeId × Value → H} {P : Program} {w : World} {t e q : TypeId} {k : IntKind} {fuel : Nat} {a : Option Addr} {len cap : Nat} {x : DataW H × List MemPlace} (ht : P.underlying t = some (.slice e)) (he : P.underlying e = some (.slice q)) (hq : P.underlying q = some (.int k)) (ce : P.cellsOf e = 1) (cq : P.cellsOf q = 1)
    (hf : DataW.trod enc P w 0 (fun _ => true) true fuel t (Value.slice a len cap).cells.toList = some x) : ∃ A Ln Cp Z, IsMat k w a len cap A Ln Cp Z := by
  rcases Go.Deep.open_int_rows ht he hq ce cq hf with ⟨hcs, _⟩ | ⟨y, l, c, A, Ln, Cp, Z, hcs, _, hl, hm, _, hr⟩
  · simp [Value.cells] at hcs
    obtain ⟨rfl, rfl, rfl⟩ := hcs
    exact ⟨fun _ => none, fun _ => 0, fun _ => 0, fun _ => [], fun r hr => by omega, .inl ⟨rfl, rfl, rfl⟩⟩
  · simp [Value.cells] at hcs
    obtain ⟨rfl, rfl, rfl⟩ := hcs
    refine ⟨A, Ln, Cp, Z, fun r hrl => ?_, .inr ⟨y, rfl, fun h0 => ?_, hl, hm, fun r hrl => (hr r (by omega)).1⟩⟩
    · obtain ⟨h1, h2, h3, h4, h5, h6, h7⟩ := hr r (by omega)
      cases hA : A r with
      | none =>
        have hc := h6 hA
        refine .inl ⟨rfl, by omega, hc, ?_⟩
        exact List.length_eq_zero_iff.1 (by omega)
      | some a' =>
        obtain ⟨_, h8⟩ := h7 a' hA
        refine .inr ⟨a', rfl, fun h0 => (lt_of_cell (h8 0 h0)).1, h2, h3, h4, fun i hi => h8 i (by omega), h5⟩
    · have := lt_of_cell (hr 0 (by omega)).1
      simp only [Addr.add, if_true] at this
      exact this
theorem ArgAll.keep {s s' : St} {zs : List Row} (h : ArgAll s zs) (k : Keep s s') : ArgAll s' zs := ⟨fun z hz => (h.h z hz).keep k⟩
/-- The lists of a row, one after another. -/
theorem add_rows {W : World} {k : IntKind} (hk : k = .i64) {A : Nat → Option Addr} {Ln Cp : Nat → Nat} {Z : Nat → List Int} : ∀ (n : Nat) (ρ : Rho) (s : St), Sim W.heap.size ρ s.h W → s.WF → (∀ r, r < n → IsRow k W (A r) (Ln r) (Cp r) (Z r)) →
    ∃ ρ' s' zs, Ext ρ ρ' ∧ Keep s s' ∧ s'.WF ∧ Sim W.heap.size ρ' s'.h W ∧ zs.length = n ∧ (∀ r, r < n → CRel ρ' (rc (zs.getD r Row.nil)) (.slice (A r) (Ln r) (Cp r))) ∧ ArgAll s' zs ∧ RowsOk zs ∧ ∀ z ∈ zs, z.len ≤ 9223372036854775807
  | 0, ρ, s, hs, hw, _ => ⟨ρ, s, [], Ext.refl _, Keep.refl _, hw, hs, rfl, (fun r hr => by omega), ⟨fun z hz => by cases hz⟩, (fun z hz => by cases hz), fun z hz => by cases hz⟩
  | n + 1, ρ, s, hs, hw, hr => by
    subst hk
    obtain ⟨ρ1, s1, zs, e1, k1, w1, m1, hl, hc, ha, ho, hbz⟩ := add_rows rfl n ρ s hs hw fun r h => hr r (by omega)
    obtain ⟨ρ2, s2, id, e2, k2, w2, m2, c2, r2, _, l2, b2⟩ := add_row m1 w1 (hr n (by omega))
    refine ⟨ρ2, s2, zs ++ [⟨id, 0, Ln n, (Z n).take (Ln n)⟩], e1.trans e2, k1.trans k2, w2, m2, by simp [hl], fun r h => ?_, ⟨fun z hz => ?_⟩, ho.append (.one l2.symm), fun z hz => ?_⟩
    · by_cases e : r = n
      · subst e; rw [getD_app_len hl]; exact c2
      · have : (zs ++ [(⟨id, 0, Ln n, (Z n).take (Ln n)⟩ : Row)]).getD r Row.nil = zs.getD r Row.nil := by
          rw [List.getD_eq_getElem?_getD, List.getD_eq_getElem?_getD, List.getElem?_append_left (by omega)]
        rw [this]; exact (hc r (by omega)).mono e2
    · rcases List.mem_append.1 hz with g | g
      · exact (ha.keep k2).h z g
      · obtain rfl := List.mem_singleton.1 g; exact r2
    · rcases List.mem_append.1 hz with g | g
      · exact hbz z g
      · obtain rfl := List.mem_singleton.1 g; exact b2
/-- One more slice of slices of numbers. -/
theorem add_mat {W : World} {ρ : Rho} {s : St} (hs : Sim W.heap.size ρ s.h W) (hw : s.WF) {a : Option Addr} {len cap : Nat} {A : Nat → Option Addr} {Ln Cp : Nat → Nat} {Z : Nat → List Int} (hr : IsMat .i64 W a len cap A Ln Cp Z) :
    ∃ ρ' s' id zs, Ext ρ ρ' ∧ Keep s s' ∧ s'.WF ∧ Sim W.heap.size ρ' s'.h W ∧ CRel ρ' (.sl id 0 len) (.slice a len cap) ∧ ArgE rc s' id 0 zs ∧ ArgAll s' zs ∧ RowsOk zs ∧ (∀ z ∈ zs, z.len ≤ 9223372036854775807) ∧ zs.length = len ∧ len ≤ 9223372036854775807 := by
  obtain ⟨hrows, hr⟩ := hr
  obtain ⟨ρ1, s1, zs, e1, k1, w1, m1, hl, hc, ha, ho, hbz⟩ := add_rows rfl len ρ s hs hw hrows
  rcases hr with ⟨rfl, rfl, rfl⟩ | ⟨x, rfl, hb, hlc, hm, hcell⟩
  · obtain rfl : zs = [] := List.length_eq_zero_iff.1 hl
    exact ⟨ρ1, s1, 0, [], e1, k1, w1, m1, .nilS, ⟨by have := w1.2; omega, rfl⟩, ha, ho, hbz, rfl, by omega⟩
  · by_cases h0 : cap = 0
    · obtain rfl : len = 0 := by omega
      subst h0
      obtain rfl : zs = [] := List.length_eq_zero_iff.1 hl
      exact ⟨ρ1, s1, 1, [], e1, k1, w1, m1, .emp _, ⟨by have := w1.2; omega, rfl⟩, ha, ho, hbz, rfl, by omega⟩
    · obtain ⟨hb1, hspot⟩ := hb (by omega)
      have hx : x = ⟨x.block, x.off, none⟩ := by cases x; simp at hspot; simp [hspot]
      have hadd : ∀ i, x.add i = ⟨x.block, x.off + i, none⟩ := fun i => by rw [hx]; exact add_lit _ _ _
      have hn := w1.1 s1.n (Nat.le_refl _)
      have hx2 := rset_ext (L := ⟨x.block, x.off, cap, 1⟩) (m1.none_of hn)
      refine ⟨rset ρ1 s1.n ⟨x.block, x.off, cap, 1⟩, s1.new (some (.ro 1 (zs.map rc))), s1.n, zs, e1.trans hx2, k1.new _, (new_good w1 _).wf, ?_, ?_, ⟨by simp [St.new], ?_⟩, ha.keep ((Keep.refl s1).new _), ho, hbz, hl, by simp [maxLen] at hm ⊢; omega⟩
      · refine m1.addRo hn ⟨rfl, hb1, fun j y hy => ?_⟩
        rw [List.getElem?_map] at hy
        obtain ⟨z, hz1, rfl⟩ := Option.map_eq_some_iff.1 hy
        have hlt := (List.getElem?_eq_some_iff.1 hz1).1
        have h1 := hcell j (by omega)
        rw [hadd] at h1
        refine ⟨_, h1, ?_⟩
        have h2 := hc j (by omega)
        rw [List.getD_eq_getElem?_getD, hz1] at h2
        exact h2.mono hx2
      · have := CRel.sl (ρ := rset ρ1 s1.n ⟨x.block, x.off, cap, 1⟩) (id := s1.n) (off := 0) (len := len) (cap := cap) (L := ⟨x.block, x.off, cap, 1⟩) w1.2 (by simp [rset]) hlc (fun _ => rfl)
        rw [hx]; exact this
      · have h2 := w1.2
        simp only [srcCells]
        rw [if_neg (by omega)]
        simp only [cellsAt, cellsOf, St.new, upd_eq, Option.bind_some, Nat.mul_one]
        have c := cut_all (cs := zs.map rc)
        rw [List.length_map] at c; exact c

end Go.Proofs.Ytafdjnhlhepibaa
