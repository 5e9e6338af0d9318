/- Maps: their rules, and sets of numbers kept in them. -/
import Derived.Test.YtlmbgaoeplffkaaXbase
import Derived.Test.YtlmbgaoeplffkaaFB
namespace Go.Proofs.Ytlmbgaoeplffkaa
open Go Go.RowKit
set_option linter.unusedVariables false
set_option linter.unusedSimpArgs false
set_option maxRecDepth 100000
set_option maxHeartbeats 8000000

section
variable {B : List Nat} {b : St} {L L' : Objs} {l : List AStep} {hist : List Objs} {fr : Frm} {k : KK} {d : Nat} {chk : List Nat} {g : Option (Nat × Bool)}
theorem Own.mapAt {s : St} (H : Own B b s L) {id : Nat} {kv : List (AC × AC)} (hh : Has L id (.map kv)) : s.h id = some (.map kv) := by
  obtain ⟨i, hi⟩ := hh.ex
  exact ((H.obj i id _ hi).resolve_right (fun h => by obtain ⟨_, t, e, h⟩ := h; cases h)).2.2.2
theorem A_mlen {x : Opd} {id : Nat} {kv : List (AC × AC)} (hx : ev fr x = some (.c (.mp id))) [hh : Has L id (.map kv)] (hg : gon fr g = some true) (h : At B b L l hist ((d, iv kv.length) :: fr) k) : At B b L (⟨some d, .mlen x, g, []⟩ :: l) hist fr k :=
  .same (fun s hs K H h => O_r (by simp only [evR, hx, Option.bind_some, asMp, H.mapAt hh]) hg h) h
theorem A_look {ks : Bool} {z key : AC} {x y : Opd} {id : Nat} {kv : List (AC × AC)} {r : Option AC} (hx : ev fr x = some (.c (.mp id))) (hy : ev fr y = some (.c key)) [hh : Has L id (.map kv)] (hr : scanKV ks key kv = some r) (hg : gon fr g = some true)
    (h : At B b L l hist ((d, .c (r.getD z)) :: fr) k) : At B b L (⟨some d, .lookup ks false z x y, g, []⟩ :: l) hist fr k :=
  .same (fun s hs K H h => O_r (by simp only [evR, hx, hy, Option.bind_some, asMp, asC, H.mapAt hh, hr, Option.map_some]; rfl) hg h) h
theorem A_lookB {ks : Bool} {z key : AC} {x y : Opd} {id : Nat} {kv : List (AC × AC)} {r : Option AC} (hx : ev fr x = some (.c (.mp id))) (hy : ev fr y = some (.c key)) [hh : Has L id (.map kv)] (hr : scanKV ks key kv = some r) (hg : gon fr g = some true)
    (h : At B b L l hist ((d, .tup [.c (r.getD z), .c (.bool r.isSome)]) :: fr) k) : At B b L (⟨some d, .lookup ks true z x y, g, []⟩ :: l) hist fr k :=
  .same (fun s hs K H h => O_r (by simp only [evR, hx, hy, Option.bind_some, asMp, asC, H.mapAt hh, hr, Option.map_some]; rfl) hg h) h
theorem A_mset {ks : Bool} {x y v : Opd} {id : Nat} {kv kv' : List (AC × AC)} {key val : AC} (hx : ev fr x = some (.c (.mp id))) (hy : ev fr y = some (.c key)) (hv : ev fr v = some (.c val)) [hh : Has L id (.map kv)] (hs : setKV ks key val kv = some kv') [hu : Upd L id (.map kv') (.map kv) L'] (hg : gon fr g = some true)
    (h : At B b L' l (hist ++ [L]) fr k) : At B b L (⟨none, .mapSet ks x y v, g, chk⟩ :: l) hist fr k :=
  .put (p := id) (o := .map kv) (o' := .map kv') (fun t e he => by cases he) (fun s hs' K H ho h => O_h0 (ov := none) (by simp only [evH, hx, hy, hv, Option.bind_some, asMp, asC, ho, hs, Option.map_some]) hg h) h
end
/-- Sets of numbers. -/
abbrev st1 (n : Int) : AC × AC := (ic n, .bool true)
def ins (ks : List Int) (n : Int) : List Int := if n ∈ ks then ks else ks ++ [n]
theorem scan_st {n : Int} : ∀ {ks : List Int}, scanKV false (ic n) (ks.map st1) = some (if n ∈ ks then some (.bool true) else none)
  | [] => rfl
  | a :: ks => by
    rw [List.map_cons, scanKV, sameKey, if_pos rfl]
    by_cases h : n = a
    · subst h; simp
    · have e : (n == a) = false := by simp [h]
      rw [e]
      simp only [scan_st, List.mem_cons, h, false_or]
theorem set_st {n : Int} : ∀ {ks : List Int}, setKV false (ic n) (.bool true) (ks.map st1) = some ((ins ks n).map st1)
  | [] => rfl
  | a :: ks => by
    rw [List.map_cons, setKV, sameKey, if_pos rfl]
    by_cases h : n = a
    · subst h; simp [ins]
    · have e : (n == a) = false := by simp [h]
      rw [e]
      simp only [set_st, Option.map_some, ins, List.mem_cons, h, false_or]
      split <;> simp
theorem ins_mem {ks : List Int} {n m : Int} : m ∈ ins ks n ↔ m = n ∨ m ∈ ks := by
  unfold ins
  by_cases h : n ∈ ks
  · rw [if_pos h]
    exact ⟨.inr, fun g => g.elim (fun e => e ▸ h) id⟩
  · rw [if_neg h]; simp [or_comm]
theorem ins_len {ks : List Int} {n : Int} : (ins ks n).length = if n ∈ ks then ks.length else ks.length + 1 := by
  unfold ins; split <;> simp

end Go.Proofs.Ytlmbgaoeplffkaa
