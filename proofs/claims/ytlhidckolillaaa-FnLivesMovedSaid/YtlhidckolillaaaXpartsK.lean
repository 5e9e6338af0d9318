/- Parts of a loop's body, one behind the other. -/
import Derived.Test.YtlhidckolillaaaXshifts
import Derived.Test.YtlhidckolillaaaFB
namespace Go.Proofs.Ytlhidckolillaaa
open Go Go.RowKit
set_option linter.unusedVariables false
set_option linter.unusedSimpArgs false
set_option maxRecDepth 100000
set_option maxHeartbeats 8000000


def blc3 : ACode → ACode
  | .seq (.seq _ c) _ => c
  | c => c
def bodyX : ACode → ACode
  | .block _ (.loop _ (.seq _ (.seq (.block _ x) _))) => x
  | c => c
def headX : ACode → ACode
  | .block _ (.loop _ (.seq h _)) => h
  | c => c
def hdc : ACode → ACode
  | .seq a _ => a
  | c => c
theorem A_seqK {B : List Nat} {b : St} {L : Objs} {hist : List Objs} {fr : Frm} {a c : ACode} {k : KK} (h : At B b L [] [] fr (.thn a (.thn c k))) : At B b L [] hist fr (.thn (.seq a c) k) :=
  .nil fun s H => C_seq ((h.thn H).mono fun o fr' s' hq => ⟨by cases o <;> exact hq⟩)
theorem A_blkK {B : List Nat} {b : St} {L : Objs} {hist : List Objs} {fr : Frm} {a : ACode} {id : Nat} {k : KK} (h : At B b L [] [] fr (.thn a (.blk id k))) : At B b L [] hist fr (.thn (.block id a) k) :=
  .nil fun s H => C_block ((h.thn H).mono fun o fr' s' hq => ⟨by
    cases o with
    | normal => exact hq
    | ret => exact hq
    | exit i =>
      by_cases e : i = id
      · subst e
        rw [if_pos rfl]
        have e2 : exitTo i (.exit i) = .normal := by simp [exitTo]
        have h2 : KQ B b k (exitTo i (.exit i)) fr' s' := hq
        rw [e2] at h2; exact h2
      · rw [if_neg (fun g => e (by cases g; rfl))]
        have e2 : exitTo id (.exit i) = .exit i := by
          cases hb : Nat.beq i id with
          | true => exact absurd (Nat.eq_of_beq_eq_true hb) e
          | false => unfold exitTo; simp only [hb, cond_false]
        have h2 : KQ B b k (exitTo id (.exit i)) fr' s' := hq
        rw [e2] at h2; exact h2⟩)
theorem A_skipK {B : List Nat} {b : St} {L : Objs} {hist : List Objs} {fr : Frm} {k : KK} (h : At B b L [] [] fr k) : At B b L [] hist fr (.thn .skip k) :=
  .nil fun s H => C_skip (by
    obtain ⟨fr', s', e, c⟩ := (h.ok s [] H .nil).ex
    cases e; exact c)

end Go.Proofs.Ytlhidckolillaaa
