/- Part 1 of the proof of FnExactIsTurnTable: texts joined. -/
import Derived.Test.YthdaoanapklaiaaZFnExactIsTurnTable0
import Derived.Test.YthdaoanapklaiaaProg
import Derived.ProofKit
/- Rules for runs of abstract code of this program. -/
namespace Go.Proofs.Ythdaoanapklaiaa
open Go Go.RowKit
set_option linter.unusedVariables false
set_option linter.unusedSimpArgs false

theorem mixed : Try.prog.follows .mixedOrders = true := by kernel_rfl

abbrev X := Ex Try.prog hints
structure wpF (f : Nat) (args : List AV) (s : St) (Q : AV → St → Prop) : Prop where
  ex : ∃ v s', X (.call f args s) (.ret v s') ∧ Q v s'
structure wpO (l : List AStep) (hist : List Heap) (fr : Frm) (s : St) (Q : Frm → St → Prop) : Prop where
  ex : ∃ fr' s', X (.ops l hist fr s) (.done fr' s') ∧ Q fr' s'
structure wpC (c : ACode) (fr : Frm) (s : St) (Q : AOut → Frm → St → Prop) : Prop where
  ex : ∃ o fr' s', X (.code c fr s) (.out o fr' s') ∧ Q o fr' s'

structure thenQ (b : ACode) (Q : AOut → Frm → St → Prop) (o : AOut) (fr : Frm) (s : St) : Prop where
  ok : match o with | .normal => wpC b fr s Q | o => Q o fr s
structure blockQ (id : Nat) (Q : AOut → Frm → St → Prop) (o : AOut) (fr : Frm) (s : St) : Prop where
  ok : Q (if o = .exit id then .normal else o) fr s
structure normQ (Q : AOut → Frm → St → Prop) (fr : Frm) (s : St) : Prop where
  ok : Q .normal fr s
structure retQ (res : List ARes) (Q : AV → St → Prop) (o : AOut) (fr : Frm) (s : St) : Prop where
  ok : (o = .normal ∨ o = .ret) ∧ ∃ v, resultV fr s.h res = some v ∧ Q v s
/-- The end of a round. -/
structure roundQ (live : List Nat) (n : Nat) (I : Nat → Frm → St → Prop) (Q : AOut → Frm → St → Prop) (o : AOut) (fr' : Frm) (s' : St) : Prop where
  ok : match o with | .normal => ∃ m, m < n ∧ I m (restr fr' live) s' | o => Q o fr' s'

section
variable {fr : Frm} {s : St} {Q : AOut → Frm → St → Prop} {K : Frm → St → Prop} {hist : List Heap} {l : List AStep} {d : Nat} {chk : List Nat} {g : Option (Nat × Bool)}

theorem wpF.mono {f : Nat} {args : List AV} {Q Q' : AV → St → Prop} (h : wpF f args s Q) (hq : ∀ v s', Q v s' → Q' v s') : wpF f args s Q' := let ⟨v, s', a, b⟩ := h.ex; ⟨v, s', a, hq _ _ b⟩
theorem wpC.mono {c : ACode} {Q' : AOut → Frm → St → Prop} (h : wpC c fr s Q) (hq : ∀ o fr' s', Q o fr' s' → Q' o fr' s') : wpC c fr s Q' := let ⟨o, fr', s', a, b⟩ := h.ex; ⟨o, fr', s', a, hq _ _ _ b⟩

theorem wpF.wf {f : Nat} {args : List AV} {Q : AV → St → Prop} (h : wpF f args s Q) (hw : s.WF) : wpF f args s fun v s' => Q v s' ∧ s'.WF := by
  obtain ⟨v, s', a, b⟩ := h.ex
  have : CallSem Try.prog 0 f args s v s' := sound mixed (drawnOk Try.prog 0) a
  exact ⟨v, s', a, b, (this hw).1.wf⟩

/-! ### code -/
theorem C_fn {f nt : Nat} {res : List ARes} {body : ACode} (hc : acode Try.prog hints f = some ⟨nt, res, body⟩) {args : List AV} {Q : AV → St → Prop} (h : wpC body (frame0 0 args) s (retQ res Q)) : wpF f args s Q := by
  obtain ⟨o, fr', s', h1, h5⟩ := h.ex
  obtain ⟨h2, v, h3, h4⟩ := h5.ok
  exact ⟨v, s', .fn hc h1 h2 h3, h4⟩
theorem C_skip (h : Q .normal fr s) : wpC .skip fr s Q := ⟨_, _, _, .skip, h⟩
theorem C_ret (h : Q .ret fr s) : wpC .ret fr s Q := ⟨_, _, _, .ret, h⟩
theorem C_exit {id : Nat} (h : Q (.exit id) fr s) : wpC (.exit id) fr s Q := ⟨_, _, _, .exit, h⟩
theorem C_ops {b : Bool} (h : wpO l [] fr s (normQ Q)) : wpC (.ops b l) fr s Q := let ⟨fr', s', a, b⟩ := h.ex; ⟨_, _, _, .ops a, b.ok⟩
theorem C_seq {a b : ACode} (h : wpC a fr s (thenQ b Q)) : wpC (.seq a b) fr s Q := by
  obtain ⟨o, fr', s', h1, ⟨h2⟩⟩ := h.ex
  cases o with
  | normal => obtain ⟨o2, fr2, s2, h3, h4⟩ := h2.ex; exact ⟨o2, fr2, s2, .seq h1 h3, h4⟩
  | exit id => exact ⟨_, _, _, .seqX h1 (by simp), h2⟩
  | ret => exact ⟨_, _, _, .seqX h1 (by simp), h2⟩
theorem C_block {id : Nat} {b : ACode} (h : wpC b fr s (blockQ id Q)) : wpC (.block id b) fr s Q := let ⟨o, fr', s', h1, h2⟩ := h.ex; ⟨_, _, _, .block h1, h2.ok⟩
theorem C_if {c : Opd} {a b : ACode} {t : Bool} (hc : ev fr c = some (bv t)) (ht : t = true → wpC a fr s Q) (hf : t = false → wpC b fr s Q) : wpC (.cond c a b) fr s Q := by
  have hb : (ev fr c).bind asB = some t := by rw [hc]; rfl
  cases t with
  | true => obtain ⟨o, fr', s', h1, h2⟩ := (ht rfl).ex; exact ⟨o, fr', s', .cond hb h1, h2⟩
  | false => obtain ⟨o, fr', s', h1, h2⟩ := (hf rfl).ex; exact ⟨o, fr', s', .cond hb h1, h2⟩
theorem C_ifT {c : Opd} {a b : ACode} (hc : ev fr c = some (bv true)) (h : wpC a fr s Q) : wpC (.cond c a b) fr s Q := C_if hc (fun _ => h) (fun h => by cases h)
theorem C_ifF {c : Opd} {a b : ACode} (hc : ev fr c = some (bv false)) (h : wpC b fr s Q) : wpC (.cond c a b) fr s Q := C_if hc (fun h => by cases h) (fun _ => h)
theorem C_ifd {c : Opd} {a b : ACode} {p : Prop} [Decidable p] (hc : ev fr c = some (bv (decide p))) (ht : p → wpC a fr s Q) (hf : ¬ p → wpC b fr s Q) : wpC (.cond c a b) fr s Q :=
  C_if hc (fun h => ht (of_decide_eq_true h)) (fun h => hf (of_decide_eq_false h))
theorem Q_norm (h : Q .normal fr s) : normQ Q fr s := ⟨h⟩
theorem Q_then {b : ACode} (h : wpC b fr s Q) : thenQ b Q .normal fr s := ⟨h⟩
theorem Q_thenE {b : ACode} {id : Nat} (h : Q (.exit id) fr s) : thenQ b Q (.exit id) fr s := ⟨h⟩
theorem Q_thenR {b : ACode} (h : Q .ret fr s) : thenQ b Q .ret fr s := ⟨h⟩
theorem Q_blockN {id : Nat} (h : Q .normal fr s) : blockQ id Q .normal fr s := ⟨h⟩
theorem Q_blockR {id : Nat} (h : Q .ret fr s) : blockQ id Q .ret fr s := ⟨h⟩
theorem Q_blockS {id : Nat} (h : Q .normal fr s) : blockQ id Q (.exit id) fr s := ⟨by simpa using h⟩
theorem Q_blockE {id id' : Nat} (hne : id' ≠ id) (h : Q (.exit id') fr s) : blockQ id Q (.exit id') fr s := ⟨by simpa [hne] using h⟩
theorem Q_ret {res : List ARes} {Q : AV → St → Prop} {v : AV} (hv : resultV fr s.h res = some v) (h : Q v s) : retQ res Q .ret fr s := ⟨.inr rfl, v, hv, h⟩
theorem Q_retN {res : List ARes} {Q : AV → St → Prop} {v : AV} (hv : resultV fr s.h res = some v) (h : Q v s) : retQ res Q .normal fr s := ⟨.inl rfl, v, hv, h⟩

/-- A loop, with a number that falls. -/
theorem C_loop {live : List Nat} {b : ACode} (I : Nat → Frm → St → Prop)
    (round : ∀ n fr s, I n fr s → wpC b fr s fun o fr' s' => match o with | .normal => ∃ m, m < n ∧ I m (restr fr' live) s' | o => Q o fr' s')
    {n : Nat} (h0 : I n (restr fr live) s) : wpC (.loop live b) fr s Q := by
  induction n using Nat.strongRecOn generalizing fr s with
  | _ n ih =>
    obtain ⟨o, fr', s', h1, h2⟩ := (round n _ _ h0).ex
    cases o with
    | normal =>
      obtain ⟨m, hm, hI⟩ := h2
      obtain ⟨o2, fr2, s2, h3, h4⟩ := (ih m hm hI).ex
      exact ⟨o2, fr2, s2, .loopN h1 h3, h4⟩
    | exit id => exact ⟨_, _, _, .loopX h1 (by simp), h2⟩
    | ret => exact ⟨_, _, _, .loopX h1 (by simp), h2⟩
theorem C_loopR {live : List Nat} {b : ACode} (I : Nat → Frm → St → Prop) (round : ∀ n fr s, I n fr s → wpC b fr s (roundQ live n I Q))
    {n : Nat} (h0 : I n (restr fr live) s) : wpC (.loop live b) fr s Q := by
  refine C_loop I (fun n fr s h => (round n fr s h).mono fun o fr' s' hq => ?_) h0
  cases o <;> exact hq.ok
theorem Q_round {live : List Nat} {n m : Nat} {I : Nat → Frm → St → Prop} (hm : m < n) (h : I m (restr fr live) s) : roundQ live n I Q .normal fr s := ⟨⟨m, hm, h⟩⟩
theorem Q_roundE {live : List Nat} {n id : Nat} {I : Nat → Frm → St → Prop} (h : Q (.exit id) fr s) : roundQ live n I Q (.exit id) fr s := ⟨h⟩
theorem Q_roundR {live : List Nat} {n : Nat} {I : Nat → Frm → St → Prop} (h : Q .ret fr s) : roundQ live n I Q .ret fr s := ⟨h⟩

/-! ### operations -/
theorem O_nil (h : K fr s) : wpO [] hist fr s K := ⟨fr, s, .nil, h⟩
theorem O_off {dst : Option Nat} {op : AOp} (hg : gon fr g = some false) (h : wpO l (if kindOf op = .h then hist ++ [s.h] else hist) (putO fr dst none) s K) : wpO (⟨dst, op, g, chk⟩ :: l) hist fr s K :=
  let ⟨fr', s', a, b⟩ := h.ex; ⟨fr', s', .off hg a, b⟩
theorem O_p {op : AOp} {v : AV} (hv : evP (ev fr) op = some v) (hg : gon fr g = some true) (h : wpO l hist ((d, v) :: fr) s K) : wpO (⟨some d, op, g, chk⟩ :: l) hist fr s K :=
  let ⟨fr', s', a, b⟩ := h.ex; ⟨fr', s', .pure hg hv a, b⟩
theorem O_r {op : AOp} {v : AV} (hv : evR (ev fr) s.h op = some v) (hg : gon fr g = some true) (h : wpO l hist ((d, v) :: fr) s K) : wpO (⟨some d, op, g, []⟩ :: l) hist fr s K :=
  let ⟨fr', s', a, b⟩ := h.ex; ⟨fr', s', .read hg hv (by simp) a, b⟩
theorem O_rc {op : AOp} {v : AV} (hv : evR (ev fr) s.h op = some v) (hc : ∀ k ∈ chk, ∃ hk, hist[k]? = some hk ∧ evR (ev fr) hk op = some v) (hg : gon fr g = some true) (h : wpO l hist ((d, v) :: fr) s K) : wpO (⟨some d, op, g, chk⟩ :: l) hist fr s K :=
  let ⟨fr', s', a, b⟩ := h.ex; ⟨fr', s', .read hg hv hc a, b⟩
theorem O_a {op : AOp} {v : AV} {oo : Option AObj} (hv : evA (ev fr) s.n op = some (v, oo)) (hg : gon fr g = some true) (h : wpO l hist ((d, v) :: fr) (s.new oo) K) : wpO (⟨some d, op, g, chk⟩ :: l) hist fr s K :=
  let ⟨fr', s', a, b⟩ := h.ex; ⟨fr', s', .new hg hv a, b⟩
theorem O_h {op : AOp} {v : AV} {h' : Heap} {n' : Nat} (hv : evH (ev fr) s.h s.n op = some (some v, h', n')) (hg : gon fr g = some true) (h : wpO l (hist ++ [s.h]) ((d, v) :: fr) ⟨h', n'⟩ K) : wpO (⟨some d, op, g, chk⟩ :: l) hist fr s K :=
  let ⟨fr', s', a, b⟩ := h.ex; ⟨fr', s', .write hg hv a, b⟩
theorem O_h0 {op : AOp} {ov : Option AV} {h' : Heap} {n' : Nat} (hv : evH (ev fr) s.h s.n op = some (ov, h', n')) (hg : gon fr g = some true) (h : wpO l (hist ++ [s.h]) fr ⟨h', n'⟩ K) : wpO (⟨none, op, g, chk⟩ :: l) hist fr s K :=
  let ⟨fr', s', a, b⟩ := h.ex; ⟨fr', s', .write hg hv a, b⟩
theorem O_call {f : Opd} {args : List Opd} {fn : Nat} {vs : List AV} {R : AV → St → Prop} (hc : callee fr f args = some (fn, vs)) (hg : gon fr g = some true) (hw : wpF fn vs s R)
    (h : ∀ v s1, R v s1 → wpO l (hist ++ [s.h]) ((d, v) :: fr) s1 K) : wpO (⟨some d, .call f args, g, chk⟩ :: l) hist fr s K := by
  obtain ⟨v, s1, h1, h2⟩ := hw.ex
  obtain ⟨fr', s', a, b⟩ := (h v s1 h2).ex
  exact ⟨fr', s', .call hg rfl hc h1 a, b⟩
theorem O_callW {f : Opd} {args : List Opd} {fn : Nat} {vs : List AV} {R : AV → St → Prop} (hc : callee fr f args = some (fn, vs)) (hg : gon fr g = some true) (hs : s.WF) (hw : wpF fn vs s R)
    (h : ∀ v s1, R v s1 → s1.WF → wpO l (hist ++ [s.h]) ((d, v) :: fr) s1 K) : wpO (⟨some d, .call f args, g, chk⟩ :: l) hist fr s K :=
  O_call hc hg (hw.wf hs) fun v s1 hr => h v s1 hr.1 hr.2
theorem O_call0 {f : Opd} {args : List Opd} {fn : Nat} {vs : List AV} {R : AV → St → Prop} (hc : callee fr f args = some (fn, vs)) (hg : gon fr g = some true) (hw : wpF fn vs s R)
    (h : ∀ v s1, R v s1 → wpO l (hist ++ [s.h]) fr s1 K) : wpO (⟨none, .call f args, g, chk⟩ :: l) hist fr s K := by
  obtain ⟨v, s1, h1, h2⟩ := hw.ex
  obtain ⟨fr', s', a, b⟩ := (h v s1 h2).ex
  exact ⟨fr', s', .call hg rfl hc h1 a, b⟩

/-! ### arithmetic that stays in its bounds -/
def in64 (n : Int) : Prop := -9223372036854775808 ≤ n ∧ n ≤ 9223372036854775807
theorem wrap_in {n : Int} (h : in64 n) : IntKind.wrap .i64 n = n := by
  unfold in64 at h
  have e : IntKind.wrap .i64 n = if n % 18446744073709551616 ≥ 9223372036854775808 then n % 18446744073709551616 - 18446744073709551616 else n % 18446744073709551616 := by
    simp [IntKind.wrap, IntKind.bits, IntKind.signed]
  rw [e]
  split <;> omega
theorem O_add {x y : Opd} {a b : Int} (hx : ev fr x = some (iv a)) (hy : ev fr y = some (iv b)) (hg : gon fr g = some true) (hb : in64 (a + b)) (h : wpO l hist ((d, iv (a + b)) :: fr) s K) : wpO (⟨some d, .bin .add x y, g, chk⟩ :: l) hist fr s K :=
  O_p (by simp only [evP, hx, hy, Option.bind_some, binV, intBin]; simp [wrap_in hb]) hg h
theorem O_sub {x y : Opd} {a b : Int} (hx : ev fr x = some (iv a)) (hy : ev fr y = some (iv b)) (hg : gon fr g = some true) (hb : in64 (a - b)) (h : wpO l hist ((d, iv (a - b)) :: fr) s K) : wpO (⟨some d, .bin .sub x y, g, chk⟩ :: l) hist fr s K :=
  O_p (by simp only [evP, hx, hy, Option.bind_some, binV, intBin]; simp [wrap_in hb]) hg h
theorem O_mul {x y : Opd} {a b : Int} (hx : ev fr x = some (iv a)) (hy : ev fr y = some (iv b)) (hg : gon fr g = some true) (hb : in64 (a * b)) (h : wpO l hist ((d, iv (a * b)) :: fr) s K) : wpO (⟨some d, .bin .mul x y, g, chk⟩ :: l) hist fr s K :=
  O_p (by simp only [evP, hx, hy, Option.bind_some, binV, intBin]; simp [wrap_in hb]) hg h
theorem O_idx {e : Nat} {x y : Opd} {id off len : Nat} {k : IntKind} {i : Int} (hx : ev fr x = some (.c (.sl id off len))) (hy : ev fr y = some (.c (.int k i))) (hg : gon fr g = some true) (hi : 0 ≤ i ∧ i < len)
    (h : wpO l hist ((d, .c (.ptr id (off + i.toNat * e))) :: fr) s K) : wpO (⟨some d, .idxA e x y, g, chk⟩ :: l) hist fr s K :=
  O_p (by simp only [evP, hx, hy, Option.bind_some, idxV]; rw [if_pos hi]) hg h
theorem O_idxArr {n e : Nat} {x y : Opd} {id off : Nat} {k : IntKind} {i : Int} (hx : ev fr x = some (.c (.ptr id off))) (hy : ev fr y = some (.c (.int k i))) (hg : gon fr g = some true) (hi : 0 ≤ i ∧ i < n)
    (h : wpO l hist ((d, .c (.ptr id (off + i.toNat * e))) :: fr) s K) : wpO (⟨some d, .idxArr n e x y, g, chk⟩ :: l) hist fr s K :=
  O_p (by simp only [evP, hx, hy, Option.bind_some, idxArrV]; rw [if_pos hi]) hg h
/-- The cell at a place. -/
def rd (h : Heap) (id off : Nat) : Option AC := (cellsOf h id).bind (·[off]?)
theorem O_load {n : Nat} {x : Opd} {id off : Nat} {v : AC} (hx : ev fr x = some (.c (.ptr id off))) (hg : gon fr g = some true) (hr : rd s.h id off = some v) (h : wpO l hist ((d, .c v) :: fr) s K) :
    wpO (⟨some d, .load false n x, g, []⟩ :: l) hist fr s K :=
  O_r (by simp only [evR, hx, Option.bind_some, asPtr]; unfold rd at hr; obtain ⟨cs, h1, h2⟩ := Option.bind_eq_some_iff.1 hr; simp [h1, h2]) hg h
theorem O_loadA {n : Nat} {x : Opd} {id off : Nat} {cs : List AC} (hx : ev fr x = some (.c (.ptr id off))) (hg : gon fr g = some true) (hr : cellsAt s.h id off n = some cs) (h : wpO l hist ((d, .agg cs) :: fr) s K) :
    wpO (⟨some d, .load true n x, g, []⟩ :: l) hist fr s K :=
  O_r (by simp only [evR, hx, Option.bind_some, asPtr, if_true, hr, Option.map_some]) hg h
theorem O_store {n : Nat} {x y : Opd} {id off t e : Nat} {cs : List AC} {p : AP} (hx : ev fr x = some (.c (.ptr id off))) (hy : ev fr y = some (.p p)) (hg : gon fr g = some true) (ho : s.h id = some (.rw t e cs)) (hl : p.cells.length = n) (hi : off + n ≤ cs.length)
    (h : wpO l (hist ++ [s.h]) fr ⟨upd s.h id (.rw t e (splice cs off p.cells)), s.n⟩ K) : wpO (⟨none, .store n x y, g, chk⟩ :: l) hist fr s K :=
  O_h0 (ov := none) (by simp only [evH, hx, hy, Option.bind_some, asPtr, asP, ho]; rw [if_pos ⟨hl, hi⟩]) hg h
end
end Go.Proofs.Ythdaoanapklaiaa

/- What is told of states: slices of whole numbers, what stays. -/
namespace Go.Proofs.Ythdaoanapklaiaa
open Go Go.RowKit
set_option linter.unusedVariables false
set_option linter.unusedSimpArgs false

structure Keep (s s' : St) : Prop where
  le : s.n ≤ s'.n
  eq : ∀ id, id < s.n → s'.h id = s.h id
theorem Keep.refl (s : St) : Keep s s := ⟨Nat.le_refl _, fun _ _ => rfl⟩
theorem Keep.trans {a b c : St} (h : Keep a b) (k : Keep b c) : Keep a c := ⟨Nat.le_trans h.le k.le, fun id hid => (k.eq id (Nat.lt_of_lt_of_le hid h.le)).trans (h.eq id hid)⟩
theorem Keep.new {a b : St} (h : Keep a b) (o : AObj) : Keep a (b.new (some o)) :=
  ⟨Nat.le_trans h.le (Nat.le_succ _), fun id hid => by have := h.le; simp only [St.new]; rw [upd_ne _ _ _ _ (by omega)]; exact h.eq id hid⟩
theorem Keep.put {a b : St} (h : Keep a b) {id : Nat} (hid : a.n ≤ id) (o : AObj) : Keep a ⟨upd b.h id o, b.n⟩ :=
  ⟨h.le, fun x hx => by simp only; rw [upd_ne _ _ _ _ (by omega)]; exact h.eq x hx⟩

/-- A slice: where it lies, and its cells. -/
structure Sl (s : St) (e : Nat) (v : AV) (n : Nat) (cs : List AC) : Prop where
  ex : ∃ id off, v = .c (.sl id off n) ∧ id < s.n ∧ srcCells s.h e (id, off, n) = some cs
theorem Sl.keep {s s' : St} {e : Nat} {v : AV} {n : Nat} {cs : List AC} (h : Sl s e v n cs) (k : Keep s s') : Sl s' e v n cs := by
  obtain ⟨id, off, h1, h2, h3⟩ := h.ex
  refine ⟨id, off, h1, Nat.lt_of_lt_of_le h2 k.le, ?_⟩
  simp only [srcCells, cellsAt, cellsOf] at h3 ⊢
  rw [k.eq id h2]; exact h3

abbrev ic (n : Int) : AC := .int .i64 n
abbrev Ints (s : St) (v : AV) (xs : List Int) : Prop := Sl s 1 v xs.length (xs.map ic)

theorem cut_get {cs ys : List AC} {off n : Nat} (h : cut cs off n = some ys) {i : Nat} (hi : i < n) : cs[off + i]? = ys[i]? ∧ ys.length = n := by
  unfold cut at h
  split at h
  · obtain rfl := Option.some.inj h
    refine ⟨by rw [List.getElem?_take, if_pos hi, List.getElem?_drop], by simp; omega⟩
  · cases h
theorem srcCells_rd {h : Heap} {e id off n : Nat} {cs : List AC} (hs : srcCells h e (id, off, n) = some cs) {i : Nat} {x : AC} (hx : cs[i]? = some x) : rd h id (off + i) = some x := by
  simp only [srcCells] at hs
  split at hs
  · split at hs
    · obtain rfl := Option.some.inj hs; simp at hx
    · cases hs
  · unfold cellsAt at hs
    obtain ⟨all, h1, h2⟩ := Option.bind_eq_some_iff.1 hs
    have hi : i < n * e := by
      have hl : cs.length = n * e := by
        unfold cut at h2; split at h2
        · obtain rfl := Option.some.inj h2; simp; omega
        · cases h2
      rw [← hl]; exact (List.getElem?_eq_some_iff.1 hx).1
    unfold rd
    rw [h1, Option.bind_some, (cut_get h2 hi).1]; exact hx
/-- A slice of whole numbers, opened. -/
theorem Sl.open {s : St} {v : AV} {xs : List Int} (h : Ints s v xs) : ∃ id off, v = .c (.sl id off xs.length) ∧ id < s.n ∧ ∀ i x, xs[i]? = some x → rd s.h id (off + i) = some (ic x) := by
  obtain ⟨id, off, h1, h2, h3⟩ := h.ex
  exact ⟨id, off, h1, h2, fun i x hx => srcCells_rd h3 (by simp [hx])⟩
theorem rd_eq {h h' : Heap} {id off : Nat} (he : h' id = h id) : rd h' id off = rd h id off := by simp only [rd, cellsOf, he]
theorem rd_of {h : Heap} {id off : Nat} {t e : Nat} {cs : List AC} (ho : h id = some (.rw t e cs)) : rd h id off = cs[off]? := by simp [rd, cellsOf, ho]
theorem Ints.own {s : St} {id t : Nat} {xs : List Int} (h2 : 2 ≤ id) (hn : id < s.n) (ho : s.h id = some (.rw t 1 (xs.map ic))) : Ints s (.c (.sl id 0 xs.length)) xs := by
  refine ⟨id, 0, rfl, hn, ?_⟩
  simp only [srcCells]
  rw [if_neg (by omega)]
  simp only [cellsAt, cellsOf, ho, Option.bind_some, cut, Nat.zero_add, Nat.mul_one, List.length_map, Nat.le_refl, if_true, List.drop_zero, Option.some.injEq]
  exact List.take_of_length_le (by simp)
theorem Ints.nil {s : St} (h : 2 ≤ s.n) : Ints s (.c (.sl 0 0 0)) [] := ⟨0, 0, rfl, by omega, rfl⟩

section
variable {fr : Frm} {s : St} {Q : AOut → Frm → St → Prop} {K : Frm → St → Prop} {hist : List Heap} {l : List AStep} {d : Nat} {chk : List Nat} {g : Option (Nat × Bool)}
theorem O_idxN {e : Nat} {x y : Opd} {id off len : Nat} {k : IntKind} {i : Nat} (hx : ev fr x = some (.c (.sl id off len))) (hy : ev fr y = some (.c (.int k (i : Int)))) (hg : gon fr g = some true) (hi : i < len)
    (h : wpO l hist ((d, .c (.ptr id (off + i * e))) :: fr) s K) : wpO (⟨some d, .idxA e x y, g, chk⟩ :: l) hist fr s K :=
  O_idx hx hy hg (by omega) (by simpa using h)
/-- 'make' of slices of one-celled elements. -/
theorem O_make {t b : Nat} {z : AC} {x y : Opd} {k k' : IntKind} {n : Nat} (hx : ev fr x = some (.c (.int k (n : Int)))) (hy : ev fr y = some (.c (.int k' (n : Int)))) (hg : gon fr g = some true) (hb : (b : Int) * n ≤ 140737488355328 ∧ (n : Int) ≤ 4611686018427387904)
    (h : wpO l hist ((d, .c (.sl s.n 0 n)) :: fr) (s.new (some (.rw t 1 (List.replicate n z)))) K) : wpO (⟨some d, .makeS t 1 b [z] x y, g, chk⟩ :: l) hist fr s K := by
  refine O_a (oo := some (.rw t 1 (List.replicate n z))) ?_ hg h
  simp only [evA, hx, hy, Option.bind_some, asI]
  rw [if_pos ⟨by omega, trivial, hb.1, hb.2⟩]
  simp
theorem O_store1 {x y : Opd} {id off t e : Nat} {cs : List AC} {v : AC} (hx : ev fr x = some (.c (.ptr id off))) (hy : ev fr y = some (.c v)) (hg : gon fr g = some true) (ho : s.h id = some (.rw t e cs)) (hi : off < cs.length)
    (h : wpO l (hist ++ [s.h]) fr ⟨upd s.h id (.rw t e (cs.set off v)), s.n⟩ K) : wpO (⟨none, .store 1 x y, g, chk⟩ :: l) hist fr s K := by
  refine O_store (p := .c v) hx hy hg ho rfl (by omega) ?_
  have : splice cs off [v] = cs.set off v := by
    unfold splice
    rw [List.set_eq_take_append_cons_drop, if_pos hi]; simp
  simp only [AP.cells, this]; exact h

/-! ### comparisons: both ways at once -/
theorem cmp_aux {op : BinOp} {x y : Opd} {k : IntKind} {a b : Int} {t : Bool} (hx : ev fr x = some (.c (.int k a))) (hy : ev fr y = some (.c (.int k b))) (hv : intBin op k a k b = some (.bool t)) : evP (ev fr) (.bin op x y) = some (bv t) := by
  simp only [evP, hx, hy, Option.bind_some, binV, hv, Option.map_some]
theorem O_lt {x y : Opd} {k : IntKind} {a b : Int} (hx : ev fr x = some (.c (.int k a))) (hy : ev fr y = some (.c (.int k b))) (hg : gon fr g = some true)
    (h1 : a < b → wpO l hist ((d, bv true) :: fr) s K) (h2 : b ≤ a → wpO l hist ((d, bv false) :: fr) s K) : wpO (⟨some d, .bin .lss x y, g, chk⟩ :: l) hist fr s K := by
  by_cases h : a < b
  · exact O_p (cmp_aux hx hy (by simp [intBin, h])) hg (h1 h)
  · exact O_p (cmp_aux hx hy (t := false) (by simp [intBin]; omega)) hg (h2 (by omega))
theorem O_le {x y : Opd} {k : IntKind} {a b : Int} (hx : ev fr x = some (.c (.int k a))) (hy : ev fr y = some (.c (.int k b))) (hg : gon fr g = some true)
    (h1 : a ≤ b → wpO l hist ((d, bv true) :: fr) s K) (h2 : b < a → wpO l hist ((d, bv false) :: fr) s K) : wpO (⟨some d, .bin .leq x y, g, chk⟩ :: l) hist fr s K := by
  by_cases h : a ≤ b
  · exact O_p (cmp_aux hx hy (by simp [intBin, h])) hg (h1 h)
  · exact O_p (cmp_aux hx hy (t := false) (by simp [intBin]; omega)) hg (h2 (by omega))
theorem O_gt {x y : Opd} {k : IntKind} {a b : Int} (hx : ev fr x = some (.c (.int k a))) (hy : ev fr y = some (.c (.int k b))) (hg : gon fr g = some true)
    (h1 : b < a → wpO l hist ((d, bv true) :: fr) s K) (h2 : a ≤ b → wpO l hist ((d, bv false) :: fr) s K) : wpO (⟨some d, .bin .gtr x y, g, chk⟩ :: l) hist fr s K := by
  by_cases h : b < a
  · exact O_p (cmp_aux hx hy (by simp [intBin, h])) hg (h1 h)
  · exact O_p (cmp_aux hx hy (t := false) (by simp [intBin]; omega)) hg (h2 (by omega))
theorem O_ge {x y : Opd} {k : IntKind} {a b : Int} (hx : ev fr x = some (.c (.int k a))) (hy : ev fr y = some (.c (.int k b))) (hg : gon fr g = some true)
    (h1 : b ≤ a → wpO l hist ((d, bv true) :: fr) s K) (h2 : a < b → wpO l hist ((d, bv false) :: fr) s K) : wpO (⟨some d, .bin .geq x y, g, chk⟩ :: l) hist fr s K := by
  by_cases h : b ≤ a
  · exact O_p (cmp_aux hx hy (by simp [intBin, h])) hg (h1 h)
  · exact O_p (cmp_aux hx hy (t := false) (by simp [intBin]; omega)) hg (h2 (by omega))
theorem O_eq {x y : Opd} {k : IntKind} {a b : Int} (hx : ev fr x = some (.c (.int k a))) (hy : ev fr y = some (.c (.int k b))) (hg : gon fr g = some true)
    (h1 : a = b → wpO l hist ((d, bv true) :: fr) s K) (h2 : a ≠ b → wpO l hist ((d, bv false) :: fr) s K) : wpO (⟨some d, .bin .eql x y, g, chk⟩ :: l) hist fr s K := by
  by_cases h : a = b
  · exact O_p (cmp_aux hx hy (by simp [intBin, h])) hg (h1 h)
  · exact O_p (cmp_aux hx hy (t := false) (by simp [intBin, h])) hg (h2 h)
theorem O_ne {x y : Opd} {k : IntKind} {a b : Int} (hx : ev fr x = some (.c (.int k a))) (hy : ev fr y = some (.c (.int k b))) (hg : gon fr g = some true)
    (h1 : a ≠ b → wpO l hist ((d, bv true) :: fr) s K) (h2 : a = b → wpO l hist ((d, bv false) :: fr) s K) : wpO (⟨some d, .bin .neq x y, g, chk⟩ :: l) hist fr s K := by
  by_cases h : a = b
  · exact O_p (cmp_aux hx hy (t := false) (by simp [intBin, h])) hg (h2 h)
  · exact O_p (cmp_aux hx hy (by simp [intBin, h])) hg (h1 h)
theorem O_not {x : Opd} {b : Bool} (hx : ev fr x = some (bv b)) (hg : gon fr g = some true) (h : wpO l hist ((d, bv (!b)) :: fr) s K) : wpO (⟨some d, .un .not x, g, chk⟩ :: l) hist fr s K :=
  O_p (by simp only [evP, hx, Option.bind_some, unV, if_true]) hg h
theorem O_beqT {neg : Bool} {x y : Opd} {b : Bool} (hx : ev fr x = some (bv b)) (hy : ev fr y = some (bv b)) (hg : gon fr g = some true) (h : wpO l hist ((d, bv neg.not) :: fr) s K) : wpO (⟨some d, .beq neg x y, g, chk⟩ :: l) hist fr s K :=
  O_p (by simp only [evP, hx, hy, Option.bind_some, beqV]; cases neg <;> simp) hg h
/-- 'x[:i]' -/
theorem O_sliceTo {e : Nat} {x y : Opd} {id off len : Nat} {k : IntKind} {i : Nat} (hx : ev fr x = some (.c (.sl id off len))) (hy : ev fr y = some (.c (.int k (i : Int)))) (hg : gon fr g = some true) (hi : i ≤ len)
    (h : wpO l hist ((d, .c (.sl id off i)) :: fr) s K) : wpO (⟨some d, .slice e x none (some y), g, chk⟩ :: l) hist fr s K := by
  refine O_p ?_ hg h
  simp only [evP, hx, hy, Option.bind_some, optI, asI, Option.map_some, sliceV, Option.getD_none, Option.getD_some]
  rw [if_pos ⟨by omega, by omega, by omega, by simp⟩]
  simp
end
theorem Ints.takeN {s : St} {id off n : Nat} {xs : List Int} (h : Ints s (.c (.sl id off xs.length)) xs) (hn : n ≤ xs.length) : Ints s (.c (.sl id off n)) (xs.take n) := by
  obtain ⟨id', off', h1, h2, h3⟩ := h.ex
  simp only [AV.p.injEq, AP.c.injEq, AC.sl.injEq] at h1
  obtain ⟨rfl, rfl, _⟩ := h1
  refine ⟨id, off, by simp [Nat.min_eq_left hn], h2, ?_⟩
  simp only [srcCells] at h3 ⊢
  split at h3
  · rename_i hid
    rw [if_pos hid]
    split at h3
    · rename_i hl; simp at hl; simp [hl]
    · cases h3
  · rename_i hid
    rw [if_neg hid]
    unfold cellsAt at h3 ⊢
    obtain ⟨all, h4, h5⟩ := Option.bind_eq_some_iff.1 h3
    rw [h4, Option.bind_some]
    unfold cut at h5 ⊢
    split at h5
    · rename_i hle
      have h6 := Option.some.inj h5
      simp only [List.length_take, Nat.min_eq_left hn, Nat.mul_one] at hle h6 ⊢
      rw [if_pos (by omega), List.map_take, ← h6, List.take_take, Nat.min_eq_left hn]
    · cases h5

/-- The truth of a sentence. -/
noncomputable def tt (p : Prop) : Bool := @decide p (Classical.propDecidable p)
theorem tt_t {p : Prop} (h : p) : tt p = true := by simp [tt, h]
theorem tt_f {p : Prop} (h : ¬ p) : tt p = false := by simp [tt, h]
theorem bv_t {p : Prop} (h : p) : bv true = bv (tt p) := by rw [tt_t h]
theorem bv_f {p : Prop} (h : ¬ p) : bv false = bv (tt p) := by rw [tt_f h]
end Go.Proofs.Ythdaoanapklaiaa

/- What a function has laid itself: told as one list. -/
namespace Go.Proofs.Ythdaoanapklaiaa
open Go Go.RowKit
set_option linter.unusedVariables false
set_option linter.unusedSimpArgs false

abbrev Objs := List (Nat × AObj)
/-- 'b': the state in which the function began; 's': now; 'L': what it has laid since and can change. -/
structure Own (b s : St) (L : Objs) : Prop where
  wf : s.WF
  keep : Keep b s
  obj : ∀ (i : Nat) p o, L[i]? = some (p, o) → b.n ≤ p ∧ p < s.n ∧ s.h p = some o
  inj : ∀ (i j : Nat) p o q o', L[i]? = some (p, o) → L[j]? = some (q, o') → i ≠ j → p ≠ q

theorem Own.start {s : St} (h : s.WF) : Own s s [] := ⟨h, Keep.refl s, fun i p o h => by simp at h, fun i j p o q o' h => by simp at h⟩
theorem Own.le {b s : St} {L : Objs} (H : Own b s L) : b.n ≤ s.n := H.keep.le
theorem Own.two {b s : St} {L : Objs} (H : Own b s L) : 2 ≤ s.n := H.wf.2

/-- Something is laid. -/
theorem Own.new {b s : St} {L : Objs} (H : Own b s L) (o : AObj) : Own b (s.new (some o)) ((s.n, o) :: L) := by
  refine ⟨(new_good H.wf _).wf, H.keep.new o, fun i p o' h => ?_, fun i j p o1 q o2 h1 h2 hne => ?_⟩
  · cases i with
    | zero => simp at h; obtain ⟨rfl, rfl⟩ := h; exact ⟨H.le, by simp [St.new], by simp [St.new, upd_eq]⟩
    | succ i =>
      have := H.obj i p o' (by simpa using h)
      refine ⟨this.1, by simp only [St.new]; omega, ?_⟩
      simp only [St.new]; rw [upd_ne _ _ _ _ (by omega)]; exact this.2.2
  · cases i with
    | zero =>
      cases j with
      | zero => exact absurd rfl hne
      | succ j => simp at h1; obtain ⟨rfl, rfl⟩ := h1; have := H.obj j q o2 (by simpa using h2); omega
    | succ i =>
      cases j with
      | zero => simp at h2; obtain ⟨rfl, rfl⟩ := h2; have := H.obj i p o1 (by simpa using h1); omega
      | succ j => exact H.inj i j p o1 q o2 (by simpa using h1) (by simpa using h2) (by omega)
/-- Something is written. -/
theorem Own.put {b s : St} {L : Objs} (H : Own b s L) {i p : Nat} {o : AObj} (hi : L[i]? = some (p, o)) (o' : AObj) : Own b ⟨upd s.h p o', s.n⟩ (L.set i (p, o')) := by
  have hp := H.obj i p o hi
  have hlt := (List.getElem?_eq_some_iff.1 hi).1
  have at_ : ∀ (j q : Nat) oq, (L.set i (p, o'))[j]? = some (q, oq) → (j = i ∧ q = p ∧ oq = o') ∨ (j ≠ i ∧ L[j]? = some (q, oq)) := fun j q oq h => by
    rw [List.getElem?_set] at h
    by_cases e : i = j
    · subst e; simp [hlt] at h; exact .inl ⟨rfl, h.1.symm, h.2.symm⟩
    · rw [if_neg e] at h; exact .inr ⟨fun e' => e e'.symm, h⟩
  refine ⟨⟨fun id hid => ?_, H.wf.2⟩, H.keep.put hp.1 o', fun j q oq h => ?_, fun j1 j2 q1 o1 q2 o2 h1 h2 hne => ?_⟩
  · simp only at hid ⊢; rw [upd_ne _ _ _ _ (by omega)]; exact H.wf.1 id hid
  · rcases at_ j q oq h with ⟨rfl, rfl, rfl⟩ | ⟨hne, h⟩
    · exact ⟨hp.1, hp.2.1, upd_eq _ _ _⟩
    · have := H.obj j q oq h
      refine ⟨this.1, this.2.1, ?_⟩
      simp only; rw [upd_ne _ _ _ _ (H.inj j i q oq p o h hi hne)]; exact this.2.2
  · rcases at_ j1 q1 o1 h1 with ⟨rfl, rfl, rfl⟩ | ⟨hne1, h1'⟩ <;> rcases at_ j2 q2 o2 h2 with ⟨rfl, rfl, rfl⟩ | ⟨hne2, h2'⟩
    · exact absurd rfl hne
    · exact H.inj _ _ _ _ _ _ hi h2' (Ne.symm hne2)
    · exact H.inj _ _ _ _ _ _ h1' hi hne1
    · exact H.inj _ _ _ _ _ _ h1' h2' hne
/-- Others have laid more. -/
theorem Own.more {b s s' : St} {L : Objs} (H : Own b s L) (hk : Keep s s') (hw : s'.WF) : Own b s' L :=
  ⟨hw, H.keep.trans hk, fun i p o h => by have := H.obj i p o h; exact ⟨this.1, Nat.lt_of_lt_of_le this.2.1 hk.le, by rw [hk.eq p this.2.1]; exact this.2.2⟩, H.inj⟩
/-- Less is told. -/
theorem Own.tail {b s : St} {x : Nat × AObj} {L : Objs} (H : Own b s (x :: L)) : Own b s L :=
  ⟨H.wf, H.keep, fun i p o h => H.obj (i + 1) p o (by simpa using h), fun i j p o q o' h1 h2 hne => H.inj (i + 1) (j + 1) p o q o' (by simpa using h1) (by simpa using h2) (by omega)⟩
theorem Own.none {b s : St} {L : Objs} (H : Own b s L) : Own b s [] := ⟨H.wf, H.keep, fun i p o h => by simp at h, fun i j p o q o' h => by simp at h⟩
/-- What a call has laid is the caller's own. -/
theorem Own.take {b s s' : St} {L : Objs} (H : Own b s L) (hk : Keep s s') (hw : s'.WF) {p : Nat} {o : AObj} (h1 : s.n ≤ p) (h2 : p < s'.n) (h3 : s'.h p = some o) : Own b s' ((p, o) :: L) := by
  have H' := H.more hk hw
  refine ⟨hw, H'.keep, fun i q o' h => ?_, fun i j q o1 q' o2 e1 e2 hne => ?_⟩
  · cases i with
    | zero => simp at h; obtain ⟨rfl, rfl⟩ := h; exact ⟨Nat.le_trans H.le h1, h2, h3⟩
    | succ i => exact H'.obj i q o' (by simpa using h)
  · cases i with
    | zero =>
      cases j with
      | zero => exact absurd rfl hne
      | succ j => simp at e1; obtain ⟨rfl, rfl⟩ := e1; have := H.obj j q' o2 (by simpa using e2); omega
    | succ i =>
      cases j with
      | zero => simp at e2; obtain ⟨rfl, rfl⟩ := e2; have := H.obj i q o1 (by simpa using e1); omega
      | succ j => exact H.inj i j q o1 q' o2 (by simpa using e1) (by simpa using e2) (by omega)

section
variable {fr : Frm} {b s : St} {L : Objs} {Q : AOut → Frm → St → Prop} {K : Frm → St → Prop} {hist : List Heap} {l : List AStep} {d : Nat} {chk : List Nat} {g : Option (Nat × Bool)}

theorem O_allocO (H : Own b s L) {t : Nat} {z : List AC} (hg : gon fr g = some true) (h : ∀ (p : Nat) s1, Own b s1 ((p, .rw t z.length z) :: L) → wpO l hist ((d, .c (.ptr p 0)) :: fr) s1 K) : wpO (⟨some d, .alloc t z, g, chk⟩ :: l) hist fr s K :=
  O_a rfl hg (h _ _ (H.new _))
theorem O_boxO (H : Own b s L) {t : Nat} {x : Opd} {p : AP} (hx : ev fr x = some (.p p)) (hg : gon fr g = some true) (h : ∀ (q : Nat) s1, Own b s1 ((q, .rw t p.cells.length p.cells) :: L) → wpO l hist ((d, .c (.ptr q 0)) :: fr) s1 K) : wpO (⟨some d, .box t x, g, chk⟩ :: l) hist fr s K :=
  O_a (oo := some (.rw t p.cells.length p.cells)) (by simp only [evA, hx, Option.bind_some, asP, Option.map_some]) hg (h _ _ (H.new _))
theorem O_makeO (H : Own b s L) {t by_ : Nat} {z : AC} {x y : Opd} {k k' : IntKind} {n : Nat} (hx : ev fr x = some (.c (.int k (n : Int)))) (hy : ev fr y = some (.c (.int k' (n : Int)))) (hg : gon fr g = some true) (hb : (by_ : Int) * n ≤ 140737488355328 ∧ (n : Int) ≤ 4611686018427387904)
    (h : ∀ (p : Nat) s1, 2 ≤ p → Own b s1 ((p, .rw t 1 (List.replicate n z)) :: L) → wpO l hist ((d, .c (.sl p 0 n)) :: fr) s1 K) : wpO (⟨some d, .makeS t 1 by_ [z] x y, g, chk⟩ :: l) hist fr s K :=
  O_make hx hy hg hb (h _ _ H.two (H.new _))
theorem O_buildO (H : Own b s L) {t e n : Nat} {z cs : List AC} {ps : List (Nat × Nat × Opd)} (hn : n ≠ 0) (hf : fillV (ev fr) (List.flatten (List.replicate n z)) ps = some cs) (hg : gon fr g = some true)
    (h : ∀ (p : Nat) s1, 2 ≤ p → Own b s1 ((p, .rw t e cs) :: L) → wpO l hist ((d, .c (.sl p 0 n)) :: fr) s1 K) : wpO (⟨some d, .buildS t e n z ps, g, chk⟩ :: l) hist fr s K :=
  O_a (oo := some (.rw t e cs)) (by simp only [evA]; rw [if_neg hn, hf]; rfl) hg (h _ _ H.two (H.new _))
theorem O_storeO (H : Own b s L) (i : Nat) {n : Nat} {x y : Opd} {id off t e : Nat} {cs : List AC} {p : AP} (hx : ev fr x = some (.c (.ptr id off))) (hy : ev fr y = some (.p p)) (hi : L[i]? = some (id, .rw t e cs)) (hg : gon fr g = some true) (hl : p.cells.length = n) (hb : off + n ≤ cs.length)
    (h : ∀ s1, Own b s1 (L.set i (id, .rw t e (splice cs off p.cells))) → wpO l (hist ++ [s.h]) fr s1 K) : wpO (⟨none, .store n x y, g, chk⟩ :: l) hist fr s K :=
  O_store hx hy hg (H.obj i _ _ hi).2.2 hl hb (h _ (H.put hi _))
theorem O_storeOi (H : Own b s L) (i : Nat) {x y : Opd} {id off t e : Nat} {cs : List AC} {v : AC} (hx : ev fr x = some (.c (.ptr id off))) (hy : ev fr y = some (.c v)) (hi : L[i]? = some (id, .rw t e cs)) (hg : gon fr g = some true) (hb : off < cs.length)
    (h : ∀ s1, Own b s1 (L.set i (id, .rw t e (cs.set off v))) → wpO l (hist ++ [s.h]) fr s1 K) : wpO (⟨none, .store 1 x y, g, chk⟩ :: l) hist fr s K :=
  O_store1 hx hy hg (H.obj i _ _ hi).2.2 hb (h _ (H.put hi _))
theorem O_loadO (H : Own b s L) (i : Nat) {n : Nat} {x : Opd} {id off t e : Nat} {cs : List AC} {v : AC} (hx : ev fr x = some (.c (.ptr id off))) (hi : L[i]? = some (id, .rw t e cs)) (hg : gon fr g = some true) (hv : cs[off]? = some v) (h : wpO l hist ((d, .c v) :: fr) s K) :
    wpO (⟨some d, .load false n x, g, []⟩ :: l) hist fr s K :=
  O_load hx hg (by rw [rd_of (H.obj i _ _ hi).2.2]; exact hv) h
theorem O_loadAO (H : Own b s L) (i : Nat) {n : Nat} {x : Opd} {id off t e : Nat} {cs ys : List AC} (hx : ev fr x = some (.c (.ptr id off))) (hi : L[i]? = some (id, .rw t e cs)) (hg : gon fr g = some true) (hv : cut cs off n = some ys) (h : wpO l hist ((d, .agg ys) :: fr) s K) :
    wpO (⟨some d, .load true n x, g, []⟩ :: l) hist fr s K :=
  O_loadA hx hg (by simp only [cellsAt, cellsOf, (H.obj i _ _ hi).2.2, Option.bind_some]; exact hv) h
/-- A load from what was there at the start. -/
theorem O_loadB (H : Own b s L) {n : Nat} {x : Opd} {id off : Nat} {v : AC} (hx : ev fr x = some (.c (.ptr id off))) (hg : gon fr g = some true) (hid : id < b.n) (hv : rd b.h id off = some v) (h : wpO l hist ((d, .c v) :: fr) s K) :
    wpO (⟨some d, .load false n x, g, []⟩ :: l) hist fr s K :=
  O_load hx hg (by rw [rd_eq (H.keep.eq id hid)]; exact hv) h
theorem O_callK (H : Own b s L) {f : Opd} {args : List Opd} {fn : Nat} {vs : List AV} {R : AV → St → Prop} (hc : callee fr f args = some (fn, vs)) (hg : gon fr g = some true) (hw : wpF fn vs s fun r s' => Keep s s' ∧ R r s')
    (h : ∀ v s1, Keep s s1 → R v s1 → s1.WF → Own b s1 L → wpO l (hist ++ [s.h]) ((d, v) :: fr) s1 K) : wpO (⟨some d, .call f args, g, chk⟩ :: l) hist fr s K :=
  O_callW hc hg H.wf hw fun v s1 hr hw1 => h v s1 hr.1 hr.2 hw1 (H.more hr.1 hw1)
end

/-- The cells of an own object. -/
theorem Own.cells {b s : St} {L : Objs} (H : Own b s L) (i : Nat) {p t e : Nat} {cs : List AC} (hi : L[i]? = some (p, .rw t e cs)) : cellsOf s.h p = some cs := by simp [cellsOf, (H.obj i _ _ hi).2.2]
section
variable {fr : Frm} {b s : St} {L : Objs} {Q : AV → St → Prop} {o : AOut}
/-- One result, a struct in a cell. -/
theorem Q_retC (H : Own b s L) (i : Nat) {n x p t e : Nat} {cs ys : List AC} (hx : get fr x = some (.c (.ptr p 0))) (hi : L[i]? = some (p, .rw t e cs)) (hc : cut cs 0 n = some ys) (h : Q (.agg ys) s) : retQ [.cell true n x] Q .ret fr s :=
  Q_ret (v := .agg ys) (by simp only [resultV, resV, hx, Option.bind_some, asPtr, if_true, cellsAt, H.cells i hi, hc, Option.map_some]) h
/-- Two results: a struct in a cell, and a value. -/
theorem Q_retCt (H : Own b s L) (i : Nat) {n x y p t e : Nat} {cs ys : List AC} {u : AP} (hx : get fr x = some (.c (.ptr p 0))) (hy : get fr y = some (.p u)) (hi : L[i]? = some (p, .rw t e cs)) (hc : cut cs 0 n = some ys) (h : Q (.tup [.agg ys, u]) s) : retQ [.cell true n x, .t y] Q .ret fr s :=
  Q_ret (v := .tup [.agg ys, u]) (by simp only [resultV, resPs, resV, hx, hy, Option.bind_some, asPtr, asP, if_true, cellsAt, H.cells i hi, hc, Option.map_some]) h
end
end Go.Proofs.Ythdaoanapklaiaa

/- Arguments, as the rows give them, told as abstract values. -/
namespace Go.Proofs.Ythdaoanapklaiaa
open Go Go.RowKit
set_option linter.unusedVariables false
set_option linter.unusedSimpArgs false

/-- A slice of numbers, as a row tells of it. -/
def IsRow (k : IntKind) (w : World) (a : Option Addr) (len cap : Nat) (zs : List Int) : Prop :=
  (a = none ∧ len = 0 ∧ cap = 0 ∧ zs = []) ∨
  ∃ x, a = some x ∧ (0 < cap → x.block < w.heap.size) ∧ len ≤ cap ∧ cap ≤ maxLen ∧ zs.length = cap ∧ (∀ i, i < zs.length → w.cell? (x.add i) = some (.int k (zs.getD i 0))) ∧ ∀ n ∈ zs, (Lit.int k n).wf = true

/-- The reading of a slice of numbers. -/
theorem row_of {H : Type} {enc : TypeId × Value → H} {P : Program} {w : World} {t e : TypeId} {k : IntKind} {fuel : Nat} {a : Option Addr} {len cap : Nat} {x : DataW H × List MemPlace} (ht : P.underlying t = some (.slice e)) (he : P.underlying e = some (.int k)) (hc : P.cellsOf e = 1)
    (hf : DataW.trod enc P w 0 (fun _ => true) true fuel t (Value.slice a len cap).cells.toList = some x) : ∃ zs, IsRow k w a len cap zs := by
  rcases Go.ChangeShapes.open_ints ht he hc hf with ⟨hcs, _⟩ | ⟨y, l, c, zs, hcs, _, hl, hm, hz, hx, hcell, hwz⟩
  · simp [Value.cells] at hcs
    obtain ⟨rfl, rfl, rfl⟩ := hcs
    exact ⟨[], .inl ⟨rfl, rfl, rfl, rfl⟩⟩
  · simp [Value.cells] at hcs
    obtain ⟨rfl, rfl, rfl⟩ := hcs
    refine ⟨zs, .inr ⟨y, rfl, fun h0 => ?_, hl, hm, by simpa using hz, hcell, hwz⟩⟩
    have h1 := hcell 0 (by simp at hz; omega)
    simp only [Addr.add, if_true, World.cell?] at h1
    split at h1
    · rename_i hh
      exact (Array.getElem?_eq_some_iff.1 hh).1
    · cases h1

theorem Sim.addRo {B : Nat} {ρ : Rho} {h : Heap} {w : World} (hs : Sim B ρ h w) {id esz : Nat} {cs : List AC} {L : Loc} (hid : h id = none) (ho : ORel B (rset ρ id L) w L (.ro esz cs)) : Sim B (rset ρ id L) (upd h id (.ro esz cs)) w := by
  have hx := rset_ext (L := L) (hs.none_of hid)
  refine ⟨fun x M e => ?_, fun x o' e => ?_, fun x x' o1 o2 L1 L2 e1 e2 r1 r2 q1 q2 hb => ?_, hs.base⟩
  · unfold upd; split
    · simp
    · rename_i hne; exact hs.dom x M (by simpa [rset, hne] using e)
  · unfold upd at e; split at e
    · rename_i hxe; subst hxe; obtain rfl := Option.some.inj e; exact ⟨L, by simp [rset], ho⟩
    · obtain ⟨M, hM, hr⟩ := hs.obj x o' e
      exact ⟨M, hx _ _ hM, hr.ext hx⟩
  · unfold upd at e1 e2
    split at e1
    · obtain rfl := Option.some.inj e1; cases q1
    · rename_i hx1
      split at e2
      · obtain rfl := Option.some.inj e2; cases q2
      · rename_i hx2
        simp [rset, hx1] at r1; simp [rset, hx2] at r2
        exact hs.inj x x' o1 o2 L1 L2 e1 e2 r1 r2 q1 q2 hb

def St0 : St := ⟨fun _ => none, 2⟩
theorem St0.wf : St0.WF := ⟨fun _ _ => rfl, Nat.le_refl _⟩
theorem Sim0 (W : World) : Sim W.heap.size (fun _ => none) St0.h W := ⟨(fun _ _ h => by cases h), (fun _ _ h => by simp [St0] at h), (fun _ _ _ _ _ _ h => by simp [St0] at h), Nat.le_refl _⟩

theorem take_in {k : IntKind} {zs : List Int} {n : Nat} (h : ∀ x ∈ zs, (Lit.int k x).wf = true) : ∀ x ∈ zs.take n, (Lit.int k x).wf = true := fun x hx => h x (List.mem_of_mem_take hx)

/-- One more slice of numbers. -/
theorem add_row {W : World} {ρ : Rho} {s : St} (hs : Sim W.heap.size ρ s.h W) (hw : s.WF) {k : IntKind} {a : Option Addr} {len cap : Nat} {zs : List Int} (hr : IsRow k W a len cap zs) :
    ∃ ρ' s' x, Ext ρ ρ' ∧ Keep s s' ∧ s'.WF ∧ Sim W.heap.size ρ' s'.h W ∧ CRel ρ' x (.slice a len cap) ∧ Sl s' 1 (.c x) (zs.take len).length ((zs.take len).map (.int k)) ∧ ∀ n ∈ zs.take len, (Lit.int k n).wf = true := by
  rcases hr with ⟨rfl, rfl, rfl, rfl⟩ | ⟨x, rfl, hb, hl, hm, hz, hcell, hwf⟩
  · exact ⟨ρ, s, .sl 0 0 0, Ext.refl _, Keep.refl _, hw, hs, .nilS, ⟨0, 0, rfl, by have := hw.2; omega, rfl⟩, by simp⟩
  · by_cases h0 : cap = 0
    · obtain rfl : len = 0 := by omega
      subst h0
      exact ⟨ρ, s, .sl 1 0 0, Ext.refl _, Keep.refl _, hw, hs, .emp _, ⟨1, 0, rfl, by have := hw.2; omega, rfl⟩, by simp⟩
    · have hspot : x.spot = none := by
        have h1 := hcell 0 (by omega)
        simp only [Addr.add, if_true, World.cell?] at h1
        split at h1
        · split at h1
          · cases h1
          · rename_i hsp; cases hx : x.spot <;> simp [hx] at hsp ⊢
        · cases h1
      have hx : x = ⟨x.block, x.off, none⟩ := by cases x; simp at hspot; simp [hspot]
      have hadd : ∀ i, x.add i = ⟨x.block, x.off + i, none⟩ := fun i => by rw [hx]; exact add_lit _ _ _
      have hn := hw.1 s.n (Nat.le_refl _)
      refine ⟨rset ρ s.n ⟨x.block, x.off, cap, 1⟩, s.new (some (.ro 1 ((zs.take len).map (.int k)))), .sl s.n 0 len, rset_ext (hs.none_of hn), (Keep.refl s).new _, (new_good hw _).wf, ?_, ?_, ?_, take_in hwf⟩
      · refine hs.addRo hn ⟨rfl, hb (by omega), fun j y hy => ?_⟩
        rw [List.getElem?_map] at hy
        obtain ⟨z, hz1, rfl⟩ := Option.map_eq_some_iff.1 hy
        rw [List.getElem?_take] at hz1
        split at hz1
        · have hlt := (List.getElem?_eq_some_iff.1 hz1).1
          have := hcell j hlt
          rw [hadd] at this
          refine ⟨_, this, ?_⟩
          rw [List.getD_eq_getElem?_getD, hz1]; exact .int _ _
        · cases hz1
      · have := CRel.sl (ρ := rset ρ s.n ⟨x.block, x.off, cap, 1⟩) (id := s.n) (off := 0) (len := len) (cap := cap) (L := ⟨x.block, x.off, cap, 1⟩) hw.2 (by simp [rset]) hl (fun _ => rfl)
        rw [hx]; exact this
      · refine ⟨s.n, 0, by simp; omega, by simp [St.new], ?_⟩
        have h2 := hw.2
        have hlen : (zs.take len).length = len := by simp; omega
        simp only [srcCells]
        rw [if_neg (by omega)]
        simp only [cellsAt, cellsOf, St.new, upd_eq, Option.bind_some, cut]
        rw [if_pos (by simp)]
        simp only [List.drop_zero, Option.some.injEq]
        exact List.take_of_length_le (by simp)

theorem wf64 {n : Int} (h : (Lit.int .i64 n).wf = true) : in64 n := by
  simp [Lit.wf, IntKind.min, IntKind.max, IntKind.signed, IntKind.bits] at h
  exact h

theorem all64 {xs : List Int} (h : ∀ n ∈ xs, (Lit.int .i64 n).wf = true) : ∀ n ∈ xs, in64 n := fun n hn => wf64 (h n hn)

/-- What a law's run on abstract values tells of the call. -/
theorem law_calls {W : World} {ρ : Rho} {s : St} (hs : Sim W.heap.size ρ s.h W) (hw : s.WF) {f : Nat} {args : List AV} {xs : List Value} (hx : All2 (VRel ρ) args xs) (h : wpF f args s fun r _ => r = bv true) :
    Calls Try.prog f xs.toArray W fun e W' => e = .returned (.bool true) ∧ Below W.heap.size W W' := by
  obtain ⟨v, s', hex, rfl⟩ := h.ex
  refine (calls_of_ex mixed hex hw hs hx).mono ?_
  rintro e W' ⟨x, ρ', rfl, hv, _, hb, _⟩
  cases hv.c_inv
  exact ⟨rfl, hb⟩
end Go.Proofs.Ythdaoanapklaiaa

/- What toInt64S does. -/
namespace Go.Proofs.Ythdaoanapklaiaa
open Go Go.RowKit
set_option linter.unusedVariables false
set_option linter.unusedSimpArgs false
set_option maxRecDepth 100000
-- laws.toInt64S
def L11 : AFun := ⟨22, [.t 2],
 (.seq (.ops false [⟨(some 2), .mv (.k (.c (.sl 0 0 0))), none, []⟩])
 (.seq (.ops false [⟨(some 5), .mv (.t 0), none, []⟩,
   ⟨(some 6), .len false (.t 5), none, []⟩,
   ⟨(some 7), .makeS 2 1 8 [.int .i64 0] (.t 6) (.t 6), none, []⟩,
   ⟨(some 3), .mv (.t 7), none, []⟩])
 (.seq (.seq (.ops false [⟨(some 4), .mv (.k (iv 0)), none, []⟩])
  (.block 0 (.loop [0, 3, 4] (.seq (.seq (.ops false [⟨(some 8), .mv (.t 4), none, []⟩,
       ⟨(some 9), .mv (.t 0), none, []⟩,
       ⟨(some 10), .len false (.t 9), none, []⟩,
       ⟨(some 11), .bin .lss (.t 8) (.t 10), none, []⟩])
     (.cond (.t 11) .skip
      (.exit 0)))
    (.seq (.block 1 (.ops false [⟨(some 14), .mv (.t 3), none, []⟩,
       ⟨(some 15), .mv (.t 4), none, []⟩,
       ⟨(some 16), .mv (.t 0), none, []⟩,
       ⟨(some 17), .mv (.t 4), none, []⟩,
       ⟨(some 18), .idxA 1 (.t 16) (.t 17), none, []⟩,
       ⟨(some 19), .load false 1 (.t 18), none, []⟩,
       ⟨(some 20), .idxA 1 (.t 14) (.t 15), none, []⟩,
       ⟨none, .store 1 (.t 20) (.t 19), none, []⟩]))
    (.ops false [⟨(some 12), .mv (.t 4), none, []⟩,
     ⟨(some 13), .bin .add (.t 12) (.k (iv 1)), none, []⟩,
     ⟨(some 4), .mv (.t 13), none, []⟩]))))))
 (.seq (.ops false [⟨(some 21), .mv (.t 3), none, []⟩,
   ⟨(some 2), .mv (.t 21), none, []⟩])
 .ret))))⟩
theorem code11 : acode Try.prog hints 11 = some L11 := by kernel_rfl

theorem set_step {xs : List Int} {n i : Nat} {x : Int} (h : xs[i]? = some x) (hn : n = xs.length - i) :
    ((xs.take i).map ic ++ List.replicate n (ic 0)).set i (ic x) = (xs.take (i + 1)).map ic ++ List.replicate (n - 1) (ic 0) := by
  have hi : i < xs.length := (List.getElem?_eq_some_iff.1 h).1
  rw [List.set_append_right _ _ (by simp; omega)]
  obtain ⟨m, rfl⟩ : ∃ m, n = m + 1 := ⟨n - 1, by omega⟩
  have : i - ((xs.take i).map ic).length = 0 := by simp; omega
  rw [this, List.replicate_succ, List.set_cons_zero, List.take_add_one, h]
  simp

theorem c_toInt64S {s : St} {v : AV} {xs : List Int} (h : Ints s v xs) (hw : s.WF) (hb : xs.length ≤ 2000000) : wpF 11 [v] s fun r s' => Keep s s' ∧ Ints s' r xs := by
  obtain ⟨id, off, rfl, hid, hrd⟩ := h.open
  have h2 := hw.2
  refine C_fn code11 ?_
  repeat' (first
    | refine C_seq ?_ | refine C_ops ?_ | refine C_block ?_ | refine C_skip ?_ | refine C_ret ?_ | refine C_exit ?_
    | refine O_nil ?_ | refine Q_norm ?_ | refine Q_then ?_ | refine Q_thenE ?_ | refine Q_thenR ?_ | refine Q_blockN ?_ | refine Q_blockR ?_ | refine Q_blockS ?_ | refine Q_blockE (by decide) ?_
    | refine Q_roundE ?_ | refine Q_roundR ?_
    | refine O_off rfl ?_
    | refine O_idxN rfl rfl rfl (by omega) ?_ | refine O_idx rfl rfl rfl (by omega) ?_ | refine O_idxArr rfl rfl rfl (by omega) ?_
    | refine O_add rfl rfl rfl (by unfold in64; omega) ?_ | refine O_sub rfl rfl rfl (by unfold in64; omega) ?_
    | refine O_make rfl rfl rfl (by constructor <;> omega) ?_
    | (refine O_lt rfl rfl rfl (fun hc => ?_) (fun hc => ?_) <;> try (exfalso; omega)) | (refine O_le rfl rfl rfl (fun hc => ?_) (fun hc => ?_) <;> try (exfalso; omega))
    | (refine O_gt rfl rfl rfl (fun hc => ?_) (fun hc => ?_) <;> try (exfalso; omega)) | (refine O_ge rfl rfl rfl (fun hc => ?_) (fun hc => ?_) <;> try (exfalso; omega))
    | (refine O_eq rfl rfl rfl (fun hc => ?_) (fun hc => ?_) <;> try (exfalso; omega)) | (refine O_ne rfl rfl rfl (fun hc => ?_) (fun hc => ?_) <;> try (exfalso; omega))
    | refine O_sliceTo rfl rfl rfl (by omega) ?_ | refine C_ifT rfl ?_ | refine C_ifF rfl ?_
    | refine O_p (by rfl) rfl ?_)
  refine C_loopR (fun m fr s' => ∃ i, i ≤ xs.length ∧ m = xs.length - i ∧ fr = [(0, .c (.sl id off xs.length)), (3, .c (.sl s.n 0 xs.length)), (4, iv i)] ∧ Keep s s' ∧ s.n < s'.n ∧ s'.h s.n = some (.rw 2 1 ((xs.take i).map ic ++ List.replicate (xs.length - i) (ic 0)))) ?_
    (n := xs.length) ⟨0, Nat.zero_le _, rfl, rfl, (Keep.refl s).new _, by simp [St.new], by simp [St.new, upd_eq]⟩
  rintro m fr s' ⟨i, hi, rfl, rfl, hk, hlt, ho⟩
  repeat' (first
    | refine C_seq ?_ | refine C_ops ?_ | refine C_block ?_ | refine C_skip ?_ | refine C_ret ?_ | refine C_exit ?_
    | refine O_nil ?_ | refine Q_norm ?_ | refine Q_then ?_ | refine Q_thenE ?_ | refine Q_thenR ?_ | refine Q_blockN ?_ | refine Q_blockR ?_ | refine Q_blockS ?_ | refine Q_blockE (by decide) ?_
    | refine Q_roundE ?_ | refine Q_roundR ?_
    | refine O_off rfl ?_
    | refine O_idxN rfl rfl rfl (by omega) ?_ | refine O_idx rfl rfl rfl (by omega) ?_ | refine O_idxArr rfl rfl rfl (by omega) ?_
    | refine O_add rfl rfl rfl (by unfold in64; omega) ?_ | refine O_sub rfl rfl rfl (by unfold in64; omega) ?_
    | refine O_make rfl rfl rfl (by constructor <;> omega) ?_
    | (refine O_lt rfl rfl rfl (fun hc => ?_) (fun hc => ?_) <;> try (exfalso; omega)) | (refine O_le rfl rfl rfl (fun hc => ?_) (fun hc => ?_) <;> try (exfalso; omega))
    | (refine O_gt rfl rfl rfl (fun hc => ?_) (fun hc => ?_) <;> try (exfalso; omega)) | (refine O_ge rfl rfl rfl (fun hc => ?_) (fun hc => ?_) <;> try (exfalso; omega))
    | (refine O_eq rfl rfl rfl (fun hc => ?_) (fun hc => ?_) <;> try (exfalso; omega)) | (refine O_ne rfl rfl rfl (fun hc => ?_) (fun hc => ?_) <;> try (exfalso; omega))
    | refine O_sliceTo rfl rfl rfl (by omega) ?_ | refine C_ifT rfl ?_ | refine C_ifF rfl ?_
    | refine O_p (by rfl) rfl ?_)
  · have hi' : i < xs.length := by omega
    obtain ⟨x, hx⟩ : ∃ x, xs[i]? = some x := ⟨_, List.getElem?_eq_getElem hi'⟩
    refine O_load rfl rfl (by rw [Nat.mul_one, rd_eq (hk.eq id hid)]; exact hrd i x hx) ?_
    repeat' (first
    | refine C_seq ?_ | refine C_ops ?_ | refine C_block ?_ | refine C_skip ?_ | refine C_ret ?_ | refine C_exit ?_
    | refine O_nil ?_ | refine Q_norm ?_ | refine Q_then ?_ | refine Q_thenE ?_ | refine Q_thenR ?_ | refine Q_blockN ?_ | refine Q_blockR ?_ | refine Q_blockS ?_ | refine Q_blockE (by decide) ?_
    | refine Q_roundE ?_ | refine Q_roundR ?_
    | refine O_off rfl ?_
    | refine O_idxN rfl rfl rfl (by omega) ?_ | refine O_idx rfl rfl rfl (by omega) ?_ | refine O_idxArr rfl rfl rfl (by omega) ?_
    | refine O_add rfl rfl rfl (by unfold in64; omega) ?_ | refine O_sub rfl rfl rfl (by unfold in64; omega) ?_
    | refine O_make rfl rfl rfl (by constructor <;> omega) ?_
    | (refine O_lt rfl rfl rfl (fun hc => ?_) (fun hc => ?_) <;> try (exfalso; omega)) | (refine O_le rfl rfl rfl (fun hc => ?_) (fun hc => ?_) <;> try (exfalso; omega))
    | (refine O_gt rfl rfl rfl (fun hc => ?_) (fun hc => ?_) <;> try (exfalso; omega)) | (refine O_ge rfl rfl rfl (fun hc => ?_) (fun hc => ?_) <;> try (exfalso; omega))
    | (refine O_eq rfl rfl rfl (fun hc => ?_) (fun hc => ?_) <;> try (exfalso; omega)) | (refine O_ne rfl rfl rfl (fun hc => ?_) (fun hc => ?_) <;> try (exfalso; omega))
    | refine O_sliceTo rfl rfl rfl (by omega) ?_ | refine C_ifT rfl ?_ | refine C_ifF rfl ?_
    | refine O_p (by rfl) rfl ?_)
    refine O_store1 rfl rfl rfl ho (by simp; omega) ?_
    repeat' (first
    | refine C_seq ?_ | refine C_ops ?_ | refine C_block ?_ | refine C_skip ?_ | refine C_ret ?_ | refine C_exit ?_
    | refine O_nil ?_ | refine Q_norm ?_ | refine Q_then ?_ | refine Q_thenE ?_ | refine Q_thenR ?_ | refine Q_blockN ?_ | refine Q_blockR ?_ | refine Q_blockS ?_ | refine Q_blockE (by decide) ?_
    | refine Q_roundE ?_ | refine Q_roundR ?_
    | refine O_off rfl ?_
    | refine O_idxN rfl rfl rfl (by omega) ?_ | refine O_idx rfl rfl rfl (by omega) ?_ | refine O_idxArr rfl rfl rfl (by omega) ?_
    | refine O_add rfl rfl rfl (by unfold in64; omega) ?_ | refine O_sub rfl rfl rfl (by unfold in64; omega) ?_
    | refine O_make rfl rfl rfl (by constructor <;> omega) ?_
    | (refine O_lt rfl rfl rfl (fun hc => ?_) (fun hc => ?_) <;> try (exfalso; omega)) | (refine O_le rfl rfl rfl (fun hc => ?_) (fun hc => ?_) <;> try (exfalso; omega))
    | (refine O_gt rfl rfl rfl (fun hc => ?_) (fun hc => ?_) <;> try (exfalso; omega)) | (refine O_ge rfl rfl rfl (fun hc => ?_) (fun hc => ?_) <;> try (exfalso; omega))
    | (refine O_eq rfl rfl rfl (fun hc => ?_) (fun hc => ?_) <;> try (exfalso; omega)) | (refine O_ne rfl rfl rfl (fun hc => ?_) (fun hc => ?_) <;> try (exfalso; omega))
    | refine O_sliceTo rfl rfl rfl (by omega) ?_ | refine C_ifT rfl ?_ | refine C_ifF rfl ?_
    | refine O_p (by rfl) rfl ?_)
    refine Q_round (m := xs.length - (i + 1)) (by omega) ⟨i + 1, hi', rfl, rfl, hk.put (Nat.le_refl _) _, hlt, ?_⟩
    simp only [upd_eq]
    rw [show 0 + i * 1 = i by omega, set_step hx rfl]
    rfl
  · have hi' : i = xs.length := by omega
    refine Q_ret rfl ⟨hk, ?_⟩
    refine Ints.own h2 hlt (t := 2) ?_
    rw [ho, hi']; simp



end Go.Proofs.Ythdaoanapklaiaa
/- What eqInt64S does. -/
namespace Go.Proofs.Ythdaoanapklaiaa
open Go Go.RowKit
set_option linter.unusedVariables false
set_option linter.unusedSimpArgs false
set_option maxRecDepth 100000
-- laws.eqInt64S
def L13 : AFun := ⟨26, [.t 4],
 (.seq (.ops false [⟨(some 4), .mv (.k (bv false)), none, []⟩])
 (.seq (.seq (.ops false [⟨(some 6), .mv (.t 0), none, []⟩,
    ⟨(some 7), .len false (.t 6), none, []⟩,
    ⟨(some 8), .mv (.t 1), none, []⟩,
    ⟨(some 9), .len false (.t 8), none, []⟩,
    ⟨(some 10), .bin .neq (.t 7) (.t 9), none, []⟩])
  (.cond (.t 10) (.seq (.ops false [⟨(some 4), .mv (.k (bv false)), none, []⟩])
   .ret)
   .skip))
 (.seq (.seq (.ops false [⟨(some 5), .mv (.k (iv 0)), none, []⟩])
  (.block 0 (.loop [0, 1, 5] (.seq (.seq (.ops false [⟨(some 11), .mv (.t 5), none, []⟩,
       ⟨(some 12), .mv (.t 0), none, []⟩,
       ⟨(some 13), .len false (.t 12), none, []⟩,
       ⟨(some 14), .bin .lss (.t 11) (.t 13), none, []⟩])
     (.cond (.t 14) .skip
      (.exit 0)))
    (.seq (.block 1 (.seq (.ops true [⟨(some 17), .mv (.t 0), none, []⟩,
        ⟨(some 18), .mv (.t 5), none, []⟩,
        ⟨(some 19), .idxA 1 (.t 17) (.t 18), none, []⟩,
        ⟨(some 20), .load false 1 (.t 19), none, []⟩,
        ⟨(some 21), .mv (.t 1), none, []⟩,
        ⟨(some 22), .mv (.t 5), none, []⟩,
        ⟨(some 23), .idxA 1 (.t 21) (.t 22), none, []⟩,
        ⟨(some 24), .load false 1 (.t 23), none, []⟩,
        ⟨(some 25), .bin .neq (.t 20) (.t 24), none, []⟩])
      (.cond (.t 25) (.seq (.ops false [⟨(some 4), .mv (.k (bv false)), none, []⟩])
       .ret)
       .skip)))
    (.ops false [⟨(some 15), .mv (.t 5), none, []⟩,
     ⟨(some 16), .bin .add (.t 15) (.k (iv 1)), none, []⟩,
     ⟨(some 5), .mv (.t 16), none, []⟩]))))))
 (.seq (.ops false [⟨(some 4), .mv (.k (bv true)), none, []⟩])
 .ret))))⟩
theorem code13 : acode Try.prog hints 13 = some L13 := by kernel_rfl

theorem c_eqInt64S {s : St} {v u : AV} {xs ys : List Int} (h : Ints s v xs) (k : Ints s u ys) (hb : xs.length ≤ 2000000) : wpF 13 [v, u] s fun r s' => s' = s ∧ r = bv (tt (xs = ys)) := by
  obtain ⟨id, off, rfl, hid, hrd⟩ := h.open
  obtain ⟨id2, off2, rfl, hid2, hrd2⟩ := k.open
  refine C_fn code13 ?_
  repeat' (first
    | refine C_seq ?_ | refine C_ops ?_ | refine C_block ?_ | refine C_skip ?_ | refine C_ret ?_ | refine C_exit ?_
    | refine O_nil ?_ | refine Q_norm ?_ | refine Q_then ?_ | refine Q_thenE ?_ | refine Q_thenR ?_ | refine Q_blockN ?_ | refine Q_blockR ?_ | refine Q_blockS ?_ | refine Q_blockE (by decide) ?_
    | refine Q_roundE ?_ | refine Q_roundR ?_
    | refine O_off rfl ?_
    | refine O_idxN rfl rfl rfl (by omega) ?_ | refine O_idx rfl rfl rfl (by omega) ?_ | refine O_idxArr rfl rfl rfl (by omega) ?_
    | refine O_add rfl rfl rfl (by unfold in64; omega) ?_ | refine O_sub rfl rfl rfl (by unfold in64; omega) ?_
    | refine O_make rfl rfl rfl (by constructor <;> omega) ?_
    | (refine O_lt rfl rfl rfl (fun hc => ?_) (fun hc => ?_) <;> try (exfalso; omega)) | (refine O_le rfl rfl rfl (fun hc => ?_) (fun hc => ?_) <;> try (exfalso; omega))
    | (refine O_gt rfl rfl rfl (fun hc => ?_) (fun hc => ?_) <;> try (exfalso; omega)) | (refine O_ge rfl rfl rfl (fun hc => ?_) (fun hc => ?_) <;> try (exfalso; omega))
    | (refine O_eq rfl rfl rfl (fun hc => ?_) (fun hc => ?_) <;> try (exfalso; omega)) | (refine O_ne rfl rfl rfl (fun hc => ?_) (fun hc => ?_) <;> try (exfalso; omega))
    | refine O_sliceTo rfl rfl rfl (by omega) ?_ | refine C_ifT rfl ?_ | refine C_ifF rfl ?_
    | refine O_p (by rfl) rfl ?_)
  · exact Q_ret rfl ⟨rfl, bv_f (fun e => by subst e; omega)⟩
  have hl : ys.length = xs.length := by omega
  refine C_loopR (fun m fr s' => ∃ i, i ≤ xs.length ∧ m = xs.length - i ∧ fr = [(0, .c (.sl id off xs.length)), (1, .c (.sl id2 off2 ys.length)), (5, iv i)] ∧ s' = s ∧ xs.take i = ys.take i) ?_
    (n := xs.length) ⟨0, Nat.zero_le _, rfl, rfl, rfl, by simp⟩
  rintro m fr s' ⟨i, hi, rfl, rfl, rfl, hno⟩
  repeat' (first
    | refine C_seq ?_ | refine C_ops ?_ | refine C_block ?_ | refine C_skip ?_ | refine C_ret ?_ | refine C_exit ?_
    | refine O_nil ?_ | refine Q_norm ?_ | refine Q_then ?_ | refine Q_thenE ?_ | refine Q_thenR ?_ | refine Q_blockN ?_ | refine Q_blockR ?_ | refine Q_blockS ?_ | refine Q_blockE (by decide) ?_
    | refine Q_roundE ?_ | refine Q_roundR ?_
    | refine O_off rfl ?_
    | refine O_idxN rfl rfl rfl (by omega) ?_ | refine O_idx rfl rfl rfl (by omega) ?_ | refine O_idxArr rfl rfl rfl (by omega) ?_
    | refine O_add rfl rfl rfl (by unfold in64; omega) ?_ | refine O_sub rfl rfl rfl (by unfold in64; omega) ?_
    | refine O_make rfl rfl rfl (by constructor <;> omega) ?_
    | (refine O_lt rfl rfl rfl (fun hc => ?_) (fun hc => ?_) <;> try (exfalso; omega)) | (refine O_le rfl rfl rfl (fun hc => ?_) (fun hc => ?_) <;> try (exfalso; omega))
    | (refine O_gt rfl rfl rfl (fun hc => ?_) (fun hc => ?_) <;> try (exfalso; omega)) | (refine O_ge rfl rfl rfl (fun hc => ?_) (fun hc => ?_) <;> try (exfalso; omega))
    | (refine O_eq rfl rfl rfl (fun hc => ?_) (fun hc => ?_) <;> try (exfalso; omega)) | (refine O_ne rfl rfl rfl (fun hc => ?_) (fun hc => ?_) <;> try (exfalso; omega))
    | refine O_sliceTo rfl rfl rfl (by omega) ?_ | refine C_ifT rfl ?_ | refine C_ifF rfl ?_
    | refine O_p (by rfl) rfl ?_)
  · have hi' : i < xs.length := by omega
    obtain ⟨x, hx⟩ : ∃ x, xs[i]? = some x := ⟨_, List.getElem?_eq_getElem hi'⟩
    obtain ⟨y, hy⟩ : ∃ x, ys[i]? = some x := ⟨_, List.getElem?_eq_getElem (by omega)⟩
    refine O_load rfl rfl (by rw [Nat.mul_one]; exact hrd i x hx) ?_
    repeat' (first
    | refine C_seq ?_ | refine C_ops ?_ | refine C_block ?_ | refine C_skip ?_ | refine C_ret ?_ | refine C_exit ?_
    | refine O_nil ?_ | refine Q_norm ?_ | refine Q_then ?_ | refine Q_thenE ?_ | refine Q_thenR ?_ | refine Q_blockN ?_ | refine Q_blockR ?_ | refine Q_blockS ?_ | refine Q_blockE (by decide) ?_
    | refine Q_roundE ?_ | refine Q_roundR ?_
    | refine O_off rfl ?_
    | refine O_idxN rfl rfl rfl (by omega) ?_ | refine O_idx rfl rfl rfl (by omega) ?_ | refine O_idxArr rfl rfl rfl (by omega) ?_
    | refine O_add rfl rfl rfl (by unfold in64; omega) ?_ | refine O_sub rfl rfl rfl (by unfold in64; omega) ?_
    | refine O_make rfl rfl rfl (by constructor <;> omega) ?_
    | (refine O_lt rfl rfl rfl (fun hc => ?_) (fun hc => ?_) <;> try (exfalso; omega)) | (refine O_le rfl rfl rfl (fun hc => ?_) (fun hc => ?_) <;> try (exfalso; omega))
    | (refine O_gt rfl rfl rfl (fun hc => ?_) (fun hc => ?_) <;> try (exfalso; omega)) | (refine O_ge rfl rfl rfl (fun hc => ?_) (fun hc => ?_) <;> try (exfalso; omega))
    | (refine O_eq rfl rfl rfl (fun hc => ?_) (fun hc => ?_) <;> try (exfalso; omega)) | (refine O_ne rfl rfl rfl (fun hc => ?_) (fun hc => ?_) <;> try (exfalso; omega))
    | refine O_sliceTo rfl rfl rfl (by omega) ?_ | refine C_ifT rfl ?_ | refine C_ifF rfl ?_
    | refine O_p (by rfl) rfl ?_)
    refine O_load rfl rfl (by rw [Nat.mul_one]; exact hrd2 i y hy) ?_
    repeat' (first
    | refine C_seq ?_ | refine C_ops ?_ | refine C_block ?_ | refine C_skip ?_ | refine C_ret ?_ | refine C_exit ?_
    | refine O_nil ?_ | refine Q_norm ?_ | refine Q_then ?_ | refine Q_thenE ?_ | refine Q_thenR ?_ | refine Q_blockN ?_ | refine Q_blockR ?_ | refine Q_blockS ?_ | refine Q_blockE (by decide) ?_
    | refine Q_roundE ?_ | refine Q_roundR ?_
    | refine O_off rfl ?_
    | refine O_idxN rfl rfl rfl (by omega) ?_ | refine O_idx rfl rfl rfl (by omega) ?_ | refine O_idxArr rfl rfl rfl (by omega) ?_
    | refine O_add rfl rfl rfl (by unfold in64; omega) ?_ | refine O_sub rfl rfl rfl (by unfold in64; omega) ?_
    | refine O_make rfl rfl rfl (by constructor <;> omega) ?_
    | (refine O_lt rfl rfl rfl (fun hc => ?_) (fun hc => ?_) <;> try (exfalso; omega)) | (refine O_le rfl rfl rfl (fun hc => ?_) (fun hc => ?_) <;> try (exfalso; omega))
    | (refine O_gt rfl rfl rfl (fun hc => ?_) (fun hc => ?_) <;> try (exfalso; omega)) | (refine O_ge rfl rfl rfl (fun hc => ?_) (fun hc => ?_) <;> try (exfalso; omega))
    | (refine O_eq rfl rfl rfl (fun hc => ?_) (fun hc => ?_) <;> try (exfalso; omega)) | (refine O_ne rfl rfl rfl (fun hc => ?_) (fun hc => ?_) <;> try (exfalso; omega))
    | refine O_sliceTo rfl rfl rfl (by omega) ?_ | refine C_ifT rfl ?_ | refine C_ifF rfl ?_
    | refine O_p (by rfl) rfl ?_)
    · exact Q_ret rfl ⟨rfl, bv_f (fun e => hc (by subst e; rw [hx] at hy; exact Option.some.inj hy))⟩
    · refine Q_round (m := xs.length - (i + 1)) (by omega) ⟨i + 1, hi', rfl, rfl, rfl, ?_⟩
      rw [List.take_add_one, List.take_add_one, hx, hy, hno, hc]
  · have hi' : i = xs.length := by omega
    rw [hi', List.take_length, ← hl, List.take_length] at hno
    exact Q_ret rfl ⟨rfl, bv_t hno⟩



end Go.Proofs.Ythdaoanapklaiaa
/- What l00In does. -/
namespace Go.Proofs.Ythdaoanapklaiaa
open Go Go.RowKit
set_option linter.unusedVariables false
set_option linter.unusedSimpArgs false
set_option maxRecDepth 100000
-- spec.l00In
def L51 : AFun := ⟨15, [.t 6],
 (.seq (.ops false [⟨(some 6), .mv (.k (bv false)), none, []⟩])
 (.seq (.ops false [⟨(some 7), .mv (.t 0), none, []⟩,
   ⟨(some 8), .mv (.t 1), none, []⟩,
   ⟨(some 9), .bin .geq (.t 7) (.t 8), none, []⟩,
   ⟨(some 10), .mv (.t 9), none, []⟩,
   ⟨(some 11), .mv (.t 0), (some (10, true)), []⟩,
   ⟨(some 12), .mv (.t 2), (some (10, true)), []⟩,
   ⟨(some 13), .bin .leq (.t 11) (.t 12), (some (10, true)), []⟩,
   ⟨(some 14), .pick (.t 10) (.t 13) (.k (bv false)), none, []⟩,
   ⟨(some 6), .mv (.t 14), none, []⟩])
 .ret))⟩
theorem code51 : acode Try.prog hints 51 = some L51 := by kernel_rfl

theorem c_in {s : St} {x a b : Int} : wpF 51 [iv x, iv a, iv b] s fun r s' => s' = s ∧ r = bv (tt (a ≤ x ∧ x ≤ b)) := by
  refine C_fn code51 ?_
  repeat' (first
    | refine C_seq ?_ | refine C_ops ?_ | refine C_block ?_ | refine C_skip ?_ | refine C_ret ?_ | refine C_exit ?_
    | refine O_nil ?_ | refine Q_norm ?_ | refine Q_then ?_ | refine Q_thenE ?_ | refine Q_thenR ?_ | refine Q_blockN ?_ | refine Q_blockR ?_ | refine Q_blockS ?_ | refine Q_blockE (by decide) ?_
    | refine Q_roundE ?_ | refine Q_roundR ?_
    | refine O_off rfl ?_
    | refine O_idxN rfl rfl rfl (by omega) ?_ | refine O_idx rfl rfl rfl (by omega) ?_ | refine O_idxArr rfl rfl rfl (by omega) ?_
    | refine O_add rfl rfl rfl (by unfold in64; omega) ?_ | refine O_sub rfl rfl rfl (by unfold in64; omega) ?_
    | refine O_make rfl rfl rfl (by constructor <;> omega) ?_
    | (refine O_lt rfl rfl rfl (fun hc => ?_) (fun hc => ?_) <;> try (exfalso; omega)) | (refine O_le rfl rfl rfl (fun hc => ?_) (fun hc => ?_) <;> try (exfalso; omega))
    | (refine O_gt rfl rfl rfl (fun hc => ?_) (fun hc => ?_) <;> try (exfalso; omega)) | (refine O_ge rfl rfl rfl (fun hc => ?_) (fun hc => ?_) <;> try (exfalso; omega))
    | (refine O_eq rfl rfl rfl (fun hc => ?_) (fun hc => ?_) <;> try (exfalso; omega)) | (refine O_ne rfl rfl rfl (fun hc => ?_) (fun hc => ?_) <;> try (exfalso; omega))
    | refine O_sliceTo rfl rfl rfl (by omega) ?_ | refine C_ifT rfl ?_ | refine C_ifF rfl ?_
    | refine O_p (by rfl) rfl ?_)
  · exact Q_ret rfl ⟨rfl, bv_t ⟨by omega, by omega⟩⟩
  · exact Q_ret rfl ⟨rfl, bv_f (by omega)⟩
  · exact Q_ret rfl ⟨rfl, bv_f (by omega)⟩


end Go.Proofs.Ythdaoanapklaiaa
/- What l04Has does. -/
namespace Go.Proofs.Ythdaoanapklaiaa
open Go Go.RowKit
set_option linter.unusedVariables false
set_option linter.unusedSimpArgs false
set_option maxRecDepth 100000
-- spec.l04Has
def L52 : AFun := ⟨18, [.t 4],
 (.seq (.ops false [⟨(some 4), .mv (.k (bv false)), none, []⟩])
 (.seq (.seq (.ops false [⟨(some 5), .mv (.k (iv 0)), none, []⟩])
  (.block 0 (.loop [0, 1, 5] (.seq (.seq (.ops false [⟨(some 6), .mv (.t 5), none, []⟩,
       ⟨(some 7), .mv (.t 0), none, []⟩,
       ⟨(some 8), .len false (.t 7), none, []⟩,
       ⟨(some 9), .bin .lss (.t 6) (.t 8), none, []⟩])
     (.cond (.t 9) .skip
      (.exit 0)))
    (.seq (.block 1 (.seq (.ops false [⟨(some 12), .mv (.t 0), none, []⟩,
        ⟨(some 13), .mv (.t 5), none, []⟩,
        ⟨(some 14), .idxA 1 (.t 12) (.t 13), none, []⟩,
        ⟨(some 15), .load false 1 (.t 14), none, []⟩,
        ⟨(some 16), .mv (.t 1), none, []⟩,
        ⟨(some 17), .bin .eql (.t 15) (.t 16), none, []⟩])
      (.cond (.t 17) (.seq (.ops false [⟨(some 4), .mv (.k (bv true)), none, []⟩])
       .ret)
       .skip)))
    (.ops false [⟨(some 10), .mv (.t 5), none, []⟩,
     ⟨(some 11), .bin .add (.t 10) (.k (iv 1)), none, []⟩,
     ⟨(some 5), .mv (.t 11), none, []⟩]))))))
 (.seq (.ops false [⟨(some 4), .mv (.k (bv false)), none, []⟩])
 .ret)))⟩
theorem code52 : acode Try.prog hints 52 = some L52 := by kernel_rfl

theorem c_has {s : St} {v : AV} {xs : List Int} {y : Int} (h : Ints s v xs) (hb : xs.length ≤ 2000000) : wpF 52 [v, iv y] s fun r s' => s' = s ∧ r = bv (tt (y ∈ xs)) := by
  obtain ⟨id, off, rfl, hid, hrd⟩ := h.open
  refine C_fn code52 ?_
  repeat' (first
    | refine C_seq ?_ | refine C_ops ?_ | refine C_block ?_ | refine C_skip ?_ | refine C_ret ?_ | refine C_exit ?_
    | refine O_nil ?_ | refine Q_norm ?_ | refine Q_then ?_ | refine Q_thenE ?_ | refine Q_thenR ?_ | refine Q_blockN ?_ | refine Q_blockR ?_ | refine Q_blockS ?_ | refine Q_blockE (by decide) ?_
    | refine Q_roundE ?_ | refine Q_roundR ?_
    | refine O_off rfl ?_
    | refine O_idxN rfl rfl rfl (by omega) ?_ | refine O_idx rfl rfl rfl (by omega) ?_ | refine O_idxArr rfl rfl rfl (by omega) ?_
    | refine O_add rfl rfl rfl (by unfold in64; omega) ?_ | refine O_sub rfl rfl rfl (by unfold in64; omega) ?_
    | refine O_make rfl rfl rfl (by constructor <;> omega) ?_
    | (refine O_lt rfl rfl rfl (fun hc => ?_) (fun hc => ?_) <;> try (exfalso; omega)) | (refine O_le rfl rfl rfl (fun hc => ?_) (fun hc => ?_) <;> try (exfalso; omega))
    | (refine O_gt rfl rfl rfl (fun hc => ?_) (fun hc => ?_) <;> try (exfalso; omega)) | (refine O_ge rfl rfl rfl (fun hc => ?_) (fun hc => ?_) <;> try (exfalso; omega))
    | (refine O_eq rfl rfl rfl (fun hc => ?_) (fun hc => ?_) <;> try (exfalso; omega)) | (refine O_ne rfl rfl rfl (fun hc => ?_) (fun hc => ?_) <;> try (exfalso; omega))
    | refine O_sliceTo rfl rfl rfl (by omega) ?_ | refine C_ifT rfl ?_ | refine C_ifF rfl ?_
    | refine O_p (by rfl) rfl ?_)
  refine C_loopR (fun m fr s' => ∃ i, i ≤ xs.length ∧ m = xs.length - i ∧ fr = [(0, .c (.sl id off xs.length)), (1, iv y), (5, iv i)] ∧ s' = s ∧ y ∉ xs.take i) ?_
    (n := xs.length) ⟨0, Nat.zero_le _, rfl, rfl, rfl, by simp⟩
  rintro m fr s' ⟨i, hi, rfl, rfl, rfl, hno⟩
  repeat' (first
    | refine C_seq ?_ | refine C_ops ?_ | refine C_block ?_ | refine C_skip ?_ | refine C_ret ?_ | refine C_exit ?_
    | refine O_nil ?_ | refine Q_norm ?_ | refine Q_then ?_ | refine Q_thenE ?_ | refine Q_thenR ?_ | refine Q_blockN ?_ | refine Q_blockR ?_ | refine Q_blockS ?_ | refine Q_blockE (by decide) ?_
    | refine Q_roundE ?_ | refine Q_roundR ?_
    | refine O_off rfl ?_
    | refine O_idxN rfl rfl rfl (by omega) ?_ | refine O_idx rfl rfl rfl (by omega) ?_ | refine O_idxArr rfl rfl rfl (by omega) ?_
    | refine O_add rfl rfl rfl (by unfold in64; omega) ?_ | refine O_sub rfl rfl rfl (by unfold in64; omega) ?_
    | refine O_make rfl rfl rfl (by constructor <;> omega) ?_
    | (refine O_lt rfl rfl rfl (fun hc => ?_) (fun hc => ?_) <;> try (exfalso; omega)) | (refine O_le rfl rfl rfl (fun hc => ?_) (fun hc => ?_) <;> try (exfalso; omega))
    | (refine O_gt rfl rfl rfl (fun hc => ?_) (fun hc => ?_) <;> try (exfalso; omega)) | (refine O_ge rfl rfl rfl (fun hc => ?_) (fun hc => ?_) <;> try (exfalso; omega))
    | (refine O_eq rfl rfl rfl (fun hc => ?_) (fun hc => ?_) <;> try (exfalso; omega)) | (refine O_ne rfl rfl rfl (fun hc => ?_) (fun hc => ?_) <;> try (exfalso; omega))
    | refine O_sliceTo rfl rfl rfl (by omega) ?_ | refine C_ifT rfl ?_ | refine C_ifF rfl ?_
    | refine O_p (by rfl) rfl ?_)
  · have hi' : i < xs.length := by omega
    obtain ⟨x, hx⟩ : ∃ x, xs[i]? = some x := ⟨_, List.getElem?_eq_getElem hi'⟩
    refine O_load rfl rfl (by rw [Nat.mul_one]; exact hrd i x hx) ?_
    repeat' (first
    | refine C_seq ?_ | refine C_ops ?_ | refine C_block ?_ | refine C_skip ?_ | refine C_ret ?_ | refine C_exit ?_
    | refine O_nil ?_ | refine Q_norm ?_ | refine Q_then ?_ | refine Q_thenE ?_ | refine Q_thenR ?_ | refine Q_blockN ?_ | refine Q_blockR ?_ | refine Q_blockS ?_ | refine Q_blockE (by decide) ?_
    | refine Q_roundE ?_ | refine Q_roundR ?_
    | refine O_off rfl ?_
    | refine O_idxN rfl rfl rfl (by omega) ?_ | refine O_idx rfl rfl rfl (by omega) ?_ | refine O_idxArr rfl rfl rfl (by omega) ?_
    | refine O_add rfl rfl rfl (by unfold in64; omega) ?_ | refine O_sub rfl rfl rfl (by unfold in64; omega) ?_
    | refine O_make rfl rfl rfl (by constructor <;> omega) ?_
    | (refine O_lt rfl rfl rfl (fun hc => ?_) (fun hc => ?_) <;> try (exfalso; omega)) | (refine O_le rfl rfl rfl (fun hc => ?_) (fun hc => ?_) <;> try (exfalso; omega))
    | (refine O_gt rfl rfl rfl (fun hc => ?_) (fun hc => ?_) <;> try (exfalso; omega)) | (refine O_ge rfl rfl rfl (fun hc => ?_) (fun hc => ?_) <;> try (exfalso; omega))
    | (refine O_eq rfl rfl rfl (fun hc => ?_) (fun hc => ?_) <;> try (exfalso; omega)) | (refine O_ne rfl rfl rfl (fun hc => ?_) (fun hc => ?_) <;> try (exfalso; omega))
    | refine O_sliceTo rfl rfl rfl (by omega) ?_ | refine C_ifT rfl ?_ | refine C_ifF rfl ?_
    | refine O_p (by rfl) rfl ?_)
    · subst hc
      exact Q_ret rfl ⟨rfl, bv_t (List.mem_of_getElem? hx)⟩
    · refine Q_round (m := xs.length - (i + 1)) (by omega) ⟨i + 1, hi', rfl, rfl, rfl, ?_⟩
      rw [List.take_add_one, hx]
      simp [hno, Ne.symm hc]
  · have hi' : i = xs.length := by omega
    rw [hi', List.take_length] at hno
    exact Q_ret rfl ⟨rfl, bv_f hno⟩

end Go.Proofs.Ythdaoanapklaiaa
/- What the reference says of tables that turn. -/
namespace Go.Proofs.Ythdaoanapklaiaa
open Go Go.RowKit
set_option linter.unusedVariables false
set_option linter.unusedSimpArgs false
set_option maxRecDepth 100000
-- spec.l04Table
def L36 : AFun := ⟨29, [.t 2],
 (.seq (.ops false [⟨(some 2), .mv (.k (bv false)), none, []⟩])
 (.seq (.seq (.ops false [⟨(some 3), .mv (.k (iv 0)), none, []⟩])
  (.block 0 (.loop [0, 3] (.seq (.seq (.ops false [⟨(some 4), .mv (.t 3), none, []⟩,
       ⟨(some 5), .mv (.t 0), none, []⟩,
       ⟨(some 6), .len false (.t 5), none, []⟩,
       ⟨(some 7), .bin .lss (.t 4) (.t 6), none, []⟩])
     (.cond (.t 7) .skip
      (.exit 0)))
    (.seq (.block 1 (.seq (.ops true [⟨(some 10), .mv (.t 0), none, []⟩,
        ⟨(some 11), .mv (.t 3), none, []⟩,
        ⟨(some 12), .idxA 1 (.t 10) (.t 11), none, []⟩,
        ⟨(some 13), .load false 1 (.t 12), none, []⟩,
        ⟨(some 14), .call (.f 51) [(.t 13), (.k (iv 0)), (.k (iv 15))], none, []⟩,
        ⟨(some 15), .un .not (.t 14), none, []⟩,
        ⟨(some 16), .mv (.t 15), none, []⟩,
        ⟨(some 17), .mv (.t 0), (some (16, false)), []⟩,
        ⟨(some 18), .mv (.t 3), (some (16, false)), []⟩,
        ⟨(some 19), .slice 1 (.t 17) none (some (.t 18)), (some (16, false)), []⟩,
        ⟨(some 20), .mv (.t 0), (some (16, false)), []⟩,
        ⟨(some 21), .mv (.t 3), (some (16, false)), []⟩,
        ⟨(some 22), .idxA 1 (.t 20) (.t 21), (some (16, false)), []⟩,
        ⟨(some 23), .load false 1 (.t 22), (some (16, false)), []⟩,
        ⟨(some 24), .call (.f 52) [(.t 19), (.t 23)], (some (16, false)), []⟩,
        ⟨(some 25), .pick (.t 16) (.k (bv true)) (.t 24), none, []⟩])
      (.cond (.t 25) (.seq (.ops false [⟨(some 2), .mv (.k (bv false)), none, []⟩])
       .ret)
       .skip)))
    (.ops false [⟨(some 8), .mv (.t 3), none, []⟩,
     ⟨(some 9), .bin .add (.t 8) (.k (iv 1)), none, []⟩,
     ⟨(some 3), .mv (.t 9), none, []⟩]))))))
 (.seq (.ops false [⟨(some 26), .mv (.t 0), none, []⟩,
   ⟨(some 27), .len false (.t 26), none, []⟩,
   ⟨(some 28), .bin .eql (.t 27) (.k (iv 16)), none, []⟩,
   ⟨(some 2), .mv (.t 28), none, []⟩])
 .ret)))⟩
theorem code36 : acode Try.prog hints 36 = some L36 := by kernel_rfl

-- spec.IsTurnTable
def L10 : AFun := ⟨5, [.t 2],
 (.seq (.ops false [⟨(some 2), .mv (.k (bv false)), none, []⟩])
 (.seq (.ops false [⟨(some 3), .mv (.t 0), none, []⟩,
   ⟨(some 4), .call (.f 36) [(.t 3)], none, []⟩,
   ⟨(some 2), .mv (.t 4), none, []⟩])
 .ret))⟩
theorem code10 : acode Try.prog hints 10 = some L10 := by kernel_rfl

/-- A table that tells how pairs of pairs turn. -/
def TurnUpTo (xs : List Int) (i : Nat) : Prop := ∀ j x, j < i → xs[j]? = some x → (0 ≤ x ∧ x ≤ 15) ∧ x ∉ xs.take j
def Turn (xs : List Int) : Prop := xs.length = 16 ∧ TurnUpTo xs xs.length
theorem TurnUpTo.succ {xs : List Int} {i : Nat} {x : Int} (h : TurnUpTo xs i) (hx : xs[i]? = some x) (h1 : 0 ≤ x ∧ x ≤ 15) (h2 : x ∉ xs.take i) : TurnUpTo xs (i + 1) := by
  intro j y hj hy
  by_cases e : j = i
  · subst e; rw [hx] at hy; obtain rfl := Option.some.inj hy; exact ⟨h1, h2⟩
  · exact h j y (by omega) hy

theorem c_l04Table {s : St} {v : AV} {xs : List Int} (h : Ints s v xs) (hb : xs.length ≤ 2000000) : wpF 36 [v] s fun r s' => s' = s ∧ r = bv (tt (Turn xs)) := by
  obtain ⟨id, off, rfl, hid, hrd⟩ := h.open
  refine C_fn code36 ?_
  repeat' (first
    | refine C_seq ?_ | refine C_ops ?_ | refine C_block ?_ | refine C_skip ?_ | refine C_ret ?_ | refine C_exit ?_
    | refine O_nil ?_ | refine Q_norm ?_ | refine Q_then ?_ | refine Q_thenE ?_ | refine Q_thenR ?_ | refine Q_blockN ?_ | refine Q_blockR ?_ | refine Q_blockS ?_ | refine Q_blockE (by decide) ?_
    | refine Q_roundE ?_ | refine Q_roundR ?_
    | refine O_off rfl ?_
    | refine O_idxN rfl rfl rfl (by omega) ?_ | refine O_idx rfl rfl rfl (by omega) ?_ | refine O_idxArr rfl rfl rfl (by omega) ?_
    | refine O_add rfl rfl rfl (by unfold in64; omega) ?_ | refine O_sub rfl rfl rfl (by unfold in64; omega) ?_
    | refine O_make rfl rfl rfl (by constructor <;> omega) ?_
    | (refine O_lt rfl rfl rfl (fun hc => ?_) (fun hc => ?_) <;> try (exfalso; omega)) | (refine O_le rfl rfl rfl (fun hc => ?_) (fun hc => ?_) <;> try (exfalso; omega))
    | (refine O_gt rfl rfl rfl (fun hc => ?_) (fun hc => ?_) <;> try (exfalso; omega)) | (refine O_ge rfl rfl rfl (fun hc => ?_) (fun hc => ?_) <;> try (exfalso; omega))
    | (refine O_eq rfl rfl rfl (fun hc => ?_) (fun hc => ?_) <;> try (exfalso; omega)) | (refine O_ne rfl rfl rfl (fun hc => ?_) (fun hc => ?_) <;> try (exfalso; omega))
    | refine O_sliceTo rfl rfl rfl (by omega) ?_ | refine C_ifT rfl ?_ | refine C_ifF rfl ?_
    | refine O_p (by rfl) rfl ?_)
  refine C_loopR (fun m fr s' => ∃ i, i ≤ xs.length ∧ m = xs.length - i ∧ fr = [(0, .c (.sl id off xs.length)), (3, iv i)] ∧ s' = s ∧ TurnUpTo xs i) ?_
    (n := xs.length) ⟨0, Nat.zero_le _, rfl, rfl, rfl, fun j x hj => absurd hj (by omega)⟩
  rintro m fr s' ⟨i, hi, rfl, rfl, rfl, hup⟩
  repeat' (first
    | refine C_seq ?_ | refine C_ops ?_ | refine C_block ?_ | refine C_skip ?_ | refine C_ret ?_ | refine C_exit ?_
    | refine O_nil ?_ | refine Q_norm ?_ | refine Q_then ?_ | refine Q_thenE ?_ | refine Q_thenR ?_ | refine Q_blockN ?_ | refine Q_blockR ?_ | refine Q_blockS ?_ | refine Q_blockE (by decide) ?_
    | refine Q_roundE ?_ | refine Q_roundR ?_
    | refine O_off rfl ?_
    | refine O_idxN rfl rfl rfl (by omega) ?_ | refine O_idx rfl rfl rfl (by omega) ?_ | refine O_idxArr rfl rfl rfl (by omega) ?_
    | refine O_add rfl rfl rfl (by unfold in64; omega) ?_ | refine O_sub rfl rfl rfl (by unfold in64; omega) ?_
    | refine O_make rfl rfl rfl (by constructor <;> omega) ?_
    | (refine O_lt rfl rfl rfl (fun hc => ?_) (fun hc => ?_) <;> try (exfalso; omega)) | (refine O_le rfl rfl rfl (fun hc => ?_) (fun hc => ?_) <;> try (exfalso; omega))
    | (refine O_gt rfl rfl rfl (fun hc => ?_) (fun hc => ?_) <;> try (exfalso; omega)) | (refine O_ge rfl rfl rfl (fun hc => ?_) (fun hc => ?_) <;> try (exfalso; omega))
    | (refine O_eq rfl rfl rfl (fun hc => ?_) (fun hc => ?_) <;> try (exfalso; omega)) | (refine O_ne rfl rfl rfl (fun hc => ?_) (fun hc => ?_) <;> try (exfalso; omega))
    | refine O_sliceTo rfl rfl rfl (by omega) ?_ | refine C_ifT rfl ?_ | refine C_ifF rfl ?_
    | refine O_p (by rfl) rfl ?_)
  · have hi' : i < xs.length := by omega
    obtain ⟨x, hx⟩ : ∃ x, xs[i]? = some x := ⟨_, List.getElem?_eq_getElem hi'⟩
    refine O_load rfl rfl (by rw [Nat.mul_one]; exact hrd i x hx) ?_
    refine O_call rfl rfl c_in ?_
    rintro _ _ ⟨rfl, rfl⟩
    by_cases h1 : 0 ≤ x ∧ x ≤ 15
    · rw [tt_t h1]
      repeat' (first
    | refine C_seq ?_ | refine C_ops ?_ | refine C_block ?_ | refine C_skip ?_ | refine C_ret ?_ | refine C_exit ?_
    | refine O_nil ?_ | refine Q_norm ?_ | refine Q_then ?_ | refine Q_thenE ?_ | refine Q_thenR ?_ | refine Q_blockN ?_ | refine Q_blockR ?_ | refine Q_blockS ?_ | refine Q_blockE (by decide) ?_
    | refine Q_roundE ?_ | refine Q_roundR ?_
    | refine O_off rfl ?_
    | refine O_idxN rfl rfl rfl (by omega) ?_ | refine O_idx rfl rfl rfl (by omega) ?_ | refine O_idxArr rfl rfl rfl (by omega) ?_
    | refine O_add rfl rfl rfl (by unfold in64; omega) ?_ | refine O_sub rfl rfl rfl (by unfold in64; omega) ?_
    | refine O_make rfl rfl rfl (by constructor <;> omega) ?_
    | (refine O_lt rfl rfl rfl (fun hc => ?_) (fun hc => ?_) <;> try (exfalso; omega)) | (refine O_le rfl rfl rfl (fun hc => ?_) (fun hc => ?_) <;> try (exfalso; omega))
    | (refine O_gt rfl rfl rfl (fun hc => ?_) (fun hc => ?_) <;> try (exfalso; omega)) | (refine O_ge rfl rfl rfl (fun hc => ?_) (fun hc => ?_) <;> try (exfalso; omega))
    | (refine O_eq rfl rfl rfl (fun hc => ?_) (fun hc => ?_) <;> try (exfalso; omega)) | (refine O_ne rfl rfl rfl (fun hc => ?_) (fun hc => ?_) <;> try (exfalso; omega))
    | refine O_sliceTo rfl rfl rfl (by omega) ?_ | refine C_ifT rfl ?_ | refine C_ifF rfl ?_
    | refine O_p (by rfl) rfl ?_)
      refine O_load rfl rfl (by rw [Nat.mul_one]; exact hrd i x hx) ?_
      refine O_call rfl rfl (c_has (h.takeN hi) (by simp; omega)) ?_
      rintro _ _ ⟨rfl, rfl⟩
      by_cases h2 : x ∈ xs.take i
      · rw [tt_t h2]
        repeat' (first
    | refine C_seq ?_ | refine C_ops ?_ | refine C_block ?_ | refine C_skip ?_ | refine C_ret ?_ | refine C_exit ?_
    | refine O_nil ?_ | refine Q_norm ?_ | refine Q_then ?_ | refine Q_thenE ?_ | refine Q_thenR ?_ | refine Q_blockN ?_ | refine Q_blockR ?_ | refine Q_blockS ?_ | refine Q_blockE (by decide) ?_
    | refine Q_roundE ?_ | refine Q_roundR ?_
    | refine O_off rfl ?_
    | refine O_idxN rfl rfl rfl (by omega) ?_ | refine O_idx rfl rfl rfl (by omega) ?_ | refine O_idxArr rfl rfl rfl (by omega) ?_
    | refine O_add rfl rfl rfl (by unfold in64; omega) ?_ | refine O_sub rfl rfl rfl (by unfold in64; omega) ?_
    | refine O_make rfl rfl rfl (by constructor <;> omega) ?_
    | (refine O_lt rfl rfl rfl (fun hc => ?_) (fun hc => ?_) <;> try (exfalso; omega)) | (refine O_le rfl rfl rfl (fun hc => ?_) (fun hc => ?_) <;> try (exfalso; omega))
    | (refine O_gt rfl rfl rfl (fun hc => ?_) (fun hc => ?_) <;> try (exfalso; omega)) | (refine O_ge rfl rfl rfl (fun hc => ?_) (fun hc => ?_) <;> try (exfalso; omega))
    | (refine O_eq rfl rfl rfl (fun hc => ?_) (fun hc => ?_) <;> try (exfalso; omega)) | (refine O_ne rfl rfl rfl (fun hc => ?_) (fun hc => ?_) <;> try (exfalso; omega))
    | refine O_sliceTo rfl rfl rfl (by omega) ?_ | refine C_ifT rfl ?_ | refine C_ifF rfl ?_
    | refine O_p (by rfl) rfl ?_)
        exact Q_ret rfl ⟨rfl, bv_f fun ht => (ht.2 i x hi' hx).2 h2⟩
      · rw [tt_f h2]
        repeat' (first
    | refine C_seq ?_ | refine C_ops ?_ | refine C_block ?_ | refine C_skip ?_ | refine C_ret ?_ | refine C_exit ?_
    | refine O_nil ?_ | refine Q_norm ?_ | refine Q_then ?_ | refine Q_thenE ?_ | refine Q_thenR ?_ | refine Q_blockN ?_ | refine Q_blockR ?_ | refine Q_blockS ?_ | refine Q_blockE (by decide) ?_
    | refine Q_roundE ?_ | refine Q_roundR ?_
    | refine O_off rfl ?_
    | refine O_idxN rfl rfl rfl (by omega) ?_ | refine O_idx rfl rfl rfl (by omega) ?_ | refine O_idxArr rfl rfl rfl (by omega) ?_
    | refine O_add rfl rfl rfl (by unfold in64; omega) ?_ | refine O_sub rfl rfl rfl (by unfold in64; omega) ?_
    | refine O_make rfl rfl rfl (by constructor <;> omega) ?_
    | (refine O_lt rfl rfl rfl (fun hc => ?_) (fun hc => ?_) <;> try (exfalso; omega)) | (refine O_le rfl rfl rfl (fun hc => ?_) (fun hc => ?_) <;> try (exfalso; omega))
    | (refine O_gt rfl rfl rfl (fun hc => ?_) (fun hc => ?_) <;> try (exfalso; omega)) | (refine O_ge rfl rfl rfl (fun hc => ?_) (fun hc => ?_) <;> try (exfalso; omega))
    | (refine O_eq rfl rfl rfl (fun hc => ?_) (fun hc => ?_) <;> try (exfalso; omega)) | (refine O_ne rfl rfl rfl (fun hc => ?_) (fun hc => ?_) <;> try (exfalso; omega))
    | refine O_sliceTo rfl rfl rfl (by omega) ?_ | refine C_ifT rfl ?_ | refine C_ifF rfl ?_
    | refine O_p (by rfl) rfl ?_)
        exact Q_round (m := xs.length - (i + 1)) (by omega) ⟨i + 1, hi', rfl, rfl, rfl, hup.succ hx h1 h2⟩
    · rw [tt_f h1]
      repeat' (first
    | refine C_seq ?_ | refine C_ops ?_ | refine C_block ?_ | refine C_skip ?_ | refine C_ret ?_ | refine C_exit ?_
    | refine O_nil ?_ | refine Q_norm ?_ | refine Q_then ?_ | refine Q_thenE ?_ | refine Q_thenR ?_ | refine Q_blockN ?_ | refine Q_blockR ?_ | refine Q_blockS ?_ | refine Q_blockE (by decide) ?_
    | refine Q_roundE ?_ | refine Q_roundR ?_
    | refine O_off rfl ?_
    | refine O_idxN rfl rfl rfl (by omega) ?_ | refine O_idx rfl rfl rfl (by omega) ?_ | refine O_idxArr rfl rfl rfl (by omega) ?_
    | refine O_add rfl rfl rfl (by unfold in64; omega) ?_ | refine O_sub rfl rfl rfl (by unfold in64; omega) ?_
    | refine O_make rfl rfl rfl (by constructor <;> omega) ?_
    | (refine O_lt rfl rfl rfl (fun hc => ?_) (fun hc => ?_) <;> try (exfalso; omega)) | (refine O_le rfl rfl rfl (fun hc => ?_) (fun hc => ?_) <;> try (exfalso; omega))
    | (refine O_gt rfl rfl rfl (fun hc => ?_) (fun hc => ?_) <;> try (exfalso; omega)) | (refine O_ge rfl rfl rfl (fun hc => ?_) (fun hc => ?_) <;> try (exfalso; omega))
    | (refine O_eq rfl rfl rfl (fun hc => ?_) (fun hc => ?_) <;> try (exfalso; omega)) | (refine O_ne rfl rfl rfl (fun hc => ?_) (fun hc => ?_) <;> try (exfalso; omega))
    | refine O_sliceTo rfl rfl rfl (by omega) ?_ | refine C_ifT rfl ?_ | refine C_ifF rfl ?_
    | refine O_p (by rfl) rfl ?_)
      exact Q_ret rfl ⟨rfl, bv_f fun ht => h1 (ht.2 i x hi' hx).1⟩
  · have hi' : i = xs.length := by omega
    subst hi'
    exact Q_ret rfl ⟨rfl, bv_t ⟨by omega, hup⟩⟩
  · have hi' : i = xs.length := by omega
    subst hi'
    exact Q_ret rfl ⟨rfl, bv_f fun ht => by have := ht.1; omega⟩

theorem c_specTurn {s : St} {v : AV} {xs : List Int} (h : Ints s v xs) (hb : xs.length ≤ 2000000) : wpF 10 [v] s fun r s' => s' = s ∧ r = bv (tt (Turn xs)) := by
  refine C_fn code10 ?_
  repeat' (first
    | refine C_seq ?_ | refine C_ops ?_ | refine C_block ?_ | refine C_skip ?_ | refine C_ret ?_ | refine C_exit ?_
    | refine O_nil ?_ | refine Q_norm ?_ | refine Q_then ?_ | refine Q_thenE ?_ | refine Q_thenR ?_ | refine Q_blockN ?_ | refine Q_blockR ?_ | refine Q_blockS ?_ | refine Q_blockE (by decide) ?_
    | refine Q_roundE ?_ | refine Q_roundR ?_
    | refine O_off rfl ?_
    | refine O_idxN rfl rfl rfl (by omega) ?_ | refine O_idx rfl rfl rfl (by omega) ?_ | refine O_idxArr rfl rfl rfl (by omega) ?_
    | refine O_add rfl rfl rfl (by unfold in64; omega) ?_ | refine O_sub rfl rfl rfl (by unfold in64; omega) ?_
    | refine O_make rfl rfl rfl (by constructor <;> omega) ?_
    | (refine O_lt rfl rfl rfl (fun hc => ?_) (fun hc => ?_) <;> try (exfalso; omega)) | (refine O_le rfl rfl rfl (fun hc => ?_) (fun hc => ?_) <;> try (exfalso; omega))
    | (refine O_gt rfl rfl rfl (fun hc => ?_) (fun hc => ?_) <;> try (exfalso; omega)) | (refine O_ge rfl rfl rfl (fun hc => ?_) (fun hc => ?_) <;> try (exfalso; omega))
    | (refine O_eq rfl rfl rfl (fun hc => ?_) (fun hc => ?_) <;> try (exfalso; omega)) | (refine O_ne rfl rfl rfl (fun hc => ?_) (fun hc => ?_) <;> try (exfalso; omega))
    | refine O_sliceTo rfl rfl rfl (by omega) ?_ | refine C_ifT rfl ?_ | refine C_ifF rfl ?_
    | refine O_p (by rfl) rfl ?_)
  refine O_call rfl rfl (c_l04Table h hb) ?_
  rintro _ _ ⟨rfl, rfl⟩
  repeat' (first
    | refine C_seq ?_ | refine C_ops ?_ | refine C_block ?_ | refine C_skip ?_ | refine C_ret ?_ | refine C_exit ?_
    | refine O_nil ?_ | refine Q_norm ?_ | refine Q_then ?_ | refine Q_thenE ?_ | refine Q_thenR ?_ | refine Q_blockN ?_ | refine Q_blockR ?_ | refine Q_blockS ?_ | refine Q_blockE (by decide) ?_
    | refine Q_roundE ?_ | refine Q_roundR ?_
    | refine O_off rfl ?_
    | refine O_idxN rfl rfl rfl (by omega) ?_ | refine O_idx rfl rfl rfl (by omega) ?_ | refine O_idxArr rfl rfl rfl (by omega) ?_
    | refine O_add rfl rfl rfl (by unfold in64; omega) ?_ | refine O_sub rfl rfl rfl (by unfold in64; omega) ?_
    | refine O_make rfl rfl rfl (by constructor <;> omega) ?_
    | (refine O_lt rfl rfl rfl (fun hc => ?_) (fun hc => ?_) <;> try (exfalso; omega)) | (refine O_le rfl rfl rfl (fun hc => ?_) (fun hc => ?_) <;> try (exfalso; omega))
    | (refine O_gt rfl rfl rfl (fun hc => ?_) (fun hc => ?_) <;> try (exfalso; omega)) | (refine O_ge rfl rfl rfl (fun hc => ?_) (fun hc => ?_) <;> try (exfalso; omega))
    | (refine O_eq rfl rfl rfl (fun hc => ?_) (fun hc => ?_) <;> try (exfalso; omega)) | (refine O_ne rfl rfl rfl (fun hc => ?_) (fun hc => ?_) <;> try (exfalso; omega))
    | refine O_sliceTo rfl rfl rfl (by omega) ?_ | refine C_ifT rfl ?_ | refine C_ifF rfl ?_
    | refine O_p (by rfl) rfl ?_)
  exact Q_ret rfl ⟨rfl, rfl⟩



end Go.Proofs.Ythdaoanapklaiaa
/- What within does. -/
namespace Go.Proofs.Ythdaoanapklaiaa
open Go Go.RowKit
set_option linter.unusedVariables false
set_option linter.unusedSimpArgs false
set_option maxRecDepth 100000
-- impl.within
def L37 : AFun := ⟨15, [.t 6],
 (.seq (.ops false [⟨(some 6), .mv (.k (bv false)), none, []⟩])
 (.seq (.ops false [⟨(some 7), .mv (.t 0), none, []⟩,
   ⟨(some 8), .mv (.t 1), none, []⟩,
   ⟨(some 9), .bin .geq (.t 7) (.t 8), none, []⟩,
   ⟨(some 10), .mv (.t 9), none, []⟩,
   ⟨(some 11), .mv (.t 0), (some (10, true)), []⟩,
   ⟨(some 12), .mv (.t 2), (some (10, true)), []⟩,
   ⟨(some 13), .bin .leq (.t 11) (.t 12), (some (10, true)), []⟩,
   ⟨(some 14), .pick (.t 10) (.t 13) (.k (bv false)), none, []⟩,
   ⟨(some 6), .mv (.t 14), none, []⟩])
 .ret))⟩
theorem code37 : acode Try.prog hints 37 = some L37 := by kernel_rfl

theorem c_within {s : St} {x a b : Int} : wpF 37 [iv x, iv a, iv b] s fun r s' => s' = s ∧ r = bv (tt (a ≤ x ∧ x ≤ b)) := by
  refine C_fn code37 ?_
  repeat' (first
    | refine C_seq ?_ | refine C_ops ?_ | refine C_block ?_ | refine C_skip ?_ | refine C_ret ?_ | refine C_exit ?_
    | refine O_nil ?_ | refine Q_norm ?_ | refine Q_then ?_ | refine Q_thenE ?_ | refine Q_thenR ?_ | refine Q_blockN ?_ | refine Q_blockR ?_ | refine Q_blockS ?_ | refine Q_blockE (by decide) ?_
    | refine Q_roundE ?_ | refine Q_roundR ?_
    | refine O_off rfl ?_
    | refine O_idxN rfl rfl rfl (by omega) ?_ | refine O_idx rfl rfl rfl (by omega) ?_ | refine O_idxArr rfl rfl rfl (by omega) ?_
    | refine O_add rfl rfl rfl (by unfold in64; omega) ?_ | refine O_sub rfl rfl rfl (by unfold in64; omega) ?_
    | refine O_make rfl rfl rfl (by constructor <;> omega) ?_
    | (refine O_lt rfl rfl rfl (fun hc => ?_) (fun hc => ?_) <;> try (exfalso; omega)) | (refine O_le rfl rfl rfl (fun hc => ?_) (fun hc => ?_) <;> try (exfalso; omega))
    | (refine O_gt rfl rfl rfl (fun hc => ?_) (fun hc => ?_) <;> try (exfalso; omega)) | (refine O_ge rfl rfl rfl (fun hc => ?_) (fun hc => ?_) <;> try (exfalso; omega))
    | (refine O_eq rfl rfl rfl (fun hc => ?_) (fun hc => ?_) <;> try (exfalso; omega)) | (refine O_ne rfl rfl rfl (fun hc => ?_) (fun hc => ?_) <;> try (exfalso; omega))
    | refine O_sliceTo rfl rfl rfl (by omega) ?_ | refine C_ifT rfl ?_ | refine C_ifF rfl ?_
    | refine O_p (by rfl) rfl ?_)
  · exact Q_ret rfl ⟨rfl, bv_t ⟨by omega, by omega⟩⟩
  · exact Q_ret rfl ⟨rfl, bv_f (by omega)⟩
  · exact Q_ret rfl ⟨rfl, bv_f (by omega)⟩



end Go.Proofs.Ythdaoanapklaiaa
/- What the program says of tables that turn. -/
namespace Go.Proofs.Ythdaoanapklaiaa
open Go Go.RowKit
set_option linter.unusedVariables false
set_option linter.unusedSimpArgs false
set_option maxRecDepth 100000
-- impl.IsTurnTable
def L12 : AFun := ⟨27, [.t 2],
 (.seq (.ops false [⟨(some 2), .mv (.k (bv false)), none, []⟩])
 (.seq (.ops false [⟨(some 6), .build [.bool false, .bool false, .bool false, .bool false, .bool false, .bool false, .bool false, .bool false, .bool false, .bool false, .bool false, .bool false, .bool false, .bool false, .bool false, .bool false] [], none, []⟩,
   ⟨(some 3), .alloc 51 [.bool false, .bool false, .bool false, .bool false, .bool false, .bool false, .bool false, .bool false, .bool false, .bool false, .bool false, .bool false, .bool false, .bool false, .bool false, .bool false], none, []⟩,
   ⟨none, .store 16 (.t 3) (.t 6), none, []⟩])
 (.seq (.seq (.ops false [⟨(some 7), .mv (.t 0), none, []⟩,
    ⟨(some 8), .len false (.t 7), none, []⟩,
    ⟨(some 9), .mv (.k (iv 0)), none, []⟩])
  (.block 0 (.loop [0, 3, 7, 8, 9] (.seq (.ops false [⟨(some 10), .bin .lss (.t 9) (.t 8), none, []⟩])
    (.seq (.cond (.t 10) .skip
      (.exit 0))
    (.seq (.block 1 (.seq (.ops false [⟨(some 11), .idxA 1 (.t 7) (.t 9), none, []⟩,
        ⟨(some 12), .load false 1 (.t 11), none, []⟩,
        ⟨(some 5), .mv (.t 12), none, []⟩])
      (.seq (.seq (.ops false [⟨(some 13), .mv (.t 5), none, []⟩,
         ⟨(some 14), .call (.f 37) [(.t 13), (.k (iv 0)), (.k (iv 15))], none, []⟩,
         ⟨(some 15), .un .not (.t 14), none, []⟩,
         ⟨(some 16), .mv (.t 15), none, []⟩,
         ⟨(some 17), .mv (.t 5), (some (16, false)), []⟩,
         ⟨(some 18), .idxArr 16 1 (.t 3) (.t 17), (some (16, false)), []⟩,
         ⟨(some 19), .load false 1 (.t 18), (some (16, false)), []⟩,
         ⟨(some 20), .pick (.t 16) (.k (bv true)) (.t 19), none, []⟩])
       (.cond (.t 20) (.seq (.ops false [⟨(some 2), .mv (.k (bv false)), none, []⟩])
        .ret)
        .skip))
      (.ops false [⟨(some 21), .mv (.t 5), none, []⟩,
       ⟨(some 22), .idxArr 16 1 (.t 3) (.t 21), none, []⟩,
       ⟨none, .store 1 (.t 22) (.k (bv true)), none, []⟩]))))
    (.ops false [⟨(some 23), .bin .add (.t 9) (.k (iv 1)), none, []⟩,
     ⟨(some 9), .mv (.t 23), none, []⟩])))))))
 (.seq (.ops false [⟨(some 24), .mv (.t 0), none, []⟩,
   ⟨(some 25), .len false (.t 24), none, []⟩,
   ⟨(some 26), .bin .eql (.t 25) (.k (iv 16)), none, []⟩,
   ⟨(some 2), .mv (.t 26), none, []⟩])
 .ret))))⟩
theorem code12 : acode Try.prog hints 12 = some L12 := by kernel_rfl

theorem c_implTurn {s : St} {v : AV} {xs : List Int} (h : Ints s v xs) (hb : xs.length ≤ 2000000) : wpF 12 [v] s fun r s' => Keep s s' ∧ r = bv (tt (Turn xs)) := by
  obtain ⟨id, off, rfl, hid, hrd⟩ := h.open
  refine C_fn code12 ?_
  repeat' (first
    | refine C_seq ?_ | refine C_ops ?_ | refine C_block ?_ | refine C_skip ?_ | refine C_ret ?_ | refine C_exit ?_
    | refine O_nil ?_ | refine Q_norm ?_ | refine Q_then ?_ | refine Q_thenE ?_ | refine Q_thenR ?_ | refine Q_blockN ?_ | refine Q_blockR ?_ | refine Q_blockS ?_ | refine Q_blockE (by decide) ?_
    | refine Q_roundE ?_ | refine Q_roundR ?_
    | refine O_off rfl ?_
    | refine O_idxN rfl rfl rfl (by omega) ?_ | refine O_idx rfl rfl rfl (by omega) ?_ | refine O_idxArr rfl rfl rfl (by omega) ?_
    | refine O_add rfl rfl rfl (by unfold in64; omega) ?_ | refine O_sub rfl rfl rfl (by unfold in64; omega) ?_
    | refine O_make rfl rfl rfl (by constructor <;> omega) ?_
    | (refine O_lt rfl rfl rfl (fun hc => ?_) (fun hc => ?_) <;> try (exfalso; omega)) | (refine O_le rfl rfl rfl (fun hc => ?_) (fun hc => ?_) <;> try (exfalso; omega))
    | (refine O_gt rfl rfl rfl (fun hc => ?_) (fun hc => ?_) <;> try (exfalso; omega)) | (refine O_ge rfl rfl rfl (fun hc => ?_) (fun hc => ?_) <;> try (exfalso; omega))
    | (refine O_eq rfl rfl rfl (fun hc => ?_) (fun hc => ?_) <;> try (exfalso; omega)) | (refine O_ne rfl rfl rfl (fun hc => ?_) (fun hc => ?_) <;> try (exfalso; omega))
    | refine O_sliceTo rfl rfl rfl (by omega) ?_ | refine C_ifT rfl ?_ | refine C_ifF rfl ?_
    | refine O_p (by rfl) rfl ?_)
  refine O_a (oo := some _) rfl rfl ?_
  refine O_store (p := .agg _) rfl rfl rfl (by simp only [St.new]; exact upd_eq _ _ _) rfl (by simp) ?_
  repeat' (first
    | refine C_seq ?_ | refine C_ops ?_ | refine C_block ?_ | refine C_skip ?_ | refine C_ret ?_ | refine C_exit ?_
    | refine O_nil ?_ | refine Q_norm ?_ | refine Q_then ?_ | refine Q_thenE ?_ | refine Q_thenR ?_ | refine Q_blockN ?_ | refine Q_blockR ?_ | refine Q_blockS ?_ | refine Q_blockE (by decide) ?_
    | refine Q_roundE ?_ | refine Q_roundR ?_
    | refine O_off rfl ?_
    | refine O_idxN rfl rfl rfl (by omega) ?_ | refine O_idx rfl rfl rfl (by omega) ?_ | refine O_idxArr rfl rfl rfl (by omega) ?_
    | refine O_add rfl rfl rfl (by unfold in64; omega) ?_ | refine O_sub rfl rfl rfl (by unfold in64; omega) ?_
    | refine O_make rfl rfl rfl (by constructor <;> omega) ?_
    | (refine O_lt rfl rfl rfl (fun hc => ?_) (fun hc => ?_) <;> try (exfalso; omega)) | (refine O_le rfl rfl rfl (fun hc => ?_) (fun hc => ?_) <;> try (exfalso; omega))
    | (refine O_gt rfl rfl rfl (fun hc => ?_) (fun hc => ?_) <;> try (exfalso; omega)) | (refine O_ge rfl rfl rfl (fun hc => ?_) (fun hc => ?_) <;> try (exfalso; omega))
    | (refine O_eq rfl rfl rfl (fun hc => ?_) (fun hc => ?_) <;> try (exfalso; omega)) | (refine O_ne rfl rfl rfl (fun hc => ?_) (fun hc => ?_) <;> try (exfalso; omega))
    | refine O_sliceTo rfl rfl rfl (by omega) ?_ | refine C_ifT rfl ?_ | refine C_ifF rfl ?_
    | refine O_p (by rfl) rfl ?_)
  refine C_loopR (fun m fr s' => ∃ (i : Nat) (bs : List Bool), i ≤ xs.length ∧ m = xs.length - i ∧ fr = [(0, .c (.sl id off xs.length)), (3, .c (.ptr s.n 0)), (7, .c (.sl id off xs.length)), (8, iv xs.length), (9, iv i)] ∧ Keep s s' ∧ s'.h s.n = some (.rw 51 16 (bs.map AC.bool)) ∧
      bs.length = 16 ∧ TurnUpTo xs i ∧ ∀ (j : Nat) b, bs[j]? = some b → (b = true ↔ (j : Int) ∈ xs.take i)) ?_
    (n := xs.length) ⟨0, List.replicate 16 false, Nat.zero_le _, rfl, rfl, ((Keep.refl s).new _).put (Nat.le_refl _) _, by simp only [upd_eq]; rfl, rfl, fun j x hj => absurd hj (by omega), fun j b hb => by
      have := List.mem_replicate.1 (List.mem_of_getElem? hb); simp [this.2]⟩
  rintro m fr s' ⟨i, bs, hi, rfl, rfl, hk, ho, hbl, hup, hbs⟩
  repeat' (first
    | refine C_seq ?_ | refine C_ops ?_ | refine C_block ?_ | refine C_skip ?_ | refine C_ret ?_ | refine C_exit ?_
    | refine O_nil ?_ | refine Q_norm ?_ | refine Q_then ?_ | refine Q_thenE ?_ | refine Q_thenR ?_ | refine Q_blockN ?_ | refine Q_blockR ?_ | refine Q_blockS ?_ | refine Q_blockE (by decide) ?_
    | refine Q_roundE ?_ | refine Q_roundR ?_
    | refine O_off rfl ?_
    | refine O_idxN rfl rfl rfl (by omega) ?_ | refine O_idx rfl rfl rfl (by omega) ?_ | refine O_idxArr rfl rfl rfl (by omega) ?_
    | refine O_add rfl rfl rfl (by unfold in64; omega) ?_ | refine O_sub rfl rfl rfl (by unfold in64; omega) ?_
    | refine O_make rfl rfl rfl (by constructor <;> omega) ?_
    | (refine O_lt rfl rfl rfl (fun hc => ?_) (fun hc => ?_) <;> try (exfalso; omega)) | (refine O_le rfl rfl rfl (fun hc => ?_) (fun hc => ?_) <;> try (exfalso; omega))
    | (refine O_gt rfl rfl rfl (fun hc => ?_) (fun hc => ?_) <;> try (exfalso; omega)) | (refine O_ge rfl rfl rfl (fun hc => ?_) (fun hc => ?_) <;> try (exfalso; omega))
    | (refine O_eq rfl rfl rfl (fun hc => ?_) (fun hc => ?_) <;> try (exfalso; omega)) | (refine O_ne rfl rfl rfl (fun hc => ?_) (fun hc => ?_) <;> try (exfalso; omega))
    | refine O_sliceTo rfl rfl rfl (by omega) ?_ | refine C_ifT rfl ?_ | refine C_ifF rfl ?_
    | refine O_p (by rfl) rfl ?_)
  · have hi' : i < xs.length := by omega
    obtain ⟨x, hx⟩ : ∃ x, xs[i]? = some x := ⟨_, List.getElem?_eq_getElem hi'⟩
    refine O_load rfl rfl (by rw [Nat.mul_one, rd_eq (hk.eq id hid)]; exact hrd i x hx) ?_
    repeat' (first
    | refine C_seq ?_ | refine C_ops ?_ | refine C_block ?_ | refine C_skip ?_ | refine C_ret ?_ | refine C_exit ?_
    | refine O_nil ?_ | refine Q_norm ?_ | refine Q_then ?_ | refine Q_thenE ?_ | refine Q_thenR ?_ | refine Q_blockN ?_ | refine Q_blockR ?_ | refine Q_blockS ?_ | refine Q_blockE (by decide) ?_
    | refine Q_roundE ?_ | refine Q_roundR ?_
    | refine O_off rfl ?_
    | refine O_idxN rfl rfl rfl (by omega) ?_ | refine O_idx rfl rfl rfl (by omega) ?_ | refine O_idxArr rfl rfl rfl (by omega) ?_
    | refine O_add rfl rfl rfl (by unfold in64; omega) ?_ | refine O_sub rfl rfl rfl (by unfold in64; omega) ?_
    | refine O_make rfl rfl rfl (by constructor <;> omega) ?_
    | (refine O_lt rfl rfl rfl (fun hc => ?_) (fun hc => ?_) <;> try (exfalso; omega)) | (refine O_le rfl rfl rfl (fun hc => ?_) (fun hc => ?_) <;> try (exfalso; omega))
    | (refine O_gt rfl rfl rfl (fun hc => ?_) (fun hc => ?_) <;> try (exfalso; omega)) | (refine O_ge rfl rfl rfl (fun hc => ?_) (fun hc => ?_) <;> try (exfalso; omega))
    | (refine O_eq rfl rfl rfl (fun hc => ?_) (fun hc => ?_) <;> try (exfalso; omega)) | (refine O_ne rfl rfl rfl (fun hc => ?_) (fun hc => ?_) <;> try (exfalso; omega))
    | refine O_sliceTo rfl rfl rfl (by omega) ?_ | refine C_ifT rfl ?_ | refine C_ifF rfl ?_
    | refine O_p (by rfl) rfl ?_)
    refine O_call rfl rfl c_within ?_
    rintro _ _ ⟨rfl, rfl⟩
    by_cases h1 : 0 ≤ x ∧ x ≤ 15
    · rw [tt_t h1]
      obtain ⟨h10, h11⟩ := h1
      obtain ⟨y, rfl⟩ : ∃ y : Nat, x = y := ⟨x.toNat, by omega⟩
      repeat' (first
    | refine C_seq ?_ | refine C_ops ?_ | refine C_block ?_ | refine C_skip ?_ | refine C_ret ?_ | refine C_exit ?_
    | refine O_nil ?_ | refine Q_norm ?_ | refine Q_then ?_ | refine Q_thenE ?_ | refine Q_thenR ?_ | refine Q_blockN ?_ | refine Q_blockR ?_ | refine Q_blockS ?_ | refine Q_blockE (by decide) ?_
    | refine Q_roundE ?_ | refine Q_roundR ?_
    | refine O_off rfl ?_
    | refine O_idxN rfl rfl rfl (by omega) ?_ | refine O_idx rfl rfl rfl (by omega) ?_ | refine O_idxArr rfl rfl rfl (by omega) ?_
    | refine O_add rfl rfl rfl (by unfold in64; omega) ?_ | refine O_sub rfl rfl rfl (by unfold in64; omega) ?_
    | refine O_make rfl rfl rfl (by constructor <;> omega) ?_
    | (refine O_lt rfl rfl rfl (fun hc => ?_) (fun hc => ?_) <;> try (exfalso; omega)) | (refine O_le rfl rfl rfl (fun hc => ?_) (fun hc => ?_) <;> try (exfalso; omega))
    | (refine O_gt rfl rfl rfl (fun hc => ?_) (fun hc => ?_) <;> try (exfalso; omega)) | (refine O_ge rfl rfl rfl (fun hc => ?_) (fun hc => ?_) <;> try (exfalso; omega))
    | (refine O_eq rfl rfl rfl (fun hc => ?_) (fun hc => ?_) <;> try (exfalso; omega)) | (refine O_ne rfl rfl rfl (fun hc => ?_) (fun hc => ?_) <;> try (exfalso; omega))
    | refine O_sliceTo rfl rfl rfl (by omega) ?_ | refine C_ifT rfl ?_ | refine C_ifF rfl ?_
    | refine O_p (by rfl) rfl ?_)
      obtain ⟨b, hb'⟩ : ∃ b, bs[y]? = some b := ⟨_, List.getElem?_eq_getElem (by omega)⟩
      refine O_load rfl rfl (v := .bool b) (by rw [rd_of ho]; simp [hb']) ?_
      have hby := hbs y b hb'
      cases b with
      | true =>
        repeat' (first
    | refine C_seq ?_ | refine C_ops ?_ | refine C_block ?_ | refine C_skip ?_ | refine C_ret ?_ | refine C_exit ?_
    | refine O_nil ?_ | refine Q_norm ?_ | refine Q_then ?_ | refine Q_thenE ?_ | refine Q_thenR ?_ | refine Q_blockN ?_ | refine Q_blockR ?_ | refine Q_blockS ?_ | refine Q_blockE (by decide) ?_
    | refine Q_roundE ?_ | refine Q_roundR ?_
    | refine O_off rfl ?_
    | refine O_idxN rfl rfl rfl (by omega) ?_ | refine O_idx rfl rfl rfl (by omega) ?_ | refine O_idxArr rfl rfl rfl (by omega) ?_
    | refine O_add rfl rfl rfl (by unfold in64; omega) ?_ | refine O_sub rfl rfl rfl (by unfold in64; omega) ?_
    | refine O_make rfl rfl rfl (by constructor <;> omega) ?_
    | (refine O_lt rfl rfl rfl (fun hc => ?_) (fun hc => ?_) <;> try (exfalso; omega)) | (refine O_le rfl rfl rfl (fun hc => ?_) (fun hc => ?_) <;> try (exfalso; omega))
    | (refine O_gt rfl rfl rfl (fun hc => ?_) (fun hc => ?_) <;> try (exfalso; omega)) | (refine O_ge rfl rfl rfl (fun hc => ?_) (fun hc => ?_) <;> try (exfalso; omega))
    | (refine O_eq rfl rfl rfl (fun hc => ?_) (fun hc => ?_) <;> try (exfalso; omega)) | (refine O_ne rfl rfl rfl (fun hc => ?_) (fun hc => ?_) <;> try (exfalso; omega))
    | refine O_sliceTo rfl rfl rfl (by omega) ?_ | refine C_ifT rfl ?_ | refine C_ifF rfl ?_
    | refine O_p (by rfl) rfl ?_)
        exact Q_ret rfl ⟨hk, bv_f fun ht => (ht.2 i y hi' hx).2 (hby.1 rfl)⟩
      | false =>
        have h2 : (y : Int) ∉ xs.take i := fun hm => by have := hby.2 hm; cases this
        repeat' (first
    | refine C_seq ?_ | refine C_ops ?_ | refine C_block ?_ | refine C_skip ?_ | refine C_ret ?_ | refine C_exit ?_
    | refine O_nil ?_ | refine Q_norm ?_ | refine Q_then ?_ | refine Q_thenE ?_ | refine Q_thenR ?_ | refine Q_blockN ?_ | refine Q_blockR ?_ | refine Q_blockS ?_ | refine Q_blockE (by decide) ?_
    | refine Q_roundE ?_ | refine Q_roundR ?_
    | refine O_off rfl ?_
    | refine O_idxN rfl rfl rfl (by omega) ?_ | refine O_idx rfl rfl rfl (by omega) ?_ | refine O_idxArr rfl rfl rfl (by omega) ?_
    | refine O_add rfl rfl rfl (by unfold in64; omega) ?_ | refine O_sub rfl rfl rfl (by unfold in64; omega) ?_
    | refine O_make rfl rfl rfl (by constructor <;> omega) ?_
    | (refine O_lt rfl rfl rfl (fun hc => ?_) (fun hc => ?_) <;> try (exfalso; omega)) | (refine O_le rfl rfl rfl (fun hc => ?_) (fun hc => ?_) <;> try (exfalso; omega))
    | (refine O_gt rfl rfl rfl (fun hc => ?_) (fun hc => ?_) <;> try (exfalso; omega)) | (refine O_ge rfl rfl rfl (fun hc => ?_) (fun hc => ?_) <;> try (exfalso; omega))
    | (refine O_eq rfl rfl rfl (fun hc => ?_) (fun hc => ?_) <;> try (exfalso; omega)) | (refine O_ne rfl rfl rfl (fun hc => ?_) (fun hc => ?_) <;> try (exfalso; omega))
    | refine O_sliceTo rfl rfl rfl (by omega) ?_ | refine C_ifT rfl ?_ | refine C_ifF rfl ?_
    | refine O_p (by rfl) rfl ?_)
        refine O_store1 rfl rfl rfl ho (by simp; omega) ?_
        repeat' (first
    | refine C_seq ?_ | refine C_ops ?_ | refine C_block ?_ | refine C_skip ?_ | refine C_ret ?_ | refine C_exit ?_
    | refine O_nil ?_ | refine Q_norm ?_ | refine Q_then ?_ | refine Q_thenE ?_ | refine Q_thenR ?_ | refine Q_blockN ?_ | refine Q_blockR ?_ | refine Q_blockS ?_ | refine Q_blockE (by decide) ?_
    | refine Q_roundE ?_ | refine Q_roundR ?_
    | refine O_off rfl ?_
    | refine O_idxN rfl rfl rfl (by omega) ?_ | refine O_idx rfl rfl rfl (by omega) ?_ | refine O_idxArr rfl rfl rfl (by omega) ?_
    | refine O_add rfl rfl rfl (by unfold in64; omega) ?_ | refine O_sub rfl rfl rfl (by unfold in64; omega) ?_
    | refine O_make rfl rfl rfl (by constructor <;> omega) ?_
    | (refine O_lt rfl rfl rfl (fun hc => ?_) (fun hc => ?_) <;> try (exfalso; omega)) | (refine O_le rfl rfl rfl (fun hc => ?_) (fun hc => ?_) <;> try (exfalso; omega))
    | (refine O_gt rfl rfl rfl (fun hc => ?_) (fun hc => ?_) <;> try (exfalso; omega)) | (refine O_ge rfl rfl rfl (fun hc => ?_) (fun hc => ?_) <;> try (exfalso; omega))
    | (refine O_eq rfl rfl rfl (fun hc => ?_) (fun hc => ?_) <;> try (exfalso; omega)) | (refine O_ne rfl rfl rfl (fun hc => ?_) (fun hc => ?_) <;> try (exfalso; omega))
    | refine O_sliceTo rfl rfl rfl (by omega) ?_ | refine C_ifT rfl ?_ | refine C_ifF rfl ?_
    | refine O_p (by rfl) rfl ?_)
        refine Q_round (m := xs.length - (i + 1)) (by omega) ⟨i + 1, bs.set y true, hi', rfl, rfl, hk.put (Nat.le_refl _) _, ?_, by simp [hbl], hup.succ hx ⟨h10, h11⟩ h2, fun j b hjb => ?_⟩
        · simp [upd_eq, List.map_set]
        · rw [List.take_add_one, hx, List.mem_append]
          rw [List.getElem?_set] at hjb
          by_cases e : y = j
          · subst e
            simp [hbl, show y < 16 by omega] at hjb
            simp [← hjb]
          · rw [if_neg e] at hjb
            rw [hbs j b hjb]
            simp [show ¬ (j : Int) = y by omega]
    · rw [tt_f h1]
      repeat' (first
    | refine C_seq ?_ | refine C_ops ?_ | refine C_block ?_ | refine C_skip ?_ | refine C_ret ?_ | refine C_exit ?_
    | refine O_nil ?_ | refine Q_norm ?_ | refine Q_then ?_ | refine Q_thenE ?_ | refine Q_thenR ?_ | refine Q_blockN ?_ | refine Q_blockR ?_ | refine Q_blockS ?_ | refine Q_blockE (by decide) ?_
    | refine Q_roundE ?_ | refine Q_roundR ?_
    | refine O_off rfl ?_
    | refine O_idxN rfl rfl rfl (by omega) ?_ | refine O_idx rfl rfl rfl (by omega) ?_ | refine O_idxArr rfl rfl rfl (by omega) ?_
    | refine O_add rfl rfl rfl (by unfold in64; omega) ?_ | refine O_sub rfl rfl rfl (by unfold in64; omega) ?_
    | refine O_make rfl rfl rfl (by constructor <;> omega) ?_
    | (refine O_lt rfl rfl rfl (fun hc => ?_) (fun hc => ?_) <;> try (exfalso; omega)) | (refine O_le rfl rfl rfl (fun hc => ?_) (fun hc => ?_) <;> try (exfalso; omega))
    | (refine O_gt rfl rfl rfl (fun hc => ?_) (fun hc => ?_) <;> try (exfalso; omega)) | (refine O_ge rfl rfl rfl (fun hc => ?_) (fun hc => ?_) <;> try (exfalso; omega))
    | (refine O_eq rfl rfl rfl (fun hc => ?_) (fun hc => ?_) <;> try (exfalso; omega)) | (refine O_ne rfl rfl rfl (fun hc => ?_) (fun hc => ?_) <;> try (exfalso; omega))
    | refine O_sliceTo rfl rfl rfl (by omega) ?_ | refine C_ifT rfl ?_ | refine C_ifF rfl ?_
    | refine O_p (by rfl) rfl ?_)
      exact Q_ret rfl ⟨hk, bv_f fun ht => h1 (ht.2 i x hi' hx).1⟩
  · have hi' : i = xs.length := by omega
    subst hi'
    exact Q_ret rfl ⟨hk, bv_t ⟨by omega, hup⟩⟩
  · have hi' : i = xs.length := by omega
    subst hi'
    exact Q_ret rfl ⟨hk, bv_f fun ht => by have := ht.1; omega⟩



end Go.Proofs.Ythdaoanapklaiaa
/- The law FnExactIsTurnTable runs to true. -/
namespace Go.Proofs.Ythdaoanapklaiaa
open Go Go.RowKit
set_option linter.unusedVariables false
set_option linter.unusedSimpArgs false
set_option maxRecDepth 100000
-- laws.FnExactIsTurnTable
def L3 : AFun := ⟨24, [.t 2],
 (.seq (.ops false [⟨(some 2), .mv (.k (bv false)), none, []⟩])
 (.seq (.seq (.ops false [⟨(some 6), .mv (.t 0), none, []⟩,
    ⟨(some 7), .len false (.t 6), none, []⟩,
    ⟨(some 8), .bin .gtr (.t 7) (.k (iv 1048576)), none, []⟩])
  (.cond (.t 8) (.seq (.ops false [⟨(some 2), .mv (.k (bv true)), none, []⟩])
   .ret)
   .skip))
 (.seq (.ops false [⟨(some 9), .mv (.t 0), none, []⟩,
   ⟨(some 10), .call (.f 11) [(.t 9)], none, []⟩,
   ⟨(some 11), .call (.f 10) [(.t 10)], none, []⟩,
   ⟨(some 3), .mv (.t 11), none, []⟩])
 (.seq (.ops false [⟨(some 12), .mv (.t 0), none, []⟩,
   ⟨(some 13), .call (.f 11) [(.t 12)], none, []⟩,
   ⟨(some 4), .mv (.t 13), none, []⟩])
 (.seq (.ops false [⟨(some 14), .mv (.t 4), none, []⟩,
   ⟨(some 15), .call (.f 12) [(.t 14)], none, []⟩,
   ⟨(some 5), .mv (.t 15), none, []⟩])
 (.seq (.seq (.ops false [⟨(some 16), .mv (.t 5), none, []⟩,
    ⟨(some 17), .mv (.t 3), none, []⟩,
    ⟨(some 18), .beq true (.t 16) (.t 17), none, []⟩])
  (.cond (.t 18) (.seq (.ops false [⟨(some 2), .mv (.k (bv false)), none, []⟩])
   .ret)
   .skip))
 (.seq (.seq (.ops false [⟨(some 19), .mv (.t 4), none, []⟩,
    ⟨(some 20), .mv (.t 0), none, []⟩,
    ⟨(some 21), .call (.f 11) [(.t 20)], none, []⟩,
    ⟨(some 22), .call (.f 13) [(.t 19), (.t 21)], none, []⟩,
    ⟨(some 23), .un .not (.t 22), none, []⟩])
  (.cond (.t 23) (.seq (.ops false [⟨(some 2), .mv (.k (bv false)), none, []⟩])
   .ret)
   .skip))
 (.seq (.ops false [⟨(some 2), .mv (.k (bv true)), none, []⟩])
 .ret))))))))⟩
theorem code3 : acode Try.prog hints 3 = some L3 := by kernel_rfl

theorem c_FnExactIsTurnTable {s : St} {v : AV} {xs : List Int} (h : Ints s v xs) (b : ∀ n ∈ xs, in64 n) (hw : s.WF) : wpF 3 [v] s fun r s' => r = bv true := by
  obtain ⟨id, off, rfl, hid, hrd⟩ := h.open
  refine C_fn code3 ?_
  repeat' (first
    | refine C_seq ?_ | refine C_ops ?_ | refine C_block ?_ | refine C_skip ?_ | refine C_ret ?_ | refine C_exit ?_
    | refine O_nil ?_ | refine Q_norm ?_ | refine Q_then ?_ | refine Q_thenE ?_ | refine Q_thenR ?_ | refine Q_blockN ?_ | refine Q_blockR ?_ | refine Q_blockS ?_ | refine Q_blockE (by decide) ?_
    | refine Q_roundE ?_ | refine Q_roundR ?_
    | refine O_off rfl ?_
    | refine O_idxN rfl rfl rfl (by omega) ?_ | refine O_idx rfl rfl rfl (by omega) ?_ | refine O_idxArr rfl rfl rfl (by omega) ?_
    | refine O_add rfl rfl rfl (by unfold in64; omega) ?_ | refine O_sub rfl rfl rfl (by unfold in64; omega) ?_
    | refine O_make rfl rfl rfl (by constructor <;> omega) ?_
    | (refine O_lt rfl rfl rfl (fun hc => ?_) (fun hc => ?_) <;> try (exfalso; omega)) | (refine O_le rfl rfl rfl (fun hc => ?_) (fun hc => ?_) <;> try (exfalso; omega))
    | (refine O_gt rfl rfl rfl (fun hc => ?_) (fun hc => ?_) <;> try (exfalso; omega)) | (refine O_ge rfl rfl rfl (fun hc => ?_) (fun hc => ?_) <;> try (exfalso; omega))
    | (refine O_eq rfl rfl rfl (fun hc => ?_) (fun hc => ?_) <;> try (exfalso; omega)) | (refine O_ne rfl rfl rfl (fun hc => ?_) (fun hc => ?_) <;> try (exfalso; omega))
    | refine O_sliceTo rfl rfl rfl (by omega) ?_ | refine C_ifT rfl ?_ | refine C_ifF rfl ?_
    | refine O_p (by rfl) rfl ?_)
  · exact Q_ret rfl rfl
  refine O_callW rfl rfl hw (c_toInt64S h hw (by omega)) ?_
  rintro r1 s1 ⟨hk1, h1⟩ hw1
  refine O_callW rfl rfl hw1 (c_specTurn h1 (by omega)) ?_
  rintro _ _ ⟨rfl, rfl⟩ _
  repeat' (first
    | refine C_seq ?_ | refine C_ops ?_ | refine C_block ?_ | refine C_skip ?_ | refine C_ret ?_ | refine C_exit ?_
    | refine O_nil ?_ | refine Q_norm ?_ | refine Q_then ?_ | refine Q_thenE ?_ | refine Q_thenR ?_ | refine Q_blockN ?_ | refine Q_blockR ?_ | refine Q_blockS ?_ | refine Q_blockE (by decide) ?_
    | refine Q_roundE ?_ | refine Q_roundR ?_
    | refine O_off rfl ?_
    | refine O_idxN rfl rfl rfl (by omega) ?_ | refine O_idx rfl rfl rfl (by omega) ?_ | refine O_idxArr rfl rfl rfl (by omega) ?_
    | refine O_add rfl rfl rfl (by unfold in64; omega) ?_ | refine O_sub rfl rfl rfl (by unfold in64; omega) ?_
    | refine O_make rfl rfl rfl (by constructor <;> omega) ?_
    | (refine O_lt rfl rfl rfl (fun hc => ?_) (fun hc => ?_) <;> try (exfalso; omega)) | (refine O_le rfl rfl rfl (fun hc => ?_) (fun hc => ?_) <;> try (exfalso; omega))
    | (refine O_gt rfl rfl rfl (fun hc => ?_) (fun hc => ?_) <;> try (exfalso; omega)) | (refine O_ge rfl rfl rfl (fun hc => ?_) (fun hc => ?_) <;> try (exfalso; omega))
    | (refine O_eq rfl rfl rfl (fun hc => ?_) (fun hc => ?_) <;> try (exfalso; omega)) | (refine O_ne rfl rfl rfl (fun hc => ?_) (fun hc => ?_) <;> try (exfalso; omega))
    | refine O_sliceTo rfl rfl rfl (by omega) ?_ | refine C_ifT rfl ?_ | refine C_ifF rfl ?_
    | refine O_p (by rfl) rfl ?_)
  have h' := h.keep hk1
  refine O_callW rfl rfl hw1 (c_toInt64S h' hw1 (by omega)) ?_
  rintro r2 s2 ⟨hk2, h2⟩ hw2
  repeat' (first
    | refine C_seq ?_ | refine C_ops ?_ | refine C_block ?_ | refine C_skip ?_ | refine C_ret ?_ | refine C_exit ?_
    | refine O_nil ?_ | refine Q_norm ?_ | refine Q_then ?_ | refine Q_thenE ?_ | refine Q_thenR ?_ | refine Q_blockN ?_ | refine Q_blockR ?_ | refine Q_blockS ?_ | refine Q_blockE (by decide) ?_
    | refine Q_roundE ?_ | refine Q_roundR ?_
    | refine O_off rfl ?_
    | refine O_idxN rfl rfl rfl (by omega) ?_ | refine O_idx rfl rfl rfl (by omega) ?_ | refine O_idxArr rfl rfl rfl (by omega) ?_
    | refine O_add rfl rfl rfl (by unfold in64; omega) ?_ | refine O_sub rfl rfl rfl (by unfold in64; omega) ?_
    | refine O_make rfl rfl rfl (by constructor <;> omega) ?_
    | (refine O_lt rfl rfl rfl (fun hc => ?_) (fun hc => ?_) <;> try (exfalso; omega)) | (refine O_le rfl rfl rfl (fun hc => ?_) (fun hc => ?_) <;> try (exfalso; omega))
    | (refine O_gt rfl rfl rfl (fun hc => ?_) (fun hc => ?_) <;> try (exfalso; omega)) | (refine O_ge rfl rfl rfl (fun hc => ?_) (fun hc => ?_) <;> try (exfalso; omega))
    | (refine O_eq rfl rfl rfl (fun hc => ?_) (fun hc => ?_) <;> try (exfalso; omega)) | (refine O_ne rfl rfl rfl (fun hc => ?_) (fun hc => ?_) <;> try (exfalso; omega))
    | refine O_sliceTo rfl rfl rfl (by omega) ?_ | refine C_ifT rfl ?_ | refine C_ifF rfl ?_
    | refine O_p (by rfl) rfl ?_)
  refine O_callW rfl rfl hw2 (c_implTurn h2 (by omega)) ?_
  rintro _ s3 ⟨hk3, rfl⟩ hw3
  repeat' (first
    | refine C_seq ?_ | refine C_ops ?_ | refine C_block ?_ | refine C_skip ?_ | refine C_ret ?_ | refine C_exit ?_
    | refine O_nil ?_ | refine Q_norm ?_ | refine Q_then ?_ | refine Q_thenE ?_ | refine Q_thenR ?_ | refine Q_blockN ?_ | refine Q_blockR ?_ | refine Q_blockS ?_ | refine Q_blockE (by decide) ?_
    | refine Q_roundE ?_ | refine Q_roundR ?_
    | refine O_off rfl ?_
    | refine O_idxN rfl rfl rfl (by omega) ?_ | refine O_idx rfl rfl rfl (by omega) ?_ | refine O_idxArr rfl rfl rfl (by omega) ?_
    | refine O_add rfl rfl rfl (by unfold in64; omega) ?_ | refine O_sub rfl rfl rfl (by unfold in64; omega) ?_
    | refine O_make rfl rfl rfl (by constructor <;> omega) ?_
    | (refine O_lt rfl rfl rfl (fun hc => ?_) (fun hc => ?_) <;> try (exfalso; omega)) | (refine O_le rfl rfl rfl (fun hc => ?_) (fun hc => ?_) <;> try (exfalso; omega))
    | (refine O_gt rfl rfl rfl (fun hc => ?_) (fun hc => ?_) <;> try (exfalso; omega)) | (refine O_ge rfl rfl rfl (fun hc => ?_) (fun hc => ?_) <;> try (exfalso; omega))
    | (refine O_eq rfl rfl rfl (fun hc => ?_) (fun hc => ?_) <;> try (exfalso; omega)) | (refine O_ne rfl rfl rfl (fun hc => ?_) (fun hc => ?_) <;> try (exfalso; omega))
    | refine O_sliceTo rfl rfl rfl (by omega) ?_ | refine C_ifT rfl ?_ | refine C_ifF rfl ?_
    | refine O_p (by rfl) rfl ?_)
  refine C_ifF (by generalize tt (Turn xs) = b; cases b <;> rfl) ?_
  repeat' (first
    | refine C_seq ?_ | refine C_ops ?_ | refine C_block ?_ | refine C_skip ?_ | refine C_ret ?_ | refine C_exit ?_
    | refine O_nil ?_ | refine Q_norm ?_ | refine Q_then ?_ | refine Q_thenE ?_ | refine Q_thenR ?_ | refine Q_blockN ?_ | refine Q_blockR ?_ | refine Q_blockS ?_ | refine Q_blockE (by decide) ?_
    | refine Q_roundE ?_ | refine Q_roundR ?_
    | refine O_off rfl ?_
    | refine O_idxN rfl rfl rfl (by omega) ?_ | refine O_idx rfl rfl rfl (by omega) ?_ | refine O_idxArr rfl rfl rfl (by omega) ?_
    | refine O_add rfl rfl rfl (by unfold in64; omega) ?_ | refine O_sub rfl rfl rfl (by unfold in64; omega) ?_
    | refine O_make rfl rfl rfl (by constructor <;> omega) ?_
    | (refine O_lt rfl rfl rfl (fun hc => ?_) (fun hc => ?_) <;> try (exfalso; omega)) | (refine O_le rfl rfl rfl (fun hc => ?_) (fun hc => ?_) <;> try (exfalso; omega))
    | (refine O_gt rfl rfl rfl (fun hc => ?_) (fun hc => ?_) <;> try (exfalso; omega)) | (refine O_ge rfl rfl rfl (fun hc => ?_) (fun hc => ?_) <;> try (exfalso; omega))
    | (refine O_eq rfl rfl rfl (fun hc => ?_) (fun hc => ?_) <;> try (exfalso; omega)) | (refine O_ne rfl rfl rfl (fun hc => ?_) (fun hc => ?_) <;> try (exfalso; omega))
    | refine O_sliceTo rfl rfl rfl (by omega) ?_ | refine C_ifT rfl ?_ | refine C_ifF rfl ?_
    | refine O_p (by rfl) rfl ?_)
  have h'' := (h'.keep hk2).keep hk3
  refine O_callW rfl rfl hw3 (c_toInt64S h'' hw3 (by omega)) ?_
  rintro r4 s4 ⟨hk4, h4⟩ hw4
  refine O_callW rfl rfl hw4 (c_eqInt64S ((h2.keep hk3).keep hk4) h4 (by omega)) ?_
  rintro _ _ ⟨rfl, rfl⟩ _
  rw [tt_t rfl]
  repeat' (first
    | refine C_seq ?_ | refine C_ops ?_ | refine C_block ?_ | refine C_skip ?_ | refine C_ret ?_ | refine C_exit ?_
    | refine O_nil ?_ | refine Q_norm ?_ | refine Q_then ?_ | refine Q_thenE ?_ | refine Q_thenR ?_ | refine Q_blockN ?_ | refine Q_blockR ?_ | refine Q_blockS ?_ | refine Q_blockE (by decide) ?_
    | refine Q_roundE ?_ | refine Q_roundR ?_
    | refine O_off rfl ?_
    | refine O_idxN rfl rfl rfl (by omega) ?_ | refine O_idx rfl rfl rfl (by omega) ?_ | refine O_idxArr rfl rfl rfl (by omega) ?_
    | refine O_add rfl rfl rfl (by unfold in64; omega) ?_ | refine O_sub rfl rfl rfl (by unfold in64; omega) ?_
    | refine O_make rfl rfl rfl (by constructor <;> omega) ?_
    | (refine O_lt rfl rfl rfl (fun hc => ?_) (fun hc => ?_) <;> try (exfalso; omega)) | (refine O_le rfl rfl rfl (fun hc => ?_) (fun hc => ?_) <;> try (exfalso; omega))
    | (refine O_gt rfl rfl rfl (fun hc => ?_) (fun hc => ?_) <;> try (exfalso; omega)) | (refine O_ge rfl rfl rfl (fun hc => ?_) (fun hc => ?_) <;> try (exfalso; omega))
    | (refine O_eq rfl rfl rfl (fun hc => ?_) (fun hc => ?_) <;> try (exfalso; omega)) | (refine O_ne rfl rfl rfl (fun hc => ?_) (fun hc => ?_) <;> try (exfalso; omega))
    | refine O_sliceTo rfl rfl rfl (by omega) ?_ | refine C_ifT rfl ?_ | refine C_ifF rfl ?_
    | refine O_p (by rfl) rfl ?_)
  exact Q_ret rfl rfl

end Go.Proofs.Ythdaoanapklaiaa
