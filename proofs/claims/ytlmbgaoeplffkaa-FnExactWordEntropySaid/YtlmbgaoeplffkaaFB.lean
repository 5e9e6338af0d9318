/- The frame of the proofs, part FB. -/
import Derived.Test.YtlmbgaoeplffkaaFA
import Derived.Test.YtlmbgaoeplffkaaProg
import Derived.ProofKit
/- The slots that live at the heads of loops: hints for the abstract code. -/
namespace Go.Proofs.Ytlmbgaoeplffkaa
open Go
def hintAt : List (Nat × Nat × List Nat) → Nat → Nat → List Nat
  | [], _, _ => []
  | (a, b, l) :: t, f, r => if Nat.beq a f && Nat.beq b r then l else hintAt t f r
def hints : Hints := hintAt [(3, 15, [5, 6, 7, 8, 11, 13, 17, 18]),
  (3, 19, [5, 6, 7, 8, 11, 13, 17, 18, 19, 20]),
  (3, 35, [6, 11, 17, 23, 25, 27, 206, 207]),
  (9, 3, [1, 2, 7, 8]),
  (13, 5, [3, 8, 27, 28, 29]),
  (15, 4, [0, 1, 12, 13]),
  (16, 6, [1, 2, 6, 7, 29, 30]),
  (16, 9, [1, 2, 6, 7, 8, 29, 30, 34, 35]),
  (20, 5, [2, 6, 33, 34]),
  (20, 8, [2, 7, 33, 34, 37, 38, 39]),
  (20, 11, [2, 7, 9, 33, 34, 37, 38, 39, 44, 45]),
  (20, 15, [2, 7, 9, 10, 11, 33, 34, 37, 38, 39, 44, 45, 60, 61, 62]),
  (20, 18, [2, 7, 9, 10, 11, 12, 13, 33, 34, 37, 38, 39, 44, 45, 60, 61, 62, 68, 69]),
  (21, 4, [0, 1, 5]),
  (24, 2, [0, 1, 5]),
  (25, 2, [0, 1, 5]),
  (26, 6, [0, 2, 8, 10, 11]),
  (27, 3, [0, 3, 4]),
  (28, 6, [0, 2, 10, 23, 24, 25]),
  (31, 3, [0, 4, 5, 6]),
  (34, 4, [1, 2, 5, 6, 18, 19]),
  (34, 9, [1, 2, 5, 6, 7, 8, 18, 19, 28, 29]),
  (34, 13, [1, 2, 5, 6, 7, 9, 10, 18, 19, 28, 29, 34, 35, 36]),
  (34, 17, [1, 2, 5, 6, 7, 9, 10, 11, 12, 18, 19, 28, 29, 34, 35, 36, 44, 45]),
  (35, 3, [3, 4, 5, 6, 18, 19]),
  (35, 9, [3, 4, 5, 6, 7, 8, 9, 18, 19]),
  (35, 13, [3, 4, 5, 6, 7, 8, 9, 18, 19, 51, 52]),
  (35, 16, [3, 4, 5, 6, 7, 8, 9, 10, 18, 19, 51, 52, 56, 57]),
  (42, 3, [0, 1, 5, 6]),
  (47, 4, [0, 3]),
  (49, 3, [0, 1, 6, 7]),
  (49, 7, [0, 1, 6, 7, 8]),
  (49, 15, [0, 1, 6, 7, 8, 9, 10, 11, 62, 63]),
  (51, 8, [7, 8]),
  (53, 6, [0, 1, 2, 8, 9, 10]),
  (53, 10, [0, 1, 2, 8, 9, 10, 11, 12]),
  (56, 5, [0, 1, 2, 8, 26, 27]),
  (56, 9, [0, 1, 2, 8, 9, 10, 26, 27, 30, 31]),
  (58, 2, [0, 1, 5]),
  (63, 3, [0, 1, 7, 8]),
  (64, 4, [0, 1, 2, 4, 5, 6, 7, 26, 27]),
  (67, 3, [0, 5, 6, 7]),
  (69, 2, [0, 1, 5]),
  (70, 4, [0, 1, 2, 7, 8, 9]),
  (71, 2, [0, 1, 5]),
  (72, 3, [3, 9, 10]),
  (73, 3, [0, 1, 2, 7, 16, 17]),
  (73, 6, [0, 1, 2, 7, 8, 9, 16, 17]),
  (74, 2, [0, 5, 6]),
  (75, 2, [0, 1, 7, 8]),
  (77, 2, [0, 1, 7, 8]),
  (79, 8, [0, 3]),
  (79, 11, [0, 3]),
  (79, 18, [3, 4, 5, 6, 7]),
  (85, 2, [0, 3]),
  (85, 5, [0, 3]),
  (85, 12, [3, 4, 5, 6, 7]),
  (88, 2, [1, 2, 9, 10, 11]),
  (95, 2, [0, 1, 7, 8])]
end Go.Proofs.Ytlmbgaoeplffkaa

/- Rules for runs of abstract code of this program. -/
namespace Go.Proofs.Ytlmbgaoeplffkaa
open Go Go.RowKit
set_option linter.unusedVariables false
set_option linter.unusedSimpArgs false

theorem mixed : Try.prog.follows .mixedOrders = true := by kernel_rfl

abbrev X := Ex Try.prog hints
structure wpF (f : Nat) (args : List AV) (s : St) (Q : AV → St → Prop) : Prop where
  ex : ∃ v s', X (.call f args s) (.ret v s') ∧ Q v s'
structure wpO (l : List AStep) (hist : List Heap) (fr : Frm) (s : St) (Q : Frm → St → Prop) : Prop where
  ex : ∃ fr' s', X (.ops l hist fr s) (.done fr' s') ∧ Q fr' s'
structure wpC (c : ACode) (fr : Frm) (s : St) (Q : AOut → Frm → St → Prop) : Prop where
  ex : ∃ o fr' s', X (.code c fr s) (.out o fr' s') ∧ Q o fr' s'

structure thenQ (b : ACode) (Q : AOut → Frm → St → Prop) (o : AOut) (fr : Frm) (s : St) : Prop where
  ok : match o with | .normal => wpC b fr s Q | o => Q o fr s
structure blockQ (id : Nat) (Q : AOut → Frm → St → Prop) (o : AOut) (fr : Frm) (s : St) : Prop where
  ok : Q (if o = .exit id then .normal else o) fr s
structure normQ (Q : AOut → Frm → St → Prop) (fr : Frm) (s : St) : Prop where
  ok : Q .normal fr s
structure retQ (res : List ARes) (Q : AV → St → Prop) (o : AOut) (fr : Frm) (s : St) : Prop where
  ok : (o = .normal ∨ o = .ret) ∧ ∃ v, resultV fr s.h res = some v ∧ Q v s
/-- The end of a round. -/
structure roundQ (live : List Nat) (n : Nat) (I : Nat → Frm → St → Prop) (Q : AOut → Frm → St → Prop) (o : AOut) (fr' : Frm) (s' : St) : Prop where
  ok : match o with | .normal => ∃ m, m < n ∧ I m (restr fr' live) s' | o => Q o fr' s'

section
variable {fr : Frm} {s : St} {Q : AOut → Frm → St → Prop} {K : Frm → St → Prop} {hist : List Heap} {l : List AStep} {d : Nat} {chk : List Nat} {g : Option (Nat × Bool)}

theorem wpF.mono {f : Nat} {args : List AV} {Q Q' : AV → St → Prop} (h : wpF f args s Q) (hq : ∀ v s', Q v s' → Q' v s') : wpF f args s Q' := let ⟨v, s', a, b⟩ := h.ex; ⟨v, s', a, hq _ _ b⟩
theorem wpC.mono {c : ACode} {Q' : AOut → Frm → St → Prop} (h : wpC c fr s Q) (hq : ∀ o fr' s', Q o fr' s' → Q' o fr' s') : wpC c fr s Q' := let ⟨o, fr', s', a, b⟩ := h.ex; ⟨o, fr', s', a, hq _ _ _ b⟩

theorem wpF.wf {f : Nat} {args : List AV} {Q : AV → St → Prop} (h : wpF f args s Q) (hw : s.WF) : wpF f args s fun v s' => Q v s' ∧ s'.WF := by
  obtain ⟨v, s', a, b⟩ := h.ex
  have : CallSem Try.prog 0 f args s v s' := sound mixed (drawnOk Try.prog 0) a
  exact ⟨v, s', a, b, (this hw).1.wf⟩

/-! ### code -/
theorem C_fn {f nt : Nat} {res : List ARes} {body : ACode} (hc : acode Try.prog hints f = some ⟨nt, res, body⟩) {args : List AV} {Q : AV → St → Prop} (h : wpC body (frame0 0 args) s (retQ res Q)) : wpF f args s Q := by
  obtain ⟨o, fr', s', h1, h5⟩ := h.ex
  obtain ⟨h2, v, h3, h4⟩ := h5.ok
  exact ⟨v, s', .fn hc h1 h2 h3, h4⟩
theorem C_skip (h : Q .normal fr s) : wpC .skip fr s Q := ⟨_, _, _, .skip, h⟩
theorem C_ret (h : Q .ret fr s) : wpC .ret fr s Q := ⟨_, _, _, .ret, h⟩
theorem C_exit {id : Nat} (h : Q (.exit id) fr s) : wpC (.exit id) fr s Q := ⟨_, _, _, .exit, h⟩
theorem C_ops {b : Bool} (h : wpO l [] fr s (normQ Q)) : wpC (.ops b l) fr s Q := let ⟨fr', s', a, b⟩ := h.ex; ⟨_, _, _, .ops a, b.ok⟩
theorem C_seq {a b : ACode} (h : wpC a fr s (thenQ b Q)) : wpC (.seq a b) fr s Q := by
  obtain ⟨o, fr', s', h1, ⟨h2⟩⟩ := h.ex
  cases o with
  | normal => obtain ⟨o2, fr2, s2, h3, h4⟩ := h2.ex; exact ⟨o2, fr2, s2, .seq h1 h3, h4⟩
  | exit id => exact ⟨_, _, _, .seqX h1 (by simp), h2⟩
  | ret => exact ⟨_, _, _, .seqX h1 (by simp), h2⟩
theorem C_block {id : Nat} {b : ACode} (h : wpC b fr s (blockQ id Q)) : wpC (.block id b) fr s Q := let ⟨o, fr', s', h1, h2⟩ := h.ex; ⟨_, _, _, .block h1, h2.ok⟩
theorem C_if {c : Opd} {a b : ACode} {t : Bool} (hc : ev fr c = some (bv t)) (ht : t = true → wpC a fr s Q) (hf : t = false → wpC b fr s Q) : wpC (.cond c a b) fr s Q := by
  have hb : (ev fr c).bind asB = some t := by rw [hc]; rfl
  cases t with
  | true => obtain ⟨o, fr', s', h1, h2⟩ := (ht rfl).ex; exact ⟨o, fr', s', .cond hb h1, h2⟩
  | false => obtain ⟨o, fr', s', h1, h2⟩ := (hf rfl).ex; exact ⟨o, fr', s', .cond hb h1, h2⟩
theorem C_ifT {c : Opd} {a b : ACode} (hc : ev fr c = some (bv true)) (h : wpC a fr s Q) : wpC (.cond c a b) fr s Q := C_if hc (fun _ => h) (fun h => by cases h)
theorem C_ifF {c : Opd} {a b : ACode} (hc : ev fr c = some (bv false)) (h : wpC b fr s Q) : wpC (.cond c a b) fr s Q := C_if hc (fun h => by cases h) (fun _ => h)
theorem C_ifd {c : Opd} {a b : ACode} {p : Prop} [Decidable p] (hc : ev fr c = some (bv (decide p))) (ht : p → wpC a fr s Q) (hf : ¬ p → wpC b fr s Q) : wpC (.cond c a b) fr s Q :=
  C_if hc (fun h => ht (of_decide_eq_true h)) (fun h => hf (of_decide_eq_false h))
theorem Q_norm (h : Q .normal fr s) : normQ Q fr s := ⟨h⟩
theorem Q_then {b : ACode} (h : wpC b fr s Q) : thenQ b Q .normal fr s := ⟨h⟩
theorem Q_thenE {b : ACode} {id : Nat} (h : Q (.exit id) fr s) : thenQ b Q (.exit id) fr s := ⟨h⟩
theorem Q_thenR {b : ACode} (h : Q .ret fr s) : thenQ b Q .ret fr s := ⟨h⟩
theorem Q_blockN {id : Nat} (h : Q .normal fr s) : blockQ id Q .normal fr s := ⟨h⟩
theorem Q_blockR {id : Nat} (h : Q .ret fr s) : blockQ id Q .ret fr s := ⟨h⟩
theorem Q_blockS {id : Nat} (h : Q .normal fr s) : blockQ id Q (.exit id) fr s := ⟨by simpa using h⟩
theorem Q_blockE {id id' : Nat} (hne : id' ≠ id) (h : Q (.exit id') fr s) : blockQ id Q (.exit id') fr s := ⟨by simpa [hne] using h⟩
theorem Q_ret {res : List ARes} {Q : AV → St → Prop} {v : AV} (hv : resultV fr s.h res = some v) (h : Q v s) : retQ res Q .ret fr s := ⟨.inr rfl, v, hv, h⟩
theorem Q_retN {res : List ARes} {Q : AV → St → Prop} {v : AV} (hv : resultV fr s.h res = some v) (h : Q v s) : retQ res Q .normal fr s := ⟨.inl rfl, v, hv, h⟩

/-- A loop, with a number that falls. -/
theorem C_loop {live : List Nat} {b : ACode} (I : Nat → Frm → St → Prop)
    (round : ∀ n fr s, I n fr s → wpC b fr s fun o fr' s' => match o with | .normal => ∃ m, m < n ∧ I m (restr fr' live) s' | o => Q o fr' s')
    {n : Nat} (h0 : I n (restr fr live) s) : wpC (.loop live b) fr s Q := by
  induction n using Nat.strongRecOn generalizing fr s with
  | _ n ih =>
    obtain ⟨o, fr', s', h1, h2⟩ := (round n _ _ h0).ex
    cases o with
    | normal =>
      obtain ⟨m, hm, hI⟩ := h2
      obtain ⟨o2, fr2, s2, h3, h4⟩ := (ih m hm hI).ex
      exact ⟨o2, fr2, s2, .loopN h1 h3, h4⟩
    | exit id => exact ⟨_, _, _, .loopX h1 (by simp), h2⟩
    | ret => exact ⟨_, _, _, .loopX h1 (by simp), h2⟩
theorem C_loopR {live : List Nat} {b : ACode} (I : Nat → Frm → St → Prop) (round : ∀ n fr s, I n fr s → wpC b fr s (roundQ live n I Q))
    {n : Nat} (h0 : I n (restr fr live) s) : wpC (.loop live b) fr s Q := by
  refine C_loop I (fun n fr s h => (round n fr s h).mono fun o fr' s' hq => ?_) h0
  cases o <;> exact hq.ok
theorem Q_round {live : List Nat} {n m : Nat} {I : Nat → Frm → St → Prop} (hm : m < n) (h : I m (restr fr live) s) : roundQ live n I Q .normal fr s := ⟨⟨m, hm, h⟩⟩
theorem Q_roundE {live : List Nat} {n id : Nat} {I : Nat → Frm → St → Prop} (h : Q (.exit id) fr s) : roundQ live n I Q (.exit id) fr s := ⟨h⟩
theorem Q_roundR {live : List Nat} {n : Nat} {I : Nat → Frm → St → Prop} (h : Q .ret fr s) : roundQ live n I Q .ret fr s := ⟨h⟩

/-! ### operations -/
theorem O_nil (h : K fr s) : wpO [] hist fr s K := ⟨fr, s, .nil, h⟩
theorem O_off {dst : Option Nat} {op : AOp} (hg : gon fr g = some false) (h : wpO l (if kindOf op = .h then hist ++ [s.h] else hist) (putO fr dst (some .undef)) s K) : wpO (⟨dst, op, g, chk⟩ :: l) hist fr s K :=
  let ⟨fr', s', a, b⟩ := h.ex; ⟨fr', s', .off hg a, b⟩
theorem O_p {op : AOp} {v : AV} (hv : evP (ev fr) op = some v) (hg : gon fr g = some true) (h : wpO l hist ((d, v) :: fr) s K) : wpO (⟨some d, op, g, chk⟩ :: l) hist fr s K :=
  let ⟨fr', s', a, b⟩ := h.ex; ⟨fr', s', .pure hg hv a, b⟩
theorem O_r {op : AOp} {v : AV} (hv : evR (ev fr) s.h op = some v) (hg : gon fr g = some true) (h : wpO l hist ((d, v) :: fr) s K) : wpO (⟨some d, op, g, []⟩ :: l) hist fr s K :=
  let ⟨fr', s', a, b⟩ := h.ex; ⟨fr', s', .read hg hv (by simp) a, b⟩
theorem O_rc {op : AOp} {v : AV} (hv : evR (ev fr) s.h op = some v) (hc : ∀ k ∈ chk, ∃ hk, hist[k]? = some hk ∧ evR (ev fr) hk op = some v) (hg : gon fr g = some true) (h : wpO l hist ((d, v) :: fr) s K) : wpO (⟨some d, op, g, chk⟩ :: l) hist fr s K :=
  let ⟨fr', s', a, b⟩ := h.ex; ⟨fr', s', .read hg hv hc a, b⟩
theorem O_a {op : AOp} {v : AV} {oo : Option AObj} (hv : evA (ev fr) s.n op = some (v, oo)) (hg : gon fr g = some true) (h : wpO l hist ((d, v) :: fr) (s.new oo) K) : wpO (⟨some d, op, g, chk⟩ :: l) hist fr s K :=
  let ⟨fr', s', a, b⟩ := h.ex; ⟨fr', s', .new hg hv a, b⟩
theorem O_h {op : AOp} {v : AV} {h' : Heap} {n' : Nat} (hv : evH (ev fr) s.h s.n op = some (some v, h', n')) (hg : gon fr g = some true) (h : wpO l (hist ++ [s.h]) ((d, v) :: fr) ⟨h', n'⟩ K) : wpO (⟨some d, op, g, chk⟩ :: l) hist fr s K :=
  let ⟨fr', s', a, b⟩ := h.ex; ⟨fr', s', .write hg hv a, b⟩
theorem O_h0 {op : AOp} {ov : Option AV} {h' : Heap} {n' : Nat} (hv : evH (ev fr) s.h s.n op = some (ov, h', n')) (hg : gon fr g = some true) (h : wpO l (hist ++ [s.h]) fr ⟨h', n'⟩ K) : wpO (⟨none, op, g, chk⟩ :: l) hist fr s K :=
  let ⟨fr', s', a, b⟩ := h.ex; ⟨fr', s', .write hg hv a, b⟩
theorem O_call {f : Opd} {args : List Opd} {fn : Nat} {vs : List AV} {R : AV → St → Prop} (hc : callee fr f args = some (fn, vs)) (hg : gon fr g = some true) (hw : wpF fn vs s R)
    (h : ∀ v s1, R v s1 → wpO l (hist ++ [s.h]) ((d, v) :: fr) s1 K) : wpO (⟨some d, .call f args, g, chk⟩ :: l) hist fr s K := by
  obtain ⟨v, s1, h1, h2⟩ := hw.ex
  obtain ⟨fr', s', a, b⟩ := (h v s1 h2).ex
  exact ⟨fr', s', .call hg rfl hc h1 a, b⟩
theorem O_callW {f : Opd} {args : List Opd} {fn : Nat} {vs : List AV} {R : AV → St → Prop} (hc : callee fr f args = some (fn, vs)) (hg : gon fr g = some true) (hs : s.WF) (hw : wpF fn vs s R)
    (h : ∀ v s1, R v s1 → s1.WF → wpO l (hist ++ [s.h]) ((d, v) :: fr) s1 K) : wpO (⟨some d, .call f args, g, chk⟩ :: l) hist fr s K :=
  O_call hc hg (hw.wf hs) fun v s1 hr => h v s1 hr.1 hr.2
theorem O_call0 {f : Opd} {args : List Opd} {fn : Nat} {vs : List AV} {R : AV → St → Prop} (hc : callee fr f args = some (fn, vs)) (hg : gon fr g = some true) (hw : wpF fn vs s R)
    (h : ∀ v s1, R v s1 → wpO l (hist ++ [s.h]) fr s1 K) : wpO (⟨none, .call f args, g, chk⟩ :: l) hist fr s K := by
  obtain ⟨v, s1, h1, h2⟩ := hw.ex
  obtain ⟨fr', s', a, b⟩ := (h v s1 h2).ex
  exact ⟨fr', s', .call hg rfl hc h1 a, b⟩

/-! ### arithmetic that stays in its bounds -/
def in64 (n : Int) : Prop := -9223372036854775808 ≤ n ∧ n ≤ 9223372036854775807
theorem wrap_in {n : Int} (h : in64 n) : IntKind.wrap .i64 n = n := by
  unfold in64 at h
  have e : IntKind.wrap .i64 n = if n % 18446744073709551616 ≥ 9223372036854775808 then n % 18446744073709551616 - 18446744073709551616 else n % 18446744073709551616 := by
    simp [IntKind.wrap, IntKind.bits, IntKind.signed]
  rw [e]
  split <;> omega
theorem O_add {x y : Opd} {a b : Int} (hx : ev fr x = some (iv a)) (hy : ev fr y = some (iv b)) (hg : gon fr g = some true) (hb : in64 (a + b)) (h : wpO l hist ((d, iv (a + b)) :: fr) s K) : wpO (⟨some d, .bin .add x y, g, chk⟩ :: l) hist fr s K :=
  O_p (by simp only [evP, hx, hy, Option.bind_some, binV, intBin]; simp [wrap_in hb]) hg h
theorem O_sub {x y : Opd} {a b : Int} (hx : ev fr x = some (iv a)) (hy : ev fr y = some (iv b)) (hg : gon fr g = some true) (hb : in64 (a - b)) (h : wpO l hist ((d, iv (a - b)) :: fr) s K) : wpO (⟨some d, .bin .sub x y, g, chk⟩ :: l) hist fr s K :=
  O_p (by simp only [evP, hx, hy, Option.bind_some, binV, intBin]; simp [wrap_in hb]) hg h
theorem O_mul {x y : Opd} {a b : Int} (hx : ev fr x = some (iv a)) (hy : ev fr y = some (iv b)) (hg : gon fr g = some true) (hb : in64 (a * b)) (h : wpO l hist ((d, iv (a * b)) :: fr) s K) : wpO (⟨some d, .bin .mul x y, g, chk⟩ :: l) hist fr s K :=
  O_p (by simp only [evP, hx, hy, Option.bind_some, binV, intBin]; simp [wrap_in hb]) hg h
theorem O_idx {e : Nat} {x y : Opd} {id off len : Nat} {k : IntKind} {i : Int} (hx : ev fr x = some (.c (.sl id off len))) (hy : ev fr y = some (.c (.int k i))) (hg : gon fr g = some true) (hi : 0 ≤ i ∧ i < len)
    (h : wpO l hist ((d, .c (.ptr id (off + i.toNat * e))) :: fr) s K) : wpO (⟨some d, .idxA e x y, g, chk⟩ :: l) hist fr s K :=
  O_p (by simp only [evP, hx, hy, Option.bind_some, idxV]; rw [if_pos hi]) hg h
theorem O_idxArr {n e : Nat} {x y : Opd} {id off : Nat} {k : IntKind} {i : Int} (hx : ev fr x = some (.c (.ptr id off))) (hy : ev fr y = some (.c (.int k i))) (hg : gon fr g = some true) (hi : 0 ≤ i ∧ i < n)
    (h : wpO l hist ((d, .c (.ptr id (off + i.toNat * e))) :: fr) s K) : wpO (⟨some d, .idxArr n e x y, g, chk⟩ :: l) hist fr s K :=
  O_p (by simp only [evP, hx, hy, Option.bind_some, idxArrV]; rw [if_pos hi]) hg h
/-- The cell at a place. -/
def rd (h : Heap) (id off : Nat) : Option AC := (cellsOf h id).bind (·[off]?)
theorem O_load {n : Nat} {x : Opd} {id off : Nat} {v : AC} (hx : ev fr x = some (.c (.ptr id off))) (hg : gon fr g = some true) (hr : rd s.h id off = some v) (h : wpO l hist ((d, .c v) :: fr) s K) :
    wpO (⟨some d, .load false n x, g, []⟩ :: l) hist fr s K :=
  O_r (by simp only [evR, hx, Option.bind_some, asPtr]; unfold rd at hr; obtain ⟨cs, h1, h2⟩ := Option.bind_eq_some_iff.1 hr; simp [h1, h2]) hg h
theorem O_loadA {n : Nat} {x : Opd} {id off : Nat} {cs : List AC} (hx : ev fr x = some (.c (.ptr id off))) (hg : gon fr g = some true) (hr : cellsAt s.h id off n = some cs) (h : wpO l hist ((d, .agg cs) :: fr) s K) :
    wpO (⟨some d, .load true n x, g, []⟩ :: l) hist fr s K :=
  O_r (by simp only [evR, hx, Option.bind_some, asPtr, if_true, hr, Option.map_some]) hg h
theorem O_store {n : Nat} {x y : Opd} {id off t e : Nat} {cs : List AC} {p : AP} (hx : ev fr x = some (.c (.ptr id off))) (hy : ev fr y = some (.p p)) (hg : gon fr g = some true) (ho : s.h id = some (.rw t e cs)) (hl : p.cells.length = n) (hi : off + n ≤ cs.length)
    (h : wpO l (hist ++ [s.h]) fr ⟨upd s.h id (.rw t e (splice cs off p.cells)), s.n⟩ K) : wpO (⟨none, .store n x y, g, chk⟩ :: l) hist fr s K :=
  O_h0 (ov := none) (by simp only [evH, hx, hy, Option.bind_some, asPtr, asP, ho]; rw [if_pos ⟨hl, hi⟩]) hg h
end
end Go.Proofs.Ytlmbgaoeplffkaa

/- What is told of states: slices of whole numbers, what stays. -/
namespace Go.Proofs.Ytlmbgaoeplffkaa
open Go Go.RowKit
set_option linter.unusedVariables false
set_option linter.unusedSimpArgs false

structure Keep (s s' : St) : Prop where
  le : s.n ≤ s'.n
  eq : ∀ id, id < s.n → s'.h id = s.h id
theorem Keep.refl (s : St) : Keep s s := ⟨Nat.le_refl _, fun _ _ => rfl⟩
theorem Keep.trans {a b c : St} (h : Keep a b) (k : Keep b c) : Keep a c := ⟨Nat.le_trans h.le k.le, fun id hid => (k.eq id (Nat.lt_of_lt_of_le hid h.le)).trans (h.eq id hid)⟩
theorem Keep.new {a b : St} (h : Keep a b) (o : AObj) : Keep a (b.new (some o)) :=
  ⟨Nat.le_trans h.le (Nat.le_succ _), fun id hid => by have := h.le; simp only [St.new]; rw [upd_ne _ _ _ _ (by omega)]; exact h.eq id hid⟩
theorem Keep.put {a b : St} (h : Keep a b) {id : Nat} (hid : a.n ≤ id) (o : AObj) : Keep a ⟨upd b.h id o, b.n⟩ :=
  ⟨h.le, fun x hx => by simp only; rw [upd_ne _ _ _ _ (by omega)]; exact h.eq x hx⟩

/-- A slice: where it lies, and its cells. -/
structure Sl (s : St) (e : Nat) (v : AV) (n : Nat) (cs : List AC) : Prop where
  ex : ∃ id off, v = .c (.sl id off n) ∧ id < s.n ∧ srcCells s.h e (id, off, n) = some cs
theorem Sl.keep {s s' : St} {e : Nat} {v : AV} {n : Nat} {cs : List AC} (h : Sl s e v n cs) (k : Keep s s') : Sl s' e v n cs := by
  obtain ⟨id, off, h1, h2, h3⟩ := h.ex
  refine ⟨id, off, h1, Nat.lt_of_lt_of_le h2 k.le, ?_⟩
  simp only [srcCells, cellsAt, cellsOf] at h3 ⊢
  rw [k.eq id h2]; exact h3

abbrev ic (n : Int) : AC := .int .i64 n
abbrev Ints (s : St) (v : AV) (xs : List Int) : Prop := Sl s 1 v xs.length (xs.map ic)

theorem cut_get {cs ys : List AC} {off n : Nat} (h : cut cs off n = some ys) {i : Nat} (hi : i < n) : cs[off + i]? = ys[i]? ∧ ys.length = n := by
  unfold cut at h
  split at h
  · obtain rfl := Option.some.inj h
    refine ⟨by rw [List.getElem?_take, if_pos hi, List.getElem?_drop], by simp; omega⟩
  · cases h
theorem srcCells_rd {h : Heap} {e id off n : Nat} {cs : List AC} (hs : srcCells h e (id, off, n) = some cs) {i : Nat} {x : AC} (hx : cs[i]? = some x) : rd h id (off + i) = some x := by
  simp only [srcCells] at hs
  split at hs
  · split at hs
    · obtain rfl := Option.some.inj hs; simp at hx
    · cases hs
  · unfold cellsAt at hs
    obtain ⟨all, h1, h2⟩ := Option.bind_eq_some_iff.1 hs
    have hi : i < n * e := by
      have hl : cs.length = n * e := by
        unfold cut at h2; split at h2
        · obtain rfl := Option.some.inj h2; simp; omega
        · cases h2
      rw [← hl]; exact (List.getElem?_eq_some_iff.1 hx).1
    unfold rd
    rw [h1, Option.bind_some, (cut_get h2 hi).1]; exact hx
/-- A slice of whole numbers, opened. -/
theorem Sl.open {s : St} {v : AV} {xs : List Int} (h : Ints s v xs) : ∃ id off, v = .c (.sl id off xs.length) ∧ id < s.n ∧ ∀ i x, xs[i]? = some x → rd s.h id (off + i) = some (ic x) := by
  obtain ⟨id, off, h1, h2, h3⟩ := h.ex
  exact ⟨id, off, h1, h2, fun i x hx => srcCells_rd h3 (by simp [hx])⟩
theorem rd_eq {h h' : Heap} {id off : Nat} (he : h' id = h id) : rd h' id off = rd h id off := by simp only [rd, cellsOf, he]
theorem rd_of {h : Heap} {id off : Nat} {t e : Nat} {cs : List AC} (ho : h id = some (.rw t e cs)) : rd h id off = cs[off]? := by simp [rd, cellsOf, ho]
theorem Ints.own {s : St} {id t : Nat} {xs : List Int} (h2 : 2 ≤ id) (hn : id < s.n) (ho : s.h id = some (.rw t 1 (xs.map ic))) : Ints s (.c (.sl id 0 xs.length)) xs := by
  refine ⟨id, 0, rfl, hn, ?_⟩
  simp only [srcCells]
  rw [if_neg (by omega)]
  simp only [cellsAt, cellsOf, ho, Option.bind_some, cut, Nat.zero_add, Nat.mul_one, List.length_map, Nat.le_refl, if_true, List.drop_zero, Option.some.injEq]
  exact List.take_of_length_le (by simp)
theorem Ints.nil {s : St} (h : 2 ≤ s.n) : Ints s (.c (.sl 0 0 0)) [] := ⟨0, 0, rfl, by omega, rfl⟩

section
variable {fr : Frm} {s : St} {Q : AOut → Frm → St → Prop} {K : Frm → St → Prop} {hist : List Heap} {l : List AStep} {d : Nat} {chk : List Nat} {g : Option (Nat × Bool)}
theorem O_idxN {e : Nat} {x y : Opd} {id off len : Nat} {k : IntKind} {i : Nat} (hx : ev fr x = some (.c (.sl id off len))) (hy : ev fr y = some (.c (.int k (i : Int)))) (hg : gon fr g = some true) (hi : i < len)
    (h : wpO l hist ((d, .c (.ptr id (off + i * e))) :: fr) s K) : wpO (⟨some d, .idxA e x y, g, chk⟩ :: l) hist fr s K :=
  O_idx hx hy hg (by omega) (by simpa using h)
/-- 'make' of slices of one-celled elements. -/
theorem O_make {t b : Nat} {z : AC} {x y : Opd} {k k' : IntKind} {n : Nat} (hx : ev fr x = some (.c (.int k (n : Int)))) (hy : ev fr y = some (.c (.int k' (n : Int)))) (hg : gon fr g = some true) (hb : (b : Int) * n ≤ 140737488355328 ∧ (n : Int) ≤ 4611686018427387904)
    (h : wpO l hist ((d, .c (.sl s.n 0 n)) :: fr) (s.new (some (.rw t 1 (List.replicate n z)))) K) : wpO (⟨some d, .makeS t 1 b [z] x y, g, chk⟩ :: l) hist fr s K := by
  refine O_a (oo := some (.rw t 1 (List.replicate n z))) ?_ hg h
  simp only [evA, hx, hy, Option.bind_some, asI]
  rw [if_pos ⟨by omega, trivial, hb.1, hb.2⟩]
  simp
theorem O_store1 {x y : Opd} {id off t e : Nat} {cs : List AC} {v : AC} (hx : ev fr x = some (.c (.ptr id off))) (hy : ev fr y = some (.c v)) (hg : gon fr g = some true) (ho : s.h id = some (.rw t e cs)) (hi : off < cs.length)
    (h : wpO l (hist ++ [s.h]) fr ⟨upd s.h id (.rw t e (cs.set off v)), s.n⟩ K) : wpO (⟨none, .store 1 x y, g, chk⟩ :: l) hist fr s K := by
  refine O_store (p := .c v) hx hy hg ho rfl (by omega) ?_
  have : splice cs off [v] = cs.set off v := by
    unfold splice
    rw [List.set_eq_take_append_cons_drop, if_pos hi]; simp
  simp only [AP.cells, this]; exact h

/-! ### comparisons: both ways at once -/
theorem cmp_aux {op : BinOp} {x y : Opd} {k : IntKind} {a b : Int} {t : Bool} (hx : ev fr x = some (.c (.int k a))) (hy : ev fr y = some (.c (.int k b))) (hv : intBin op k a k b = some (.bool t)) : evP (ev fr) (.bin op x y) = some (bv t) := by
  simp only [evP, hx, hy, Option.bind_some, binV, hv, Option.map_some]
theorem O_lt {x y : Opd} {k : IntKind} {a b : Int} (hx : ev fr x = some (.c (.int k a))) (hy : ev fr y = some (.c (.int k b))) (hg : gon fr g = some true)
    (h1 : a < b → wpO l hist ((d, bv true) :: fr) s K) (h2 : b ≤ a → wpO l hist ((d, bv false) :: fr) s K) : wpO (⟨some d, .bin .lss x y, g, chk⟩ :: l) hist fr s K := by
  by_cases h : a < b
  · exact O_p (cmp_aux hx hy (by simp [intBin, h])) hg (h1 h)
  · exact O_p (cmp_aux hx hy (t := false) (by simp [intBin]; omega)) hg (h2 (by omega))
theorem O_le {x y : Opd} {k : IntKind} {a b : Int} (hx : ev fr x = some (.c (.int k a))) (hy : ev fr y = some (.c (.int k b))) (hg : gon fr g = some true)
    (h1 : a ≤ b → wpO l hist ((d, bv true) :: fr) s K) (h2 : b < a → wpO l hist ((d, bv false) :: fr) s K) : wpO (⟨some d, .bin .leq x y, g, chk⟩ :: l) hist fr s K := by
  by_cases h : a ≤ b
  · exact O_p (cmp_aux hx hy (by simp [intBin, h])) hg (h1 h)
  · exact O_p (cmp_aux hx hy (t := false) (by simp [intBin]; omega)) hg (h2 (by omega))
theorem O_gt {x y : Opd} {k : IntKind} {a b : Int} (hx : ev fr x = some (.c (.int k a))) (hy : ev fr y = some (.c (.int k b))) (hg : gon fr g = some true)
    (h1 : b < a → wpO l hist ((d, bv true) :: fr) s K) (h2 : a ≤ b → wpO l hist ((d, bv false) :: fr) s K) : wpO (⟨some d, .bin .gtr x y, g, chk⟩ :: l) hist fr s K := by
  by_cases h : b < a
  · exact O_p (cmp_aux hx hy (by simp [intBin, h])) hg (h1 h)
  · exact O_p (cmp_aux hx hy (t := false) (by simp [intBin]; omega)) hg (h2 (by omega))
theorem O_ge {x y : Opd} {k : IntKind} {a b : Int} (hx : ev fr x = some (.c (.int k a))) (hy : ev fr y = some (.c (.int k b))) (hg : gon fr g = some true)
    (h1 : b ≤ a → wpO l hist ((d, bv true) :: fr) s K) (h2 : a < b → wpO l hist ((d, bv false) :: fr) s K) : wpO (⟨some d, .bin .geq x y, g, chk⟩ :: l) hist fr s K := by
  by_cases h : b ≤ a
  · exact O_p (cmp_aux hx hy (by simp [intBin, h])) hg (h1 h)
  · exact O_p (cmp_aux hx hy (t := false) (by simp [intBin]; omega)) hg (h2 (by omega))
theorem O_eq {x y : Opd} {k : IntKind} {a b : Int} (hx : ev fr x = some (.c (.int k a))) (hy : ev fr y = some (.c (.int k b))) (hg : gon fr g = some true)
    (h1 : a = b → wpO l hist ((d, bv true) :: fr) s K) (h2 : a ≠ b → wpO l hist ((d, bv false) :: fr) s K) : wpO (⟨some d, .bin .eql x y, g, chk⟩ :: l) hist fr s K := by
  by_cases h : a = b
  · exact O_p (cmp_aux hx hy (by simp [intBin, h])) hg (h1 h)
  · exact O_p (cmp_aux hx hy (t := false) (by simp [intBin, h])) hg (h2 h)
theorem O_ne {x y : Opd} {k : IntKind} {a b : Int} (hx : ev fr x = some (.c (.int k a))) (hy : ev fr y = some (.c (.int k b))) (hg : gon fr g = some true)
    (h1 : a ≠ b → wpO l hist ((d, bv true) :: fr) s K) (h2 : a = b → wpO l hist ((d, bv false) :: fr) s K) : wpO (⟨some d, .bin .neq x y, g, chk⟩ :: l) hist fr s K := by
  by_cases h : a = b
  · exact O_p (cmp_aux hx hy (t := false) (by simp [intBin, h])) hg (h2 h)
  · exact O_p (cmp_aux hx hy (by simp [intBin, h])) hg (h1 h)
theorem O_not {x : Opd} {b : Bool} (hx : ev fr x = some (bv b)) (hg : gon fr g = some true) (h : wpO l hist ((d, bv (!b)) :: fr) s K) : wpO (⟨some d, .un .not x, g, chk⟩ :: l) hist fr s K :=
  O_p (by simp only [evP, hx, Option.bind_some, unV, if_true]) hg h
theorem O_beqT {neg : Bool} {x y : Opd} {b : Bool} (hx : ev fr x = some (bv b)) (hy : ev fr y = some (bv b)) (hg : gon fr g = some true) (h : wpO l hist ((d, bv neg.not) :: fr) s K) : wpO (⟨some d, .beq neg x y, g, chk⟩ :: l) hist fr s K :=
  O_p (by simp only [evP, hx, hy, Option.bind_some, beqV]; cases neg <;> simp) hg h
/-- 'x[:i]' -/
theorem O_sliceTo {e : Nat} {x y : Opd} {id off len : Nat} {k : IntKind} {i : Nat} (hx : ev fr x = some (.c (.sl id off len))) (hy : ev fr y = some (.c (.int k (i : Int)))) (hg : gon fr g = some true) (hi : i ≤ len)
    (h : wpO l hist ((d, .c (.sl id off i)) :: fr) s K) : wpO (⟨some d, .slice e x none (some y), g, chk⟩ :: l) hist fr s K := by
  refine O_p ?_ hg h
  simp only [evP, hx, hy, Option.bind_some, optI, asI, Option.map_some, sliceV, Option.getD_none, Option.getD_some]
  rw [if_pos ⟨by omega, by omega, by omega, by simp⟩]
  simp
end
theorem Ints.takeN {s : St} {id off n : Nat} {xs : List Int} (h : Ints s (.c (.sl id off xs.length)) xs) (hn : n ≤ xs.length) : Ints s (.c (.sl id off n)) (xs.take n) := by
  obtain ⟨id', off', h1, h2, h3⟩ := h.ex
  simp only [AV.p.injEq, AP.c.injEq, AC.sl.injEq] at h1
  obtain ⟨rfl, rfl, _⟩ := h1
  refine ⟨id, off, by simp [Nat.min_eq_left hn], h2, ?_⟩
  simp only [srcCells] at h3 ⊢
  split at h3
  · rename_i hid
    rw [if_pos hid]
    split at h3
    · rename_i hl; simp at hl; simp [hl]
    · cases h3
  · rename_i hid
    rw [if_neg hid]
    unfold cellsAt at h3 ⊢
    obtain ⟨all, h4, h5⟩ := Option.bind_eq_some_iff.1 h3
    rw [h4, Option.bind_some]
    unfold cut at h5 ⊢
    split at h5
    · rename_i hle
      have h6 := Option.some.inj h5
      simp only [List.length_take, Nat.min_eq_left hn, Nat.mul_one] at hle h6 ⊢
      rw [if_pos (by omega), List.map_take, ← h6, List.take_take, Nat.min_eq_left hn]
    · cases h5

/-- The truth of a sentence. -/
noncomputable def tt (p : Prop) : Bool := @decide p (Classical.propDecidable p)
theorem tt_t {p : Prop} (h : p) : tt p = true := by simp [tt, h]
theorem tt_f {p : Prop} (h : ¬ p) : tt p = false := by simp [tt, h]
theorem bv_t {p : Prop} (h : p) : bv true = bv (tt p) := by rw [tt_t h]
theorem bv_f {p : Prop} (h : ¬ p) : bv false = bv (tt p) := by rw [tt_f h]
end Go.Proofs.Ytlmbgaoeplffkaa

/- What a function has laid itself, what it may change, and what it can look up: told as one list, found by instances. -/
namespace Go.Proofs.Ytlmbgaoeplffkaa
open Go Go.RowKit
set_option linter.unusedVariables false
set_option linter.unusedSimpArgs false

abbrev Objs := List (Nat × AObj)
def Good (B : List Nat) (b s : St) (p : Nat) (o : AObj) : Prop :=
  ((b.n ≤ p ∨ p ∈ B) ∧ 2 ≤ p ∧ p < s.n ∧ s.h p = some o) ∨ (p ≤ 1 ∧ ∃ t e, o = .rw t e [])
/-- 'b': the state in which the function began; 's': now; 'B': what it may change of what was there; 'L': what it knows and can change. -/
class Own (B : outParam (List Nat)) (b : outParam St) (s : St) (L : outParam Objs) : Prop where
  wf : s.WF
  two : 2 ≤ b.n
  le : b.n ≤ s.n
  keep : ∀ id, id < b.n → (id ∉ B ∨ id ≤ 1) → s.h id = b.h id
  obj : ∀ (i : Nat) p o, L[i]? = some (p, o) → Good B b s p o
  inj : ∀ (i j : Nat) p o q o', L[i]? = some (p, o) → L[j]? = some (q, o') → i ≠ j → 2 ≤ p → p ≠ q
class Wf (s : St) : Prop where
  h : s.WF
instance instWf {B : List Nat} {b s : St} {L : Objs} [H : Own B b s L] : Wf s := ⟨H.wf⟩

theorem Own.start {s : St} (h : s.WF) : Own [] s s [] := ⟨h, h.2, Nat.le_refl _, fun _ _ _ => rfl, fun i p o h => by simp at h, fun i j p o q o' h => by simp at h⟩

section
variable {B : List Nat} {b s : St} {L : Objs}
theorem Own.two' (H : Own B b s L) : 2 ≤ s.n := H.wf.2
/-- Something is laid. -/
theorem Own.new (H : Own B b s L) (o : AObj) : Own B b (s.new (some o)) ((s.n, o) :: L) := by
  refine ⟨(new_good H.wf _).wf, H.two, by have := H.le; simp only [St.new]; omega, fun id h1 h2 => ?_, fun i p o' h => ?_, fun i j p o1 q o2 h1 h2 hne h2p => ?_⟩
  · have := H.le; simp only [St.new]; rw [upd_ne _ _ _ _ (by omega)]; exact H.keep id h1 h2
  · cases i with
    | zero => simp at h; obtain ⟨rfl, rfl⟩ := h; exact .inl ⟨.inl H.le, H.wf.2, by simp [St.new], by simp [St.new, upd_eq]⟩
    | succ i =>
      rcases H.obj i p o' (by simpa using h) with ⟨g1, g2, g3, g4⟩ | g
      · refine .inl ⟨g1, g2, by simp only [St.new]; omega, ?_⟩
        simp only [St.new]; rw [upd_ne _ _ _ _ (by omega)]; exact g4
      · exact .inr g
  · have lt : ∀ (i : Nat) p o, L[i]? = some (p, o) → p < s.n := fun i p o h => by
      have := H.wf.2
      rcases H.obj i p o h with ⟨_, _, g3, _⟩ | ⟨g, _⟩ <;> omega
    cases i with
    | zero =>
      cases j with
      | zero => exact absurd rfl hne
      | succ j => simp at h1; obtain ⟨rfl, rfl⟩ := h1; have := lt j q o2 (by simpa using h2); omega
    | succ i =>
      cases j with
      | zero => simp at h2; obtain ⟨rfl, rfl⟩ := h2; have := lt i p o1 (by simpa using h1); omega
      | succ j => exact H.inj i j p o1 q o2 (by simpa using h1) (by simpa using h2) (by omega) h2p
/-- Something is written. -/
theorem Own.put (H : Own B b s L) {i p : Nat} {o : AObj} (hi : L[i]? = some (p, o)) (hp2 : 2 ≤ p) (o' : AObj) : Own B b ⟨upd s.h p o', s.n⟩ (L.set i (p, o')) := by
  obtain ⟨g1, g2, g3, g4⟩ := (H.obj i p o hi).resolve_right (fun h => by have := h.1; omega)
  have hlt := (List.getElem?_eq_some_iff.1 hi).1
  have at_ : ∀ (j q : Nat) oq, (L.set i (p, o'))[j]? = some (q, oq) → (j = i ∧ q = p ∧ oq = o') ∨ (j ≠ i ∧ L[j]? = some (q, oq)) := fun j q oq h => by
    rw [List.getElem?_set] at h
    by_cases e : i = j
    · subst e; simp [hlt] at h; exact .inl ⟨rfl, h.1.symm, h.2.symm⟩
    · rw [if_neg e] at h; exact .inr ⟨fun e' => e e'.symm, h⟩
  refine ⟨⟨fun id hid => ?_, H.wf.2⟩, H.two, H.le, fun id h1 h2 => ?_, fun j q oq h => ?_, fun j1 j2 q1 o1 q2 o2 h1 h2 hne h2p => ?_⟩
  · simp only at hid ⊢; rw [upd_ne _ _ _ _ (by omega)]; exact H.wf.1 id hid
  · have hne : id ≠ p := by
      rintro rfl
      rcases h2 with h2 | h2
      · rcases g1 with g1 | g1
        · omega
        · exact h2 g1
      · omega
    simp only; rw [upd_ne _ _ _ _ hne]; exact H.keep id h1 h2
  · rcases at_ j q oq h with ⟨rfl, rfl, rfl⟩ | ⟨hne, h⟩
    · exact .inl ⟨g1, g2, g3, upd_eq _ _ _⟩
    · rcases H.obj j q oq h with ⟨k1, k2, k3, k4⟩ | k
      · refine .inl ⟨k1, k2, k3, ?_⟩
        simp only; rw [upd_ne _ _ _ _ (H.inj j i q oq p o h hi hne k2)]; exact k4
      · exact .inr k
  · rcases at_ j1 q1 o1 h1 with ⟨rfl, rfl, rfl⟩ | ⟨hne1, h1'⟩ <;> rcases at_ j2 q2 o2 h2 with ⟨rfl, rfl, rfl⟩ | ⟨hne2, h2'⟩
    · exact absurd rfl hne
    · exact H.inj _ _ _ _ _ _ hi h2' (Ne.symm hne2) h2p
    · exact H.inj _ _ _ _ _ _ h1' hi hne1 h2p
    · exact H.inj _ _ _ _ _ _ h1' h2' hne h2p
/-- Less is told: every entry of the new list stands in the old one, each once. -/
theorem Own.pick (H : Own B b s L) {L' : Objs} (f : Nat → Nat) (h1 : ∀ i x, L'[i]? = some x → L[f i]? = some x) (h2 : ∀ i j, i < L'.length → j < L'.length → i ≠ j → f i ≠ f j) : Own B b s L' :=
  ⟨H.wf, H.two, H.le, H.keep, fun i p o h => H.obj _ p o (h1 i _ h), fun i j p o q o' a c hne h2p =>
    H.inj _ _ p o q o' (h1 i _ a) (h1 j _ c) (h2 i j (List.getElem?_eq_some_iff.1 a).1 (List.getElem?_eq_some_iff.1 c).1 hne) h2p⟩
theorem eraseIdx_at {α : Type} {l : List α} {k i : Nat} {x : α} (h : (l.eraseIdx k)[i]? = some x) : l[if i < k then i else i + 1]? = some x := by
  rw [List.getElem?_eraseIdx] at h
  split at h <;> rename_i hlt <;> simp [hlt, h]
theorem Own.del (H : Own B b s L) (k : Nat) : Own B b s (L.eraseIdx k) :=
  H.pick (fun i => if i < k then i else i + 1) (fun i x h => eraseIdx_at h) (fun i j _ _ hne => by split <;> split <;> omega)
theorem Own.lt (H : Own B b s L) {i p : Nat} {o : AObj} (h : L[i]? = some (p, o)) : p < s.n := by
  have := H.wf.2
  rcases H.obj i p o h with ⟨_, _, g3, _⟩ | ⟨g, _⟩ <;> omega
/-- A list beside: of things that are not in the other. -/
theorem Own.app {N : Objs} (H : Own B b s L) (K : Own B b s N) (hd : ∀ (i j : Nat) p o q o', N[i]? = some (p, o) → L[j]? = some (q, o') → 2 ≤ p → p ≠ q) : Own B b s (N ++ L) := by
  refine ⟨H.wf, H.two, H.le, H.keep, fun i p o h => ?_, fun i j p o q o' h1 h2 hne h2p => ?_⟩
  · rw [List.getElem?_append] at h
    split at h
    · exact K.obj i p o h
    · exact H.obj _ p o h
  · rw [List.getElem?_append] at h1 h2
    split at h1 <;> split at h2
    · exact K.inj i j p o q o' h1 h2 hne h2p
    · exact hd _ _ _ _ _ _ h1 h2 h2p
    · intro e; subst e; exact hd _ _ _ _ _ _ h2 h1 h2p rfl
    · exact H.inj _ _ p o q o' h1 h2 (by omega) h2p
/-- Behind a call that keeps all but one thing. -/
theorem Own.callM {C : List Nat} {s' : St} {N : Objs} (H : Own B b s L) (K : Own C s s' N) {M : Objs} (hM : ∀ (i : Nat) p o, M[i]? = some (p, o) → ∃ j : Nat, L[j]? = some (p, o) ∧ p ∉ C)
    (hMi : ∀ (i j : Nat) p o q o', M[i]? = some (p, o) → M[j]? = some (q, o') → i ≠ j → 2 ≤ p → p ≠ q) (hC : ∀ c ∈ C, ∃ (j : Nat) (o : AObj), L[j]? = some (c, o)) : Own B b s' (N ++ M) := by
  have hCg : ∀ c ∈ C, 2 ≤ c → (b.n ≤ c ∨ c ∈ B) := fun c hc h2 => by
    obtain ⟨j, o, hj⟩ := hC c hc
    rcases H.obj j c o hj with ⟨g, _⟩ | ⟨g, _⟩
    · exact g
    · omega
  have hkeep : ∀ id, id < b.n → (id ∉ B ∨ id ≤ 1) → s'.h id = b.h id := fun id h1 h2 => by
    rw [← H.keep id h1 h2]
    refine K.keep id (by have := H.le; omega) ?_
    by_cases hid : id ≤ 1
    · exact .inr hid
    · refine .inl fun hc => ?_
      rcases hCg id hc (by omega) with g | g
      · omega
      · rcases h2 with h2 | h2
        · exact h2 g
        · omega
  have KN : Own B b s' N := ⟨K.wf, H.two, Nat.le_trans H.le K.le, hkeep, fun i p o h => by
    rcases K.obj i p o h with ⟨g1, g2, g3, g4⟩ | g
    · refine .inl ⟨?_, g2, g3, g4⟩
      rcases g1 with g1 | g1
      · exact .inl (Nat.le_trans H.le g1)
      · exact hCg p g1 g2
    · exact .inr g, K.inj⟩
  have KM : Own B b s' M := ⟨K.wf, H.two, Nat.le_trans H.le K.le, hkeep, fun i p o h => by
    obtain ⟨j, hj, hn⟩ := hM i p o h
    rcases H.obj j p o hj with ⟨g1, g2, g3, g4⟩ | g
    · exact .inl ⟨g1, g2, Nat.lt_of_lt_of_le g3 K.le, by rw [K.keep p g3 (.inl hn)]; exact g4⟩
    · exact .inr g, hMi⟩
  refine KM.app KN fun i j p o q o' h1 h2 h2p => ?_
  rintro rfl
  obtain ⟨j', hj, hn⟩ := hM j p o' h2
  have := H.lt hj
  rcases K.obj i p o h1 with ⟨g1, _⟩ | g
  · rcases g1 with g1 | g1
    · omega
    · exact hn g1
  · omega
theorem Own.call {s' : St} {N : Objs} (H : Own B b s L) (K : Own [] s s' N) : Own B b s' (N ++ L) :=
  H.callM K (fun i p o h => ⟨i, h, by simp⟩) H.inj (fun c hc => by simp at hc)
theorem Own.call1 {s' : St} {N : Objs} {p : Nat} {o : AObj} {k : Nat} (hk : L[k]? = some (p, o)) (H : Own B b s L) (K : Own [p] s s' N) (h2 : 2 ≤ p) : Own B b s' (N ++ L.eraseIdx k) := by
  have hdel := H.del k
  refine H.callM K (fun i q o' h => ?_) hdel.inj (fun c hc => by simp at hc; subst hc; exact ⟨k, o, hk⟩)
  have := eraseIdx_at h
  refine ⟨_, this, ?_⟩
  simp only [List.mem_singleton]
  rintro rfl
  exact H.inj _ _ _ _ _ _ this hk (by split <;> omega) h2 rfl
/-- 'append': the elder object is forgotten, a new one is laid. -/
theorem Own.grow (H : Own B b s L) {k p : Nat} {o : AObj} (hk : L[k]? = some (p, o)) (h2 : 2 ≤ p) (o' : AObj) : Own B b ⟨upd (upd s.h p .dead) s.n o', s.n + 1⟩ ((s.n, o') :: L.eraseIdx k) := by
  have h1 := (H.put hk h2 .dead).del k
  have : (L.set k (p, .dead)).eraseIdx k = L.eraseIdx k := by
    rw [List.eraseIdx_set_eq]
  rw [this] at h1
  exact h1.new o'
end

/-! ### look-ups -/
class Has (L : Objs) (p : Nat) (o : outParam AObj) : Prop where
  ex : ∃ i : Nat, L[i]? = some (p, o)
class Upd (L : Objs) (p : Nat) (o' : AObj) (o : outParam AObj) (L' : outParam Objs) : Prop where
  ex : ∃ i : Nat, L[i]? = some (p, o) ∧ L' = L.set i (p, o')
class Del (L : Objs) (p : Nat) (o : outParam AObj) (L' : outParam Objs) : Prop where
  ex : ∃ i : Nat, L[i]? = some (p, o) ∧ L' = L.eraseIdx i
instance hasT {x : Nat × AObj} {L : Objs} {p : Nat} {o : AObj} [h : Has L p o] : Has (x :: L) p o := ⟨let ⟨i, h⟩ := h.ex; ⟨i + 1, by simpa using h⟩⟩
instance hasH {L : Objs} {p : Nat} {o : AObj} : Has ((p, o) :: L) p o := ⟨0, rfl⟩
instance hasR {N L : Objs} {p : Nat} {o : AObj} [h : Has L p o] : Has (N ++ L) p o := ⟨let ⟨i, h⟩ := h.ex; ⟨N.length + i, by rw [List.getElem?_append_right (by omega)]; simpa using h⟩⟩
instance hasL {N L : Objs} {p : Nat} {o : AObj} [h : Has N p o] : Has (N ++ L) p o := ⟨let ⟨i, h⟩ := h.ex; ⟨i, by rw [List.getElem?_append_left (List.getElem?_eq_some_iff.1 h).1]; exact h⟩⟩
instance updT {x : Nat × AObj} {L L' : Objs} {p : Nat} {o o' : AObj} [h : Upd L p o' o L'] : Upd (x :: L) p o' o (x :: L') := ⟨let ⟨i, h, e⟩ := h.ex; ⟨i + 1, by simpa using h, by simp [e]⟩⟩
instance updH {L : Objs} {p : Nat} {o o' : AObj} : Upd ((p, o) :: L) p o' o ((p, o') :: L) := ⟨0, rfl, rfl⟩
instance updR {N L L' : Objs} {p : Nat} {o o' : AObj} [h : Upd L p o' o L'] : Upd (N ++ L) p o' o (N ++ L') :=
  ⟨let ⟨i, h, e⟩ := h.ex; ⟨N.length + i, by rw [List.getElem?_append_right (by omega)]; simpa using h, by rw [List.set_append_right _ _ (by omega), e]; simp⟩⟩
instance updL {N N' L : Objs} {p : Nat} {o o' : AObj} [h : Upd N p o' o N'] : Upd (N ++ L) p o' o (N' ++ L) :=
  ⟨let ⟨i, h, e⟩ := h.ex; ⟨i, by rw [List.getElem?_append_left (List.getElem?_eq_some_iff.1 h).1]; exact h, by rw [List.set_append_left _ _ (List.getElem?_eq_some_iff.1 h).1, e]⟩⟩
instance delT {x : Nat × AObj} {L L' : Objs} {p : Nat} {o : AObj} [h : Del L p o L'] : Del (x :: L) p o (x :: L') := ⟨let ⟨i, h, e⟩ := h.ex; ⟨i + 1, by simpa using h, by simp [e]⟩⟩
instance delH {L : Objs} {p : Nat} {o : AObj} : Del ((p, o) :: L) p o L := ⟨0, rfl, rfl⟩
instance delR {N L L' : Objs} {p : Nat} {o : AObj} [h : Del L p o L'] : Del (N ++ L) p o (N ++ L') :=
  ⟨let ⟨i, h, e⟩ := h.ex; ⟨N.length + i, by rw [List.getElem?_append_right (by omega)]; simpa using h, by rw [List.eraseIdx_append_of_length_le (by omega), e]; simp⟩⟩
instance delL {N N' L : Objs} {p : Nat} {o : AObj} [h : Del N p o N'] : Del (N ++ L) p o (N' ++ L) :=
  ⟨let ⟨i, h, e⟩ := h.ex; ⟨i, by rw [List.getElem?_append_left (List.getElem?_eq_some_iff.1 h).1]; exact h, by rw [List.eraseIdx_append_of_lt_length (List.getElem?_eq_some_iff.1 h).1, e]⟩⟩
/-- All of the first list stands in the second, each once, but for empty slices. -/
class Sub (N L : Objs) : Prop where
  own : ∀ B b s, Own B b s L → Own B b s N
  ids : ∀ (j : Nat) q o, N[j]? = some (q, o) → q ≤ 1 ∨ ∃ (j' : Nat) (o' : AObj), L[j']? = some (q, o')
instance subN {L : Objs} : Sub [] L := ⟨fun B b s H => H.pick id (fun i x h => by simp at h) (fun i j h => by simp at h), fun j q o h => by simp at h⟩
theorem Own.cons {B : List Nat} {b s : St} {N : Objs} {p : Nat} {o : AObj} (H : Own B b s N) (g : Good B b s p o) (hn : 2 ≤ p → ∀ (j : Nat) q o', N[j]? = some (q, o') → p ≠ q) : Own B b s ((p, o) :: N) := by
  refine ⟨H.wf, H.two, H.le, H.keep, fun j q o' h => ?_, fun j j' q o1 q' o2 h1 h2 hne h2p => ?_⟩
  · cases j with
    | zero => simp at h; obtain ⟨rfl, rfl⟩ := h; exact g
    | succ j => exact H.obj j q o' (by simpa using h)
  · cases j with
    | zero => cases j' with
      | zero => exact absurd rfl hne
      | succ j' => simp at h1; obtain ⟨rfl, rfl⟩ := h1; exact hn h2p j' q' o2 (by simpa using h2)
    | succ j => cases j' with
      | zero => simp at h2; obtain ⟨rfl, rfl⟩ := h2; intro e; subst e; exact hn h2p j _ o1 (by simpa using h1) rfl
      | succ j' => exact H.inj j j' q o1 q' o2 (by simpa using h1) (by simpa using h2) (by omega) h2p
instance subC {N L L' : Objs} {p : Nat} {o : AObj} [h : Del L p o L'] [k : Sub N L'] : Sub ((p, o) :: N) L := by
  obtain ⟨i, hi, rfl⟩ := h.ex
  refine ⟨fun B b s H => (k.own B b s (H.del i)).cons (H.obj i p o hi) fun h2 j q o' hj => ?_, fun j q o' hj => ?_⟩
  · rcases k.ids j q o' hj with g | ⟨j', o'', g⟩
    · omega
    · exact H.inj i _ _ _ _ _ hi (eraseIdx_at g) (by split <;> omega) h2
  · cases j with
    | zero => simp at hj; obtain ⟨rfl, rfl⟩ := hj; exact .inr ⟨i, _, hi⟩
    | succ j =>
      rcases k.ids j q o' (by simpa using hj) with g | ⟨j', o'', g⟩
      · exact .inl g
      · exact .inr ⟨_, _, eraseIdx_at g⟩
theorem Sub.virt {N L : Objs} {p : Nat} {t e : Nat} (hp : p ≤ 1) (k : Sub N L) : Sub ((p, .rw t e []) :: N) L := by
  refine ⟨fun B b s H => (k.own B b s H).cons (.inr ⟨hp, t, e, rfl⟩) fun h2 => by omega, fun j q o' hj => ?_⟩
  cases j with
  | zero => simp at hj; obtain ⟨rfl, rfl⟩ := hj; exact .inl hp
  | succ j => exact k.ids j q o' (by simpa using hj)
instance (priority := low) subV0 {N L : Objs} {t e : Nat} [k : Sub N L] : Sub ((0, .rw t e []) :: N) L := k.virt (by omega)
instance (priority := low) subV1 {N L : Objs} {t e : Nat} [k : Sub N L] : Sub ((1, .rw t e []) :: N) L := k.virt (by omega)
instance (priority := low) subM0 {α : Type} {enc : α → AC} {N L : Objs} {t e : Nat} [k : Sub N L] : Sub ((0, .rw t e (List.map enc [])) :: N) L := k.virt (by omega)
instance (priority := low) subM1 {α : Type} {enc : α → AC} {N L : Objs} {t e : Nat} [k : Sub N L] : Sub ((1, .rw t e (List.map enc [])) :: N) L := k.virt (by omega)

/-- The entries of these names. -/
class Pick (L : Objs) (ids : List Nat) (N : outParam Objs) : Prop where
  sub : Sub N L
instance pickN {L : Objs} : Pick L [] [] := ⟨subN⟩
instance pickC {L L' N : Objs} {p : Nat} {o : AObj} {ids : List Nat} [h : Del L p o L'] [k : Pick L' ids N] : Pick L (p :: ids) ((p, o) :: N) := ⟨by have := k.sub; exact subC⟩

class Ne' (x y : Nat) : Prop where
  h : x ≠ y
class NotIn (x : Nat) (B : List Nat) : Prop where
  h : x ∉ B ∨ x ≤ 1
instance notInN {x : Nat} : NotIn x [] := ⟨.inl (by simp)⟩
instance notInC {x y : Nat} {B : List Nat} [h : Ne' x y] [k : NotIn x B] : NotIn x (y :: B) := ⟨by rcases k.h with k | k; exact .inl (by simp [h.h, k]); exact .inr k⟩

/-- A slice of one-celled elements. -/
class ArgE {α : Type} (enc : α → AC) (s : St) (id off : Nat) (xs : outParam (List α)) : Prop where
  lt : id < s.n
  src : srcCells s.h 1 (id, off, xs.length) = some (xs.map enc)
/-- Cells behind a pointer. -/
class Ref (s : St) (q : Nat) (cs : outParam (List AC)) : Prop where
  lt : q < s.n
  cells : cs ≠ [] → cellsOf s.h q = some cs
section
variable {B : List Nat} {b s : St} {L : Objs}
theorem keepOf [H : Own B b s L] {id : Nat} (hid : id < b.n) [k : NotIn id B] : s.h id = b.h id := H.keep id hid k.h
instance argBase {α : Type} {enc : α → AC} {id off : Nat} {xs : List α} [H : Own B b s L] [h : ArgE enc b id off xs] [k : NotIn id B] : ArgE enc s id off xs :=
  ⟨Nat.lt_of_lt_of_le h.lt H.le, by
    have e := keepOf (H := H) h.lt (k := k)
    have := h.src
    simp only [srcCells, cellsAt, cellsOf] at this ⊢
    rw [e]; exact this⟩
instance refBase {q : Nat} {cs : List AC} [H : Own B b s L] [h : Ref b q cs] [k : NotIn q B] : Ref s q cs :=
  ⟨Nat.lt_of_lt_of_le h.lt H.le, fun hne => by
    have e := keepOf (H := H) h.lt (k := k)
    have := h.cells hne
    simp only [cellsOf] at this ⊢
    rw [e]; exact this⟩
instance argOwn {α : Type} {enc : α → AC} {p t : Nat} {xs : List α} [H : Own B b s L] [h : Has L p (.rw t 1 (xs.map enc))] : ArgE enc s p 0 xs := by
  obtain ⟨i, hi⟩ := h.ex
  refine ⟨H.lt hi, ?_⟩
  rcases H.obj i _ _ hi with ⟨g1, g2, g3, g4⟩ | ⟨g1, t', e', g2⟩
  · simp only [srcCells]
    rw [if_neg (by omega)]
    simp only [cellsAt, cellsOf, g4, Option.bind_some, cut, Nat.zero_add, Nat.mul_one, List.length_map, Nat.le_refl, if_true, List.drop_zero, Option.some.injEq]
    exact List.take_of_length_le (by simp)
  · simp only [AObj.rw.injEq, List.map_eq_nil_iff] at g2
    obtain ⟨_, _, rfl⟩ := g2
    have : p = 0 ∨ p = 1 := by omega
    simp [srcCells, this]
instance refOwn {p t e : Nat} {cs : List AC} [H : Own B b s L] [h : Has L p (.rw t e cs)] : Ref s p cs := by
  obtain ⟨i, hi⟩ := h.ex
  refine ⟨H.lt hi, fun hne => ?_⟩
  rcases H.obj i _ _ hi with ⟨g1, g2, g3, g4⟩ | ⟨g1, t', e', g2⟩
  · simp [cellsOf, g4]
  · simp at g2; exact absurd g2.2.2 hne
end
/-- What is lent to a call. -/
class Bor (s : St) (p : Nat) (o : outParam AObj) : Prop where
  own : Own [p] s s [(p, o)]
instance borOwn {B : List Nat} {b s : St} {L : Objs} {p : Nat} {o : AObj} [H : Own B b s L] [h : Has L p o] : Bor s p o := by
  obtain ⟨i, hi⟩ := h.ex
  refine ⟨H.wf, H.wf.2, Nat.le_refl _, fun _ _ _ => rfl, fun j q o' hj => ?_, fun j j' q o1 q' o2 h1 h2 hne => ?_⟩
  · cases j with
    | zero =>
      simp at hj; obtain ⟨rfl, rfl⟩ := hj
      rcases H.obj i _ _ hi with ⟨g1, g2, g3, g4⟩ | g
      · exact .inl ⟨.inr (by simp), g2, g3, g4⟩
      · exact .inr g
    | succ j => simp at hj
  · cases j with
    | succ j => simp at h1
    | zero => cases j' with
      | zero => exact absurd rfl hne
      | succ j' => simp at h2
theorem ArgE.rd {α : Type} {enc : α → AC} {s : St} {id off : Nat} {xs : List α} (h : ArgE enc s id off xs) {i : Nat} {x : α} (hx : xs[i]? = some x) : rd s.h id (off + i) = some (enc x) :=
  srcCells_rd h.src (by simp [hx])
theorem Ref.rd {s : St} {q : Nat} {cs : List AC} (h : Ref s q cs) {i : Nat} {x : AC} (hx : cs[i]? = some x) : rd s.h q i = some x := by
  have := h.cells (by rintro rfl; simp at hx)
  simp [Go.Proofs.Ytlmbgaoeplffkaa.rd, this, hx]
/-- The same, told of all states that know as much. -/
class LookE {α : Type} (enc : α → AC) (B : List Nat) (b : St) (L : Objs) (id off : Nat) (xs : outParam (List α)) : Prop where
  h : ∀ s, Own B b s L → ArgE enc s id off xs
class LookC (B : List Nat) (b : St) (L : Objs) (q : Nat) (cs : outParam (List AC)) : Prop where
  h : ∀ s, Own B b s L → Ref s q cs
instance lookBase {α : Type} {enc : α → AC} {B : List Nat} {b : St} {L : Objs} {id off : Nat} {xs : List α} [h : ArgE enc b id off xs] [k : NotIn id B] : LookE enc B b L id off xs := ⟨fun s H => argBase⟩
instance lookOwn {α : Type} {enc : α → AC} {B : List Nat} {b : St} {L : Objs} {p t : Nat} {xs : List α} [h : Has L p (.rw t 1 (xs.map enc))] : LookE enc B b L p 0 xs := ⟨fun s H => argOwn (t := t)⟩
instance lookCBase {B : List Nat} {b : St} {L : Objs} {q : Nat} {cs : List AC} [h : Ref b q cs] [k : NotIn q B] : LookC B b L q cs := ⟨fun s H => refBase⟩
instance lookCOwn {B : List Nat} {b : St} {L : Objs} {p t e : Nat} {cs : List AC} [h : Has L p (.rw t e cs)] : LookC B b L p cs := ⟨fun s H => refOwn (t := t) (e := e)⟩
end Go.Proofs.Ytlmbgaoeplffkaa

/- Runs told without states: what is own, what is in the slots, what is still to be done. -/
namespace Go.Proofs.Ytlmbgaoeplffkaa
open Go Go.RowKit
set_option linter.unusedVariables false
set_option linter.unusedSimpArgs false

inductive KK where
  | ret (res : List ARes) (P : AV → Objs → Prop)
  | thn (b : ACode) (k : KK)
  | blk (id : Nat) (k : KK)
  | rnd (live : List Nat) (n : Nat) (I : Nat → Frm → Objs → Prop) (k : KK)
def exitTo (id : Nat) : AOut → AOut
  | .exit i => bif Nat.beq i id then .normal else .exit i
  | o => o
def KQ (B : List Nat) (b : St) : KK → AOut → Frm → St → Prop
  | .ret res P, o, fr, s => (o = .normal ∨ o = .ret) ∧ ∃ v N, resultV fr s.h res = some v ∧ Own B b s N ∧ P v N
  | .thn c k, o, fr, s => match o with | .normal => wpC c fr s (KQ B b k) | o => KQ B b k o fr s
  | .blk id k, o, fr, s => KQ B b k (exitTo id o) fr s
  | .rnd live n I k, o, fr, s => match o with | .normal => ∃ m L, m < n ∧ Own B b s L ∧ I m (restr fr live) L | o => KQ B b k o fr s
structure At (B : List Nat) (b : St) (L : Objs) (l : List AStep) (hist : List Objs) (fr : Frm) (k : KK) : Prop where
  ok : ∀ s hs, Own B b s L → All2 (fun h Lh => ∃ s', h = s'.h ∧ Own B b s' Lh) hs hist → wpO l hs fr s (KQ B b k .normal)
/-- A function's contract: 'N' is what it has laid, or may change. -/
structure Fn (B : List Nat) (f : Nat) (args : List AV) (s : St) (P : AV → Objs → Prop) : Prop where
  ex : wpF f args s fun r s' => ∃ N, Own B s s' N ∧ P r N
abbrev FnV (f : Nat) (args : List AV) (s : St) (v : AV) : Prop := Fn [] f args s fun r N => r = v ∧ N = []
abbrev FnB (f : Nat) (args : List AV) (s : St) (p : Prop) : Prop := Fn [] f args s fun r N => r = bv (tt p) ∧ N = []

/-! ### what comes next -/
inductive Nx where
  | ops (l : List AStep) (k : KK)
  | cnd (c : Opd) (x y : ACode) (k : KK)
  | lop (live : List Nat) (b : ACode) (k : KK)
  | fin (res : List ARes) (P : AV → Objs → Prop)
  | rnd (live : List Nat) (n : Nat) (I : Nat → Frm → Objs → Prop)
  | bad
inductive Cf where
  | c (c : ACode)
  | o (o : AOut)
def nx : Nat → Cf → KK → Nx
  | 0, _, _ => .bad
  | f + 1, .c (.seq a b), k => nx f (.c a) (.thn b k)
  | f + 1, .c (.ops _ l), k => .ops l k
  | f + 1, .c .skip, k => nx f (.o .normal) k
  | f + 1, .c (.cond c a b), k => .cnd c a b k
  | f + 1, .c (.block id b), k => nx f (.c b) (.blk id k)
  | f + 1, .c (.loop live b), k => .lop live b k
  | f + 1, .c (.exit id), k => nx f (.o (.exit id)) k
  | f + 1, .c .ret, k => nx f (.o .ret) k
  | f + 1, .o o, .thn c k => match o with | .normal => nx f (.c c) k | o => nx f (.o o) k
  | f + 1, .o o, .blk id k => nx f (.o (exitTo id o)) k
  | f + 1, .o o, .rnd live n I k => match o with | .normal => .rnd live n I | o => nx f (.o o) k
  | f + 1, .o o, .ret res P => match o with | .exit _ => .bad | _ => .fin res P
def NxOk (B : List Nat) (b : St) (fr : Frm) (s : St) : Nx → Prop
  | .ops l k => wpO l [] fr s (KQ B b k .normal)
  | .cnd c x y k => wpC (.cond c x y) fr s (KQ B b k)
  | .lop live c k => wpC (.loop live c) fr s (KQ B b k)
  | .fin res P => ∃ v N, resultV fr s.h res = some v ∧ Own B b s N ∧ P v N
  | .rnd live n I => ∃ m L, m < n ∧ Own B b s L ∧ I m (restr fr live) L
  | .bad => False
def CfOk (B : List Nat) (b : St) (fr : Frm) (s : St) (k : KK) : Cf → Prop
  | .c c => wpC c fr s (KQ B b k)
  | .o o => KQ B b k o fr s
theorem nx_ok {B : List Nat} {b : St} {fr : Frm} {s : St} : ∀ (f : Nat) (x : Cf) (k : KK), NxOk B b fr s (nx f x k) → CfOk B b fr s k x := by
  intro f
  induction f with
  | zero => intro x k h; exact h.elim
  | succ f ih =>
    intro x k h
    cases x with
    | c c =>
      cases c with
      | skip => exact C_skip (ih _ _ h)
      | ops d l => exact C_ops (by have h : wpO l [] fr s (KQ B b k .normal) := h; obtain ⟨fr', s', a, c⟩ := h.ex; exact ⟨fr', s', a, ⟨c⟩⟩)
      | seq a c =>
        refine C_seq ((ih (.c a) (.thn c k) h : wpC a fr s _).mono fun o fr' s' hq => ?_)
        cases o <;> exact ⟨hq⟩
      | cond c x y => exact h
      | block id c =>
        refine C_block ((ih (.c c) (.blk id k) h : wpC c fr s _).mono fun o fr' s' hq => ⟨?_⟩)
        have : exitTo id o = if o = .exit id then .normal else o := by
          cases o with
          | exit i =>
            by_cases e : i = id
            · subst e; simp [exitTo]
            · have : Nat.beq i id = false := by
                cases hb : Nat.beq i id with
                | false => rfl
                | true => exact absurd (Nat.eq_of_beq_eq_true hb) e
              simp [exitTo, this, e]
          | _ => rfl
        rw [← this]; exact hq
      | loop live c => exact h
      | exit id => exact C_exit (ih _ _ h)
      | ret => exact C_ret (ih _ _ h)
    | o o =>
      cases k with
      | ret res P => cases o with
        | exit id => exact h.elim
        | normal => exact ⟨.inl rfl, h⟩
        | ret => exact ⟨.inr rfl, h⟩
      | thn c k => cases o with
        | normal => exact ih (.c c) k h
        | exit id => exact ih (.o (.exit id)) k h
        | ret => exact ih (.o .ret) k h
      | blk id k => exact ih (.o (exitTo id o)) k h
      | rnd live n I k => cases o with
        | normal => exact h
        | exit id => exact ih (.o (.exit id)) k h
        | ret => exact ih (.o .ret) k h

section
variable {B : List Nat} {b : St} {L : Objs} {l : List AStep} {hist : List Objs} {fr : Frm} {k k' : KK} {d : Nat} {chk : List Nat} {g : Option (Nat × Bool)}

theorem At.nil (h : ∀ s, Own B b s L → KQ B b k .normal fr s) : At B b L [] hist fr k := ⟨fun s hs H _ => O_nil (h s H)⟩
theorem A_go (h : nx 99 (.o .normal) k = .ops l k') (h2 : At B b L l [] fr k') : At B b L [] hist fr k :=
  .nil fun s H => nx_ok 99 (.o .normal) k (by rw [h]; exact h2.ok s [] H .nil)
theorem At.thn {c : ACode} {s : St} (h : At B b L [] [] fr (.thn c k)) (H : Own B b s L) : wpC c fr s (KQ B b k) := by
  obtain ⟨fr', s', a, c⟩ := (h.ok s [] H .nil).ex
  cases a; exact c
theorem A_ifT {c : Opd} {x y : ACode} (h : nx 99 (.o .normal) k = .cnd c x y k') (hc : ev fr c = some (bv true)) (h2 : At B b L [] [] fr (.thn x k')) : At B b L [] hist fr k :=
  .nil fun s H => nx_ok 99 (.o .normal) k (by rw [h]; exact C_ifT hc (h2.thn H))
theorem A_ifF {c : Opd} {x y : ACode} (h : nx 99 (.o .normal) k = .cnd c x y k') (hc : ev fr c = some (bv false)) (h2 : At B b L [] [] fr (.thn y k')) : At B b L [] hist fr k :=
  .nil fun s H => nx_ok 99 (.o .normal) k (by rw [h]; exact C_ifF hc (h2.thn H))
theorem A_ifB {c : Opd} {x y : ACode} {t : Bool} (h : nx 99 (.o .normal) k = .cnd c x y k') (hc : ev fr c = some (bv t)) (h2 : t = true → At B b L [] [] fr (.thn x k')) (h3 : t = false → At B b L [] [] fr (.thn y k')) : At B b L [] hist fr k :=
  .nil fun s H => nx_ok 99 (.o .normal) k (by rw [h]; exact C_if hc (fun e => (h2 e).thn H) (fun e => (h3 e).thn H))
theorem A_loopX {live : List Nat} {c : ACode} (h : nx 99 (.o .normal) k = .lop live c k') (I : Nat → Frm → Objs → Prop) {n : Nat} (h0 : ∃ L', I n (restr fr live) L' ∧ Sub L' L)
    (hr : ∀ m fr L, I m fr L → At B b L [] [] fr (.thn c (.rnd live m I k'))) : At B b L [] hist fr k := by
  refine .nil fun s H => nx_ok 99 (.o .normal) k ?_
  rw [h]
  obtain ⟨L', h1, h2⟩ := h0
  refine C_loop (fun m fr s => ∃ L, Own B b s L ∧ I m fr L) (fun m fr s ⟨L, H, hI⟩ => ?_) (n := n) ⟨L', h2.own _ _ _ H, h1⟩
  refine ((hr m fr L hI).thn H).mono fun o fr' s' hq => ?_
  cases o with
  | normal => obtain ⟨m', L'', a, b, c⟩ := hq; exact ⟨m', a, L'', b, c⟩
  | exit id => exact hq
  | ret => exact hq
theorem A_loop {live : List Nat} {c : ACode} (h : nx 99 (.o .normal) k = .lop live c k') (ids : List Nat) {N : Objs} [hp : Pick L ids N] (I : Nat → Frm → Objs → Prop) (n : Nat) (h0 : I n (restr fr live) N)
    (hr : ∀ m fr L, I m fr L → At B b L [] [] fr (.thn c (.rnd live m I k'))) : At B b L [] hist fr k := A_loopX h I ⟨N, h0, hp.sub⟩ hr
/-- One round of a loop, and then the loop again: for loops of few rounds. -/
theorem A_unroll {live : List Nat} {c : ACode} (h : nx 99 (.o .normal) k = .lop live c k') (h2 : At B b L [] [] (restr fr live) (.thn c (.thn (.loop live c) k'))) : At B b L [] hist fr k := by
  refine .nil fun s H => nx_ok 99 (.o .normal) k ?_
  rw [h]
  obtain ⟨o, fr1, s1, e1, h1⟩ := (h2.thn H).ex
  cases o with
  | normal =>
    obtain ⟨o2, fr2, s2, e2, h3⟩ := wpC.ex h1
    exact ⟨o2, fr2, s2, .loopN e1 e2, h3⟩
  | exit id => exact ⟨_, _, _, .loopX e1 (by simp), h1⟩
  | ret => exact ⟨_, _, _, .loopX e1 (by simp), h1⟩
theorem A_roundX {live : List Nat} {n : Nat} {I : Nat → Frm → Objs → Prop} (h : nx 99 (.o .normal) k = .rnd live n I) (h2 : ∃ m L', m < n ∧ I m (restr fr live) L' ∧ Sub L' L) : At B b L [] hist fr k :=
  .nil fun s H => nx_ok 99 (.o .normal) k (by rw [h]; obtain ⟨m, L', a, c, e⟩ := h2; exact ⟨m, L', a, e.own _ _ _ H, c⟩)
theorem A_round {live : List Nat} {n : Nat} {I : Nat → Frm → Objs → Prop} (h : nx 99 (.o .normal) k = .rnd live n I) (ids : List Nat) {N : Objs} [hp : Pick L ids N] (m : Nat) (hm : m < n) (h2 : I m (restr fr live) N) : At B b L [] hist fr k :=
  A_roundX h ⟨m, N, hm, h2, hp.sub⟩
/-- What a function hands back. -/
inductive RP (B : List Nat) (b : St) (L : Objs) (fr : Frm) : List ARes → List AP → Prop
  | nil : RP B b L fr [] []
  | t {i : Nat} {p : AP} {rs : List ARes} {ps : List AP} : get fr i = some (.p p) → RP B b L fr rs ps → RP B b L fr (.t i :: rs) (p :: ps)
  | c {i n q : Nat} {cs : List AC} {rs : List ARes} {ps : List AP} : get fr i = some (.c (.ptr q 0)) → LookC B b L q cs → n = cs.length → cs ≠ [] → RP B b L fr rs ps → RP B b L fr (.cell true n i :: rs) (.agg cs :: ps)
  | c1 {i n q : Nat} {v : AC} {cs : List AC} {rs : List ARes} {ps : List AP} : get fr i = some (.c (.ptr q 0)) → LookC B b L q (v :: cs) → RP B b L fr rs ps → RP B b L fr (.cell false n i :: rs) (.c v :: ps)
theorem cut_all {cs : List AC} : cut cs 0 cs.length = some cs := by simp [cut]
theorem RP.ok {rs : List ARes} {ps : List AP} (h : RP B b L fr rs ps) {s : St} (H : Own B b s L) : resPs fr s.h rs = some ps := by
  induction h with
  | nil => rfl
  | t h1 _ ih => simp [resPs, resV, h1, asP, ih]
  | c h1 h2 h3 h4 _ ih => subst h3; simp [resPs, resV, h1, asP, asPtr, ih, cellsAt, (h2.h s H).cells h4, cut_all]
  | c1 h1 h2 _ ih => simp [resPs, resV, h1, asP, asPtr, ih, (h2.h s H).cells (by simp)]
theorem A_ret1 {r : ARes} {P : AV → Objs → Prop} {p : AP} (h : nx 99 (.o .normal) k = .fin [r] P) (hr : RP B b L fr [r] [p]) (h2 : ∃ N, P (.p p) N ∧ Sub N L) : At B b L [] hist fr k :=
  .nil fun s H => nx_ok 99 (.o .normal) k (by
    rw [h]; obtain ⟨N, a, e⟩ := h2
    refine ⟨_, N, ?_, e.own _ _ _ H, a⟩
    have := hr.ok H
    simp only [resPs, Option.bind_eq_some_iff, Option.map_some, Option.some.injEq, List.cons.injEq, and_true] at this
    obtain ⟨v, h3, p', h4, rfl⟩ := this
    simp only [resultV, h3]
    cases v <;> simp [asP] at h4
    rw [h4])
theorem A_ret {r r' : ARes} {rs : List ARes} {P : AV → Objs → Prop} {ps : List AP} (h : nx 99 (.o .normal) k = .fin (r :: r' :: rs) P) (hr : RP B b L fr (r :: r' :: rs) ps) (h2 : ∃ N, P (.tup ps) N ∧ Sub N L) : At B b L [] hist fr k :=
  .nil fun s H => nx_ok 99 (.o .normal) k (by
    rw [h]; obtain ⟨N, a, e⟩ := h2
    exact ⟨_, N, by simp only [resultV, hr.ok H, Option.map_some], e.own _ _ _ H, a⟩)
theorem A_ret0 {P : AV → Objs → Prop} (h : nx 99 (.o .normal) k = .fin [] P) (h2 : ∃ N, P (.tup []) N ∧ Sub N L) : At B b L [] hist fr k :=
  .nil fun s H => nx_ok 99 (.o .normal) k (by rw [h]; obtain ⟨N, a, e⟩ := h2; exact ⟨_, N, rfl, e.own _ _ _ H, a⟩)

theorem F_startB {f nt : Nat} {res : List ARes} {body : ACode} (hc : acode Try.prog hints f = some ⟨nt, res, body⟩) {args : List AV} {s : St} {P : AV → Objs → Prop} (H : Own B s s L)
    (h : At B s L [] [] (frame0 0 args) (.thn body (.ret res P))) : Fn B f args s P := by
  refine ⟨C_fn hc ((h.thn H).mono fun o fr' s' hq => ⟨hq.1, ?_⟩)⟩
  obtain ⟨v, N, h1, h2, h3⟩ := hq.2
  exact ⟨v, h1, N, h2, h3⟩
theorem F_start {f nt : Nat} {res : List ARes} {body : ACode} (hc : acode Try.prog hints f = some ⟨nt, res, body⟩) {args : List AV} {s : St} {P : AV → Objs → Prop} [w : Wf s]
    (h : At [] s [] [] [] (frame0 0 args) (.thn body (.ret res P))) : Fn [] f args s P := F_startB hc (Own.start w.h) h
theorem F_start1 {f nt : Nat} {res : List ARes} {body : ACode} (hc : acode Try.prog hints f = some ⟨nt, res, body⟩) {args : List AV} {s : St} {P : AV → Objs → Prop} {p : Nat} {o : AObj} [w : Bor s p o]
    (h : At [p] s [(p, o)] [] [] (frame0 0 args) (.thn body (.ret res P))) : Fn [p] f args s P := F_startB hc w.own h
theorem Fn.mono {f : Nat} {args : List AV} {s : St} {P P' : AV → Objs → Prop} (h : Fn B f args s P) (hp : ∀ r N, P r N → P' r N) : Fn B f args s P' :=
  ⟨h.ex.mono fun r s' ⟨N, a, c⟩ => ⟨N, a, hp r N c⟩⟩
end
end Go.Proofs.Ytlmbgaoeplffkaa

/- Rules for operations, over what is own and what is in the slots. -/
namespace Go.Proofs.Ytlmbgaoeplffkaa
open Go Go.RowKit
set_option linter.unusedVariables false
set_option linter.unusedSimpArgs false

section
variable {B : List Nat} {b : St} {L L' : Objs} {l : List AStep} {hist : List Objs} {fr : Frm} {k k' : KK} {d : Nat} {chk : List Nat} {g : Option (Nat × Bool)}

/-- One operation that lays nothing and changes nothing. -/
theorem At.same {st : AStep} {fr' : Frm} (f : ∀ s hs (K : Frm → St → Prop), Own B b s L → wpO l hs fr' s K → wpO (st :: l) hs fr s K) (h : At B b L l hist fr' k) : At B b L (st :: l) hist fr k :=
  ⟨fun s hs H Hh => f s hs _ H (h.ok s hs H Hh)⟩
theorem hist_snoc {hs : List Heap} {s : St} (H : Own B b s L) (h : All2 (fun h Lh => ∃ s', h = s'.h ∧ Own B b s' Lh) hs hist) : All2 (fun h Lh => ∃ s', h = s'.h ∧ Own B b s' Lh) (hs ++ [s.h]) (hist ++ [L]) :=
  h.append (.cons ⟨s, rfl, H⟩ .nil)
theorem A_p {op : AOp} {v : AV} (hv : evP (ev fr) op = some v) (hg : gon fr g = some true) (h : At B b L l hist ((d, v) :: fr) k) : At B b L (⟨some d, op, g, chk⟩ :: l) hist fr k :=
  .same (fun s hs K H h => O_p hv hg h) h
theorem A_fld {q off : Nat} {x : Opd} (hx : ev fr x = some (.c (.ptr q 0))) (hg : gon fr g = some true) (h : At B b L l hist ((d, .c (.ptr q off)) :: fr) k) : At B b L (⟨some d, .fieldA off x, g, chk⟩ :: l) hist fr k :=
  A_p (by simp only [evP, hx, Option.bind_some, fieldV, Nat.zero_add]) hg h
/-- Structs made of their fields. -/
theorem A_mk3 {x y z : Opd} {a0 b0 c0 a c e : AC} (hx : ev fr x = some (.c a)) (hy : ev fr y = some (.c c)) (hz : ev fr z = some (.c e)) (hg : gon fr g = some true) (h : At B b L l hist ((d, .agg [a, c, e]) :: fr) k) : At B b L (⟨some d, .build [a0, b0, c0] [(0, 1, x), (1, 1, y), (2, 1, z)], g, chk⟩ :: l) hist fr k :=
  A_p (by simp [evP, fillV, hx, hy, hz, asP, AP.cells, splice]) hg h
theorem A_mk23 {x y : Opd} {a0 b0 c0 a c : AC} (hx : ev fr x = some (.c a)) (hy : ev fr y = some (.c c)) (hg : gon fr g = some true) (h : At B b L l hist ((d, .agg [a, c, c0]) :: fr) k) : At B b L (⟨some d, .build [a0, b0, c0] [(0, 1, x), (1, 1, y)], g, chk⟩ :: l) hist fr k :=
  A_p (by simp [evP, fillV, hx, hy, asP, AP.cells, splice]) hg h
theorem A_mk13 {x : Opd} {a0 b0 c0 a : AC} (hx : ev fr x = some (.c a)) (hg : gon fr g = some true) (h : At B b L l hist ((d, .agg [a, b0, c0]) :: fr) k) : At B b L (⟨some d, .build [a0, b0, c0] [(0, 1, x)], g, chk⟩ :: l) hist fr k :=
  A_p (by simp [evP, fillV, hx, asP, AP.cells, splice]) hg h
theorem A_mk2 {x y : Opd} {a0 b0 a c : AC} (hx : ev fr x = some (.c a)) (hy : ev fr y = some (.c c)) (hg : gon fr g = some true) (h : At B b L l hist ((d, .agg [a, c]) :: fr) k) : At B b L (⟨some d, .build [a0, b0] [(0, 1, x), (1, 1, y)], g, chk⟩ :: l) hist fr k :=
  A_p (by simp [evP, fillV, hx, hy, asP, AP.cells, splice]) hg h
theorem A_off {dst : Option Nat} {op : AOp} (hg : gon fr g = some false) (h : At B b L l (if kindOf op = .h then hist ++ [L] else hist) (putO fr dst (some .undef)) k) : At B b L (⟨dst, op, g, chk⟩ :: l) hist fr k :=
  ⟨fun s hs H Hh => O_off hg (h.ok s _ H (by split <;> first | exact hist_snoc H Hh | exact Hh))⟩
theorem A_offP {op : AOp} (hg : gon fr g = some false) (hk : (kindOf op == .h) = false) (h : At B b L l hist ((d, .undef) :: fr) k) : At B b L (⟨some d, op, g, chk⟩ :: l) hist fr k :=
  A_off hg (by have : kindOf op ≠ .h := by intro e; rw [e] at hk; cases hk
               rw [if_neg this]; exact h)
theorem A_offH {op : AOp} (hg : gon fr g = some false) (hk : (kindOf op == .h) = true) (h : At B b L l (hist ++ [L]) ((d, .undef) :: fr) k) : At B b L (⟨some d, op, g, chk⟩ :: l) hist fr k :=
  A_off hg (by have : kindOf op = .h := by cases e : kindOf op <;> rw [e] at hk <;> first | rfl | cases hk
               rw [if_pos this]; exact h)
theorem A_off0 {op : AOp} (hg : gon fr g = some false) (hk : (kindOf op == .h) = true) (h : At B b L l (hist ++ [L]) fr k) : At B b L (⟨none, op, g, chk⟩ :: l) hist fr k :=
  A_off hg (by have : kindOf op = .h := by cases e : kindOf op <;> rw [e] at hk <;> first | rfl | cases hk
               rw [if_pos this]; exact h)
theorem A_add {x y : Opd} {a c : Int} (hx : ev fr x = some (iv a)) (hy : ev fr y = some (iv c)) (hg : gon fr g = some true) (hb : -9223372036854775808 ≤ a + c ∧ a + c ≤ 9223372036854775807) (h : At B b L l hist ((d, iv (a + c)) :: fr) k) : At B b L (⟨some d, .bin .add x y, g, chk⟩ :: l) hist fr k :=
  .same (fun s hs K H h => O_add hx hy hg hb h) h
theorem A_sub {x y : Opd} {a c : Int} (hx : ev fr x = some (iv a)) (hy : ev fr y = some (iv c)) (hg : gon fr g = some true) (hb : -9223372036854775808 ≤ a - c ∧ a - c ≤ 9223372036854775807) (h : At B b L l hist ((d, iv (a - c)) :: fr) k) : At B b L (⟨some d, .bin .sub x y, g, chk⟩ :: l) hist fr k :=
  .same (fun s hs K H h => O_sub hx hy hg hb h) h
theorem A_mul {x y : Opd} {a c : Int} (hx : ev fr x = some (iv a)) (hy : ev fr y = some (iv c)) (hg : gon fr g = some true) (hb : -9223372036854775808 ≤ a * c ∧ a * c ≤ 9223372036854775807) (h : At B b L l hist ((d, iv (a * c)) :: fr) k) : At B b L (⟨some d, .bin .mul x y, g, chk⟩ :: l) hist fr k :=
  .same (fun s hs K H h => O_mul hx hy hg hb h) h
/-- Whatever the bounds. -/
theorem A_mulW {x y : Opd} {a c : Int} (hx : ev fr x = some (iv a)) (hy : ev fr y = some (iv c)) (hg : gon fr g = some true) (h : At B b L l hist ((d, iv (IntKind.wrap .i64 (a * c))) :: fr) k) : At B b L (⟨some d, .bin .mul x y, g, chk⟩ :: l) hist fr k :=
  A_p (by simp only [evP, hx, hy, Option.bind_some, binV, intBin]; simp) hg h
theorem wrap_range (n : Int) : -9223372036854775808 ≤ IntKind.wrap .i64 n ∧ IntKind.wrap .i64 n ≤ 9223372036854775807 := by
  have e : IntKind.wrap .i64 n = if n % 18446744073709551616 ≥ 9223372036854775808 then n % 18446744073709551616 - 18446744073709551616 else n % 18446744073709551616 := by
    simp [IntKind.wrap, IntKind.bits, IntKind.signed]
  rw [e]; split <;> omega
/-- Remainders and quotients of numbers that are not negative. -/
theorem A_rem {x y : Opd} {a c : Int} (hx : ev fr x = some (iv a)) (hy : ev fr y = some (iv c)) (hg : gon fr g = some true) (hb : 0 ≤ a ∧ 0 < c) (h : At B b L l hist ((d, iv (a % c)) :: fr) k) : At B b L (⟨some d, .bin .rem x y, g, chk⟩ :: l) hist fr k :=
  A_p (by simp only [evP, hx, hy, Option.bind_some, binV, intBin, if_true]; rw [if_neg (by omega), Int.tmod_eq_emod_of_nonneg hb.1]; rfl) hg h
theorem A_remT {x y : Opd} {a c : Int} (hx : ev fr x = some (iv a)) (hy : ev fr y = some (iv c)) (hg : gon fr g = some true) (hb : c ≠ 0) (h : At B b L l hist ((d, iv (a.tmod c)) :: fr) k) : At B b L (⟨some d, .bin .rem x y, g, chk⟩ :: l) hist fr k :=
  A_p (by simp only [evP, hx, hy, Option.bind_some, binV, intBin, if_true]; rw [if_neg hb]; rfl) hg h
theorem A_quo {x y : Opd} {a c : Int} (hx : ev fr x = some (iv a)) (hy : ev fr y = some (iv c)) (hg : gon fr g = some true) (hb : (0 ≤ a ∧ a ≤ 9223372036854775807) ∧ 0 < c) (h : At B b L l hist ((d, iv (a / c)) :: fr) k) : At B b L (⟨some d, .bin .quo x y, g, chk⟩ :: l) hist fr k :=
  A_p (by
    simp only [evP, hx, hy, Option.bind_some, binV, intBin, if_true]
    rw [if_neg (by omega), Int.tdiv_eq_ediv_of_nonneg hb.1.1, wrap_in]; rfl
    have := Int.ediv_nonneg hb.1.1 (show 0 ≤ c by omega)
    have := Int.ediv_le_self c hb.1.1
    unfold in64; omega) hg h
theorem A_lt {x y : Opd} {q : IntKind} {a c : Int} (hx : ev fr x = some (.c (.int q a))) (hy : ev fr y = some (.c (.int q c))) (hg : gon fr g = some true)
    (h1 : a < c → At B b L l hist ((d, bv true) :: fr) k) (h2 : c ≤ a → At B b L l hist ((d, bv false) :: fr) k) : At B b L (⟨some d, .bin .lss x y, g, chk⟩ :: l) hist fr k :=
  ⟨fun s hs H Hh => O_lt hx hy hg (fun e => (h1 e).ok s hs H Hh) (fun e => (h2 e).ok s hs H Hh)⟩
theorem A_le {x y : Opd} {q : IntKind} {a c : Int} (hx : ev fr x = some (.c (.int q a))) (hy : ev fr y = some (.c (.int q c))) (hg : gon fr g = some true)
    (h1 : a ≤ c → At B b L l hist ((d, bv true) :: fr) k) (h2 : c < a → At B b L l hist ((d, bv false) :: fr) k) : At B b L (⟨some d, .bin .leq x y, g, chk⟩ :: l) hist fr k :=
  ⟨fun s hs H Hh => O_le hx hy hg (fun e => (h1 e).ok s hs H Hh) (fun e => (h2 e).ok s hs H Hh)⟩
theorem A_gt {x y : Opd} {q : IntKind} {a c : Int} (hx : ev fr x = some (.c (.int q a))) (hy : ev fr y = some (.c (.int q c))) (hg : gon fr g = some true)
    (h1 : c < a → At B b L l hist ((d, bv true) :: fr) k) (h2 : a ≤ c → At B b L l hist ((d, bv false) :: fr) k) : At B b L (⟨some d, .bin .gtr x y, g, chk⟩ :: l) hist fr k :=
  ⟨fun s hs H Hh => O_gt hx hy hg (fun e => (h1 e).ok s hs H Hh) (fun e => (h2 e).ok s hs H Hh)⟩
theorem A_ge {x y : Opd} {q : IntKind} {a c : Int} (hx : ev fr x = some (.c (.int q a))) (hy : ev fr y = some (.c (.int q c))) (hg : gon fr g = some true)
    (h1 : c ≤ a → At B b L l hist ((d, bv true) :: fr) k) (h2 : a < c → At B b L l hist ((d, bv false) :: fr) k) : At B b L (⟨some d, .bin .geq x y, g, chk⟩ :: l) hist fr k :=
  ⟨fun s hs H Hh => O_ge hx hy hg (fun e => (h1 e).ok s hs H Hh) (fun e => (h2 e).ok s hs H Hh)⟩
theorem A_eq {x y : Opd} {q : IntKind} {a c : Int} (hx : ev fr x = some (.c (.int q a))) (hy : ev fr y = some (.c (.int q c))) (hg : gon fr g = some true)
    (h1 : a = c → At B b L l hist ((d, bv true) :: fr) k) (h2 : a ≠ c → At B b L l hist ((d, bv false) :: fr) k) : At B b L (⟨some d, .bin .eql x y, g, chk⟩ :: l) hist fr k :=
  ⟨fun s hs H Hh => O_eq hx hy hg (fun e => (h1 e).ok s hs H Hh) (fun e => (h2 e).ok s hs H Hh)⟩
theorem A_ne {x y : Opd} {q : IntKind} {a c : Int} (hx : ev fr x = some (.c (.int q a))) (hy : ev fr y = some (.c (.int q c))) (hg : gon fr g = some true)
    (h1 : a ≠ c → At B b L l hist ((d, bv true) :: fr) k) (h2 : a = c → At B b L l hist ((d, bv false) :: fr) k) : At B b L (⟨some d, .bin .neq x y, g, chk⟩ :: l) hist fr k :=
  ⟨fun s hs H Hh => O_ne hx hy hg (fun e => (h1 e).ok s hs H Hh) (fun e => (h2 e).ok s hs H Hh)⟩
/-- Truths compared. -/
theorem A_beq {neg : Bool} {x y : Opd} {t u : Bool} (hx : ev fr x = some (bv t)) (hy : ev fr y = some (bv u)) (hg : gon fr g = some true)
    (h1 : t = u → At B b L l hist ((d, bv !neg) :: fr) k) (h2 : t ≠ u → At B b L l hist ((d, bv neg) :: fr) k) : At B b L (⟨some d, .beq neg x y, g, chk⟩ :: l) hist fr k := by
  by_cases e : t = u
  · refine A_p ?_ hg (h1 e)
    simp only [evP, hx, hy, Option.bind_some, beqV]; subst e; cases neg <;> simp
  · refine A_p ?_ hg (h2 e)
    simp only [evP, hx, hy, Option.bind_some, beqV]; cases neg <;> simp [e]
theorem A_idxN {e : Nat} {x y : Opd} {id off len : Nat} {q : IntKind} {i : Nat} (hx : ev fr x = some (.c (.sl id off len))) (hy : ev fr y = some (.c (.int q (i : Int)))) (hg : gon fr g = some true) (hi : i < len)
    (h : At B b L l hist ((d, .c (.ptr id (off + i * e))) :: fr) k) : At B b L (⟨some d, .idxA e x y, g, chk⟩ :: l) hist fr k :=
  .same (fun s hs K H h => O_idxN hx hy hg hi h) h
theorem A_idx {e : Nat} {x y : Opd} {id off len : Nat} {q : IntKind} {i : Int} (hx : ev fr x = some (.c (.sl id off len))) (hy : ev fr y = some (.c (.int q i))) (hg : gon fr g = some true) (hi : 0 ≤ i ∧ i < len)
    (h : At B b L l hist ((d, .c (.ptr id (off + i.toNat * e))) :: fr) k) : At B b L (⟨some d, .idxA e x y, g, chk⟩ :: l) hist fr k :=
  .same (fun s hs K H h => O_idx hx hy hg hi h) h
/-- The same, of elements of one cell. -/
theorem A_idxN1 {x y : Opd} {id off len : Nat} {q : IntKind} {i : Nat} (hx : ev fr x = some (.c (.sl id off len))) (hy : ev fr y = some (.c (.int q (i : Int)))) (hg : gon fr g = some true) (hi : i < len)
    (h : At B b L l hist ((d, .c (.ptr id (off + i))) :: fr) k) : At B b L (⟨some d, .idxA 1 x y, g, chk⟩ :: l) hist fr k :=
  A_idxN hx hy hg hi (by rw [Nat.mul_one]; exact h)
theorem A_idx1 {x y : Opd} {id off len : Nat} {q : IntKind} {i : Int} (hx : ev fr x = some (.c (.sl id off len))) (hy : ev fr y = some (.c (.int q i))) (hg : gon fr g = some true) (hi : 0 ≤ i ∧ i < len)
    (h : At B b L l hist ((d, .c (.ptr id (off + i.toNat))) :: fr) k) : At B b L (⟨some d, .idxA 1 x y, g, chk⟩ :: l) hist fr k :=
  A_idx hx hy hg hi (by rw [Nat.mul_one]; exact h)
theorem A_idxArr1 {n : Nat} {x y : Opd} {id off : Nat} {q : IntKind} {i : Int} (hx : ev fr x = some (.c (.ptr id off))) (hy : ev fr y = some (.c (.int q i))) (hg : gon fr g = some true) (hi : 0 ≤ i ∧ i < n)
    (h : At B b L l hist ((d, .c (.ptr id (off + i.toNat))) :: fr) k) : At B b L (⟨some d, .idxArr n 1 x y, g, chk⟩ :: l) hist fr k :=
  .same (fun s hs K H h => O_idxArr hx hy hg hi (by rw [Nat.mul_one]; exact h)) h
theorem A_idxArr {n e : Nat} {x y : Opd} {id off : Nat} {q : IntKind} {i : Int} (hx : ev fr x = some (.c (.ptr id off))) (hy : ev fr y = some (.c (.int q i))) (hg : gon fr g = some true) (hi : 0 ≤ i ∧ i < n)
    (h : At B b L l hist ((d, .c (.ptr id (off + i.toNat * e))) :: fr) k) : At B b L (⟨some d, .idxArr n e x y, g, chk⟩ :: l) hist fr k :=
  .same (fun s hs K H h => O_idxArr hx hy hg hi h) h
/-- 'x[:i]', 'x[i:]', 'x[i:j]' -/
theorem A_slTo {e : Nat} {x y : Opd} {id off len : Nat} {q : IntKind} {i : Int} (hx : ev fr x = some (.c (.sl id off len))) (hy : ev fr y = some (.c (.int q i))) (hg : gon fr g = some true) (hi : 0 ≤ i ∧ i ≤ len)
    (h : At B b L l hist ((d, .c (.sl id off i.toNat)) :: fr) k) : At B b L (⟨some d, .slice e x none (some y), g, chk⟩ :: l) hist fr k := by
  refine A_p ?_ hg h
  simp only [evP, hx, hy, Option.bind_some, optI, asI, Option.map_some, sliceV, Option.getD_none, Option.getD_some]
  rw [if_pos ⟨by omega, by omega, by omega, by simp⟩]
  simp
theorem A_slFrom {e : Nat} {x y : Opd} {id off len : Nat} {q : IntKind} {i : Int} (hx : ev fr x = some (.c (.sl id off len))) (hy : ev fr y = some (.c (.int q i))) (hg : gon fr g = some true) (hi : 0 ≤ i ∧ (i < len ∨ i = 0))
    (h : At B b L l hist ((d, .c (.sl id (off + i.toNat * e) (len - i.toNat))) :: fr) k) : At B b L (⟨some d, .slice e x (some y) none, g, chk⟩ :: l) hist fr k := by
  refine A_p ?_ hg h
  simp only [evP, hx, hy, Option.bind_some, optI, asI, Option.map_some, sliceV, Option.getD_none, Option.getD_some]
  rw [if_pos ⟨by omega, by omega, by omega, by omega⟩]
  rw [show ((len : Int) - i).toNat = len - i.toNat by omega]
theorem A_slFT {e : Nat} {x y z : Opd} {id off len : Nat} {q q' : IntKind} {i j : Int} (hx : ev fr x = some (.c (.sl id off len))) (hy : ev fr y = some (.c (.int q i))) (hz : ev fr z = some (.c (.int q' j))) (hg : gon fr g = some true) (hi : 0 ≤ i ∧ i ≤ j ∧ j ≤ len ∧ (i < len ∨ i = 0))
    (h : At B b L l hist ((d, .c (.sl id (off + i.toNat * e) (j.toNat - i.toNat))) :: fr) k) : At B b L (⟨some d, .slice e x (some y) (some z), g, chk⟩ :: l) hist fr k := by
  refine A_p ?_ hg h
  simp only [evP, hx, hy, hz, Option.bind_some, optI, asI, Option.map_some, sliceV, Option.getD_none, Option.getD_some]
  rw [if_pos ⟨by omega, by omega, by omega, by omega⟩]
  rw [show (j - i).toNat = j.toNat - i.toNat by omega]

/-! ### reading -/
/-- Reading in a region of open order. -/
class SameAt (B : List Nat) (b : St) (L L' : Objs) (q : Nat) : Prop where
  h : ∀ s s', Own B b s L → Own B b s' L' → cellsOf s.h q = cellsOf s'.h q
instance sameCells {q t e : Nat} {cs : List AC} [h : Has L q (.rw t e cs)] [k : Has L' q (.rw t e cs)] : SameAt B b L L' q := ⟨fun s s' H H' => by
  have a := (refOwn (H := H) (h := h)).cells
  have c := (refOwn (H := H') (h := k)).cells
  cases cs with
  | cons x cs => rw [a (by simp), c (by simp)]
  | nil =>
    obtain ⟨i, hi⟩ := h.ex
    obtain ⟨j, hj⟩ := k.ex
    rcases H.obj i _ _ hi with ⟨g1, g2, g3, g4⟩ | ⟨g1, _⟩
    · rcases H'.obj j _ _ hj with ⟨k1, k2, k3, k4⟩ | ⟨k1, _⟩
      · simp [cellsOf, g4, k4]
      · omega
    · have : s.h q = s'.h q := by rw [H.keep q (by have := H.two; omega) (.inr g1), H'.keep q (by have := H.two; omega) (.inr g1)]
      simp [cellsOf, this]⟩
theorem sameArg {α : Type} {enc : α → AC} {q off : Nat} {xs : List α} [h : ArgE enc b q off xs] [k : NotIn q B] : SameAt B b L L' q := ⟨fun s s' H H' => by
  have : s.h q = s'.h q := by rw [H.keep q h.lt k.h, H'.keep q h.lt k.h]
  simp [cellsOf, this]⟩
instance sameRef {q : Nat} {cs : List AC} [h : Ref b q cs] [k : NotIn q B] : SameAt B b L L' q := ⟨fun s s' H H' => by
  have : s.h q = s'.h q := by rw [H.keep q h.lt k.h, H'.keep q h.lt k.h]
  simp [cellsOf, this]⟩
theorem evR_load {ag : Bool} {n : Nat} {x : Opd} {q off : Nat} {h h' : Heap} (hx : ev fr x = some (.c (.ptr q off))) (e : cellsOf h q = cellsOf h' q) : evR (ev fr) h (.load ag n x) = evR (ev fr) h' (.load ag n x) := by
  simp only [evR, hx, Option.bind_some, asPtr, cellsAt, e]
theorem A_chk {ag : Bool} {n : Nat} {x : Opd} {q off : Nat} {c0 : Nat} {cs0 : List Nat} (hx : ev fr x = some (.c (.ptr q off))) (hg : gon fr g = some true) (hc : ∀ c ∈ c0 :: cs0, ∃ Lc, hist[c]? = some Lc ∧ SameAt B b Lc L q)
    (h : At B b L (⟨some d, .load ag n x, g, []⟩ :: l) hist fr k) : At B b L (⟨some d, .load ag n x, g, c0 :: cs0⟩ :: l) hist fr k := by
  refine ⟨fun s hs H Hh => ?_⟩
  obtain ⟨fr', s', a, c⟩ := (h.ok s hs H Hh).ex
  cases a with
  | off hg' => rw [hg] at hg'; cases hg'
  | pure hg' hv a => simp [evP] at hv
  | read hg' hv hc' a =>
    refine ⟨fr', s', .read hg hv (fun z hz => ?_) a, c⟩
    obtain ⟨Lc, h1, h2⟩ := hc z hz
    have h5 : ∃ hk, hs[z]? = some hk ∧ ∃ s', hk = s'.h ∧ Own B b s' Lc := by
      have hl := Hh.len
      have hlt := (List.getElem?_eq_some_iff.1 h1).1
      obtain ⟨y, hy, hr⟩ := Hh.get z (hs[z]'(by omega)) (List.getElem?_eq_getElem _)
      rw [h1] at hy; obtain rfl := Option.some.inj hy
      exact ⟨_, List.getElem?_eq_getElem _, hr⟩
    obtain ⟨hk, h6, s2, rfl, h7⟩ := h5
    exact ⟨_, h6, by rw [← hv]; exact evR_load hx (h2.h _ _ h7 H)⟩
  | new hg' hv a => simp [evA] at hv
  | write hg' hv a => simp [evH] at hv
  | call hg' ho => cases ho
theorem A_chk1 {ag : Bool} {n : Nat} {x : Opd} {q off c0 : Nat} {L0 : Objs} (hx : ev fr x = some (.c (.ptr q off))) (hg : gon fr g = some true) (h0 : hist[c0]? = some L0) [k0 : SameAt B b L0 L q]
    (h : At B b L (⟨some d, .load ag n x, g, []⟩ :: l) hist fr k) : At B b L (⟨some d, .load ag n x, g, [c0]⟩ :: l) hist fr k :=
  A_chk hx hg (by
    intro c hc
    simp only [List.mem_cons, List.not_mem_nil, or_false] at hc
    subst hc; exact ⟨_, h0, k0⟩) h
theorem A_chk2 {ag : Bool} {n : Nat} {x : Opd} {q off c0 c1 : Nat} {L0 L1 : Objs} (hx : ev fr x = some (.c (.ptr q off))) (hg : gon fr g = some true) (h0 : hist[c0]? = some L0) (h1 : hist[c1]? = some L1) [k0 : SameAt B b L0 L q] [k1 : SameAt B b L1 L q]
    (h : At B b L (⟨some d, .load ag n x, g, []⟩ :: l) hist fr k) : At B b L (⟨some d, .load ag n x, g, [c0, c1]⟩ :: l) hist fr k :=
  A_chk hx hg (by
    intro c hc
    simp only [List.mem_cons, List.not_mem_nil, or_false] at hc
    rcases hc with rfl | rfl
    · exact ⟨_, h0, k0⟩
    · exact ⟨_, h1, k1⟩) h
theorem A_chk3 {ag : Bool} {n : Nat} {x : Opd} {q off c0 c1 c2 : Nat} {L0 L1 L2 : Objs} (hx : ev fr x = some (.c (.ptr q off))) (hg : gon fr g = some true) (h0 : hist[c0]? = some L0) (h1 : hist[c1]? = some L1) (h2 : hist[c2]? = some L2) [k0 : SameAt B b L0 L q] [k1 : SameAt B b L1 L q] [k2 : SameAt B b L2 L q]
    (h : At B b L (⟨some d, .load ag n x, g, []⟩ :: l) hist fr k) : At B b L (⟨some d, .load ag n x, g, [c0, c1, c2]⟩ :: l) hist fr k :=
  A_chk hx hg (by
    intro c hc
    simp only [List.mem_cons, List.not_mem_nil, or_false] at hc
    rcases hc with rfl | rfl | rfl
    · exact ⟨_, h0, k0⟩
    · exact ⟨_, h1, k1⟩
    · exact ⟨_, h2, k2⟩) h
theorem A_chk4 {ag : Bool} {n : Nat} {x : Opd} {q off c0 c1 c2 c3 : Nat} {L0 L1 L2 L3 : Objs} (hx : ev fr x = some (.c (.ptr q off))) (hg : gon fr g = some true) (h0 : hist[c0]? = some L0) (h1 : hist[c1]? = some L1) (h2 : hist[c2]? = some L2) (h3 : hist[c3]? = some L3) [k0 : SameAt B b L0 L q] [k1 : SameAt B b L1 L q] [k2 : SameAt B b L2 L q] [k3 : SameAt B b L3 L q]
    (h : At B b L (⟨some d, .load ag n x, g, []⟩ :: l) hist fr k) : At B b L (⟨some d, .load ag n x, g, [c0, c1, c2, c3]⟩ :: l) hist fr k :=
  A_chk hx hg (by
    intro c hc
    simp only [List.mem_cons, List.not_mem_nil, or_false] at hc
    rcases hc with rfl | rfl | rfl | rfl
    · exact ⟨_, h0, k0⟩
    · exact ⟨_, h1, k1⟩
    · exact ⟨_, h2, k2⟩
    · exact ⟨_, h3, k3⟩) h
/-- The same, of arguments. -/
theorem A_chkI {α : Type} {enc : α → AC} {ag : Bool} {n : Nat} {x : Opd} {q off i : Nat} {c0 : Nat} {cs0 : List Nat} {xs : List α} (hx : ev fr x = some (.c (.ptr q (off + i)))) (ha : ArgE enc b q off xs) [k1 : NotIn q B] (hg : gon fr g = some true) (hc : ∀ c ∈ c0 :: cs0, c < hist.length)
    (h : At B b L (⟨some d, .load ag n x, g, []⟩ :: l) hist fr k) : At B b L (⟨some d, .load ag n x, g, c0 :: cs0⟩ :: l) hist fr k :=
  A_chk hx hg (fun c hc' => ⟨_, List.getElem?_eq_getElem (hc c hc'), sameArg (h := ha)⟩) h
theorem A_ld {n : Nat} {x : Opd} {q off : Nat} {cs : List AC} {v : AC} (hx : ev fr x = some (.c (.ptr q off))) [hl : LookC B b L q cs] (hv : cs[off]? = some v) (hg : gon fr g = some true) (h : At B b L l hist ((d, .c v) :: fr) k) :
    At B b L (⟨some d, .load false n x, g, []⟩ :: l) hist fr k :=
  .same (fun s hs K H h => O_load hx hg ((hl.h s H).rd hv) h) h
theorem A_ldW {x : Opd} {q n : Nat} {cs : List AC} (hx : ev fr x = some (.c (.ptr q 0))) [hl : LookC B b L q cs] (hn : n = cs.length ∧ cs ≠ []) (hg : gon fr g = some true) (h : At B b L l hist ((d, .agg cs) :: fr) k) :
    At B b L (⟨some d, .load true n x, g, []⟩ :: l) hist fr k :=
  .same (fun s hs K H h => O_loadA hx hg (by simp only [cellsAt, (hl.h s H).cells hn.2, Option.bind_some]; rw [hn.1]; exact cut_all) h) h
theorem A_ldA {n : Nat} {x : Opd} {q off : Nat} {cs ys : List AC} (hx : ev fr x = some (.c (.ptr q off))) [hl : LookC B b L q cs] (hn : cs ≠ []) (hv : cut cs off n = some ys) (hg : gon fr g = some true) (h : At B b L l hist ((d, .agg ys) :: fr) k) :
    At B b L (⟨some d, .load true n x, g, []⟩ :: l) hist fr k :=
  .same (fun s hs K H h => O_loadA hx hg (by simp only [cellsAt, (hl.h s H).cells hn, Option.bind_some]; exact hv) h) h
theorem getD_some {α : Type} {xs : List α} {i : Nat} (d : α) (hi : i < xs.length) : xs[i]? = some (xs.getD i d) := by
  rw [List.getD_eq_getElem?_getD, List.getElem?_eq_getElem hi]; rfl
theorem A_ldI {n : Nat} {x : Opd} {q off i : Nat} {xs : List Int} (hx : ev fr x = some (.c (.ptr q (off + i)))) [hl : LookE ic B b L q off xs] (hi : i < xs.length) (hg : gon fr g = some true) (h : At B b L l hist ((d, iv (xs.getD i 0)) :: fr) k) :
    At B b L (⟨some d, .load false n x, g, []⟩ :: l) hist fr k :=
  .same (fun s hs K H h => O_load hx hg ((hl.h s H).rd (getD_some 0 hi)) h) h
abbrev bc (t : Bool) : AC := .bool t
theorem A_ldB {n : Nat} {x : Opd} {q off i : Nat} {xs : List Bool} (hx : ev fr x = some (.c (.ptr q (off + i)))) [hl : LookE bc B b L q off xs] (hi : i < xs.length) (hg : gon fr g = some true) (h : At B b L l hist ((d, bv (xs.getD i false)) :: fr) k) :
    At B b L (⟨some d, .load false n x, g, []⟩ :: l) hist fr k :=
  .same (fun s hs K H h => O_load hx hg ((hl.h s H).rd (getD_some false hi)) h) h

/-! ### laying -/
theorem At.new {st : AStep} {v : Nat → AV} {o : AObj} (f : ∀ s hs (K : Frm → St → Prop), Own B b s L → wpO l hs ((d, v s.n) :: fr) (s.new (some o)) K → wpO (st :: l) hs fr s K) (h : ∀ p, 2 ≤ p → At B b ((p, o) :: L) l hist ((d, v p) :: fr) k) : At B b L (st :: l) hist fr k :=
  ⟨fun s hs H Hh => f s hs _ H ((h s.n H.two').ok _ hs (H.new o) Hh)⟩
theorem A_alloc {t : Nat} {z : List AC} (hg : gon fr g = some true) (h : ∀ p, 2 ≤ p → At B b ((p, .rw t z.length z) :: L) l hist ((d, .c (.ptr p 0)) :: fr) k) : At B b L (⟨some d, .alloc t z, g, chk⟩ :: l) hist fr k :=
  .new (v := fun p => .c (.ptr p 0)) (fun s hs K H h => O_a rfl hg h) h
theorem A_box {t : Nat} {x : Opd} {cs : List AC} (hx : ev fr x = some (.agg cs)) (hg : gon fr g = some true) (h : ∀ p, 2 ≤ p → At B b ((p, .rw t cs.length cs) :: L) l hist ((d, .c (.ptr p 0)) :: fr) k) : At B b L (⟨some d, .box t x, g, chk⟩ :: l) hist fr k :=
  .new (v := fun p => .c (.ptr p 0)) (fun s hs K H h => O_a (oo := some (.rw t cs.length cs)) (by simp only [evA, hx, Option.bind_some, asP, Option.map_some, AP.cells]) hg h) h
theorem A_boxC {t : Nat} {x : Opd} {c : AC} (hx : ev fr x = some (.c c)) (hg : gon fr g = some true) (h : ∀ p, 2 ≤ p → At B b ((p, .rw t 1 [c]) :: L) l hist ((d, .c (.ptr p 0)) :: fr) k) : At B b L (⟨some d, .box t x, g, chk⟩ :: l) hist fr k :=
  .new (v := fun p => .c (.ptr p 0)) (fun s hs K H h => O_a (oo := some (.rw t 1 [c])) (by simp only [evA, hx, Option.bind_some, asP, Option.map_some, AP.cells, List.length_singleton]) hg h) h
theorem A_makeN {α : Type} {enc : α → AC} {a : α} {t by_ : Nat} {x y : Opd} {q q' : IntKind} {n : Nat} (hx : ev fr x = some (.c (.int q (n : Int)))) (hy : ev fr y = some (.c (.int q' (n : Int)))) (hg : gon fr g = some true) (hb : (by_ : Int) * n ≤ 140737488355328 ∧ (n : Int) ≤ 4611686018427387904)
    (h : ∀ p, 2 ≤ p → At B b ((p, .rw t 1 ((List.replicate n a).map enc)) :: L) l hist ((d, .c (.sl p 0 n)) :: fr) k) : At B b L (⟨some d, .makeS t 1 by_ [enc a] x y, g, chk⟩ :: l) hist fr k :=
  .new (v := fun p => .c (.sl p 0 n)) (fun s hs K H h => O_make hx hy hg hb (by rw [List.map_replicate] at h; exact h)) h
theorem A_make {α : Type} {enc : α → AC} {a : α} {t by_ : Nat} {x y : Opd} {q q' : IntKind} {n : Int} (hx : ev fr x = some (.c (.int q n))) (hy : ev fr y = some (.c (.int q' n))) (hg : gon fr g = some true) (hb : 0 ≤ n ∧ (by_ : Int) * n ≤ 140737488355328 ∧ (n : Int) ≤ 4611686018427387904)
    (h : ∀ p, 2 ≤ p → At B b ((p, .rw t 1 ((List.replicate n.toNat a).map enc)) :: L) l hist ((d, .c (.sl p 0 n.toNat)) :: fr) k) : At B b L (⟨some d, .makeS t 1 by_ [enc a] x y, g, chk⟩ :: l) hist fr k := by
  obtain ⟨m, rfl⟩ : ∃ m : Nat, n = m := ⟨n.toNat, by omega⟩
  exact A_makeN hx hy hg hb.2 h
theorem A_makeC {z : AC} {t by_ : Nat} {x y : Opd} {q q' : IntKind} {n : Int} (hx : ev fr x = some (.c (.int q n))) (hy : ev fr y = some (.c (.int q' n))) (hg : gon fr g = some true) (hb : 0 ≤ n ∧ (by_ : Int) * n ≤ 140737488355328 ∧ (n : Int) ≤ 4611686018427387904)
    (h : ∀ p, 2 ≤ p → At B b ((p, .rw t 1 (List.replicate n.toNat z)) :: L) l hist ((d, .c (.sl p 0 n.toNat)) :: fr) k) : At B b L (⟨some d, .makeS t 1 by_ [z] x y, g, chk⟩ :: l) hist fr k := by
  obtain ⟨m, rfl⟩ : ∃ m : Nat, n = m := ⟨n.toNat, by omega⟩
  exact .new (v := fun p => .c (.sl p 0 m)) (fun s hs K H h => O_make hx hy hg hb.2 h) h
/-- '[]T{}', '[]T{a}', .. -/
theorem A_bld0 {t e : Nat} {z : List AC} (hg : gon fr g = some true) (h : At B b ((1, .rw t e []) :: L) l hist ((d, .c (.sl 1 0 0)) :: fr) k) : At B b L (⟨some d, .buildS t e 0 z [], g, chk⟩ :: l) hist fr k :=
  ⟨fun s hs H Hh => O_a (oo := none) (by simp [evA]) hg (h.ok s hs (H.cons (.inr ⟨by omega, _, _, rfl⟩) (by omega)) Hh)⟩
theorem A_bld1 {α : Type} {enc : α → AC} {a : α} {t : Nat} {z : AC} {y : Opd} (hy : ev fr y = some (.c (enc a))) (hg : gon fr g = some true) (h : ∀ p, 2 ≤ p → At B b ((p, .rw t 1 ([a].map enc)) :: L) l hist ((d, .c (.sl p 0 1)) :: fr) k) : At B b L (⟨some d, .buildS t 1 1 [z] [(0, 1, y)], g, chk⟩ :: l) hist fr k :=
  .new (v := fun p => .c (.sl p 0 1)) (fun s hs K H h => O_a (oo := some (.rw t 1 ([a].map enc))) (by simp [evA, fillV, hy, asP, AP.cells, splice]) hg h) h
theorem A_bld2 {α : Type} {enc : α → AC} {a c : α} {t : Nat} {z : AC} {y y2 : Opd} (hy : ev fr y = some (.c (enc a))) (hy2 : ev fr y2 = some (.c (enc c))) (hg : gon fr g = some true) (h : ∀ p, 2 ≤ p → At B b ((p, .rw t 1 ([a, c].map enc)) :: L) l hist ((d, .c (.sl p 0 2)) :: fr) k) : At B b L (⟨some d, .buildS t 1 2 [z] [(0, 1, y), (1, 1, y2)], g, chk⟩ :: l) hist fr k :=
  .new (v := fun p => .c (.sl p 0 2)) (fun s hs K H h => O_a (oo := some (.rw t 1 ([a, c].map enc))) (by simp [evA, fillV, hy, hy2, asP, AP.cells, splice]) hg h) h
theorem A_bld4 {α : Type} {enc : α → AC} {a1 a2 a3 a4 : α} {t : Nat} {z : AC} {y1 y2 y3 y4 : Opd} (h1 : ev fr y1 = some (.c (enc a1))) (h2 : ev fr y2 = some (.c (enc a2))) (h3 : ev fr y3 = some (.c (enc a3))) (h4 : ev fr y4 = some (.c (enc a4))) (hg : gon fr g = some true)
    (h : ∀ p, 2 ≤ p → At B b ((p, .rw t 1 ([a1, a2, a3, a4].map enc)) :: L) l hist ((d, .c (.sl p 0 4)) :: fr) k) : At B b L (⟨some d, .buildS t 1 4 [z] [(0, 1, y1), (1, 1, y2), (2, 1, y3), (3, 1, y4)], g, chk⟩ :: l) hist fr k :=
  .new (v := fun p => .c (.sl p 0 4)) (fun s hs K H h => O_a (oo := some (.rw t 1 ([a1, a2, a3, a4].map enc))) (by simp [evA, fillV, h1, h2, h3, h4, asP, AP.cells, splice]) hg h) h
theorem A_bldC {t e n : Nat} {z cs : List AC} {ps : List (Nat × Nat × Opd)} (hn : n ≠ 0) (hf : fillV (ev fr) (List.flatten (List.replicate n z)) ps = some cs) (hg : gon fr g = some true)
    (h : ∀ p, 2 ≤ p → At B b ((p, .rw t e cs) :: L) l hist ((d, .c (.sl p 0 n)) :: fr) k) : At B b L (⟨some d, .buildS t e n z ps, g, chk⟩ :: l) hist fr k :=
  .new (v := fun p => .c (.sl p 0 n)) (fun s hs K H h => O_a (oo := some (.rw t e cs)) (by simp only [evA]; rw [if_neg hn, hf]; rfl) hg h) h
theorem A_mkMap (hg : gon fr g = some true) (h : ∀ p, 2 ≤ p → At B b ((p, .map []) :: L) l hist ((d, .c (.mp p)) :: fr) k) : At B b L (⟨some d, .mkMap, g, chk⟩ :: l) hist fr k :=
  .new (v := fun p => .c (.mp p)) (fun s hs K H h => O_a rfl hg h) h

/-! ### writing -/
theorem At.put {st : AStep} {fr' : Frm} {p : Nat} {o o' : AObj} [hu : Upd L p o' o L'] (hne : ∀ t e, o ≠ .rw t e [])
    (f : ∀ s hs (K : Frm → St → Prop), Own B b s L → s.h p = some o → wpO l (hs ++ [s.h]) fr' ⟨upd s.h p o', s.n⟩ K → wpO (st :: l) hs fr s K) (h : At B b L' l (hist ++ [L]) fr' k) : At B b L (st :: l) hist fr k := by
  refine ⟨fun s hs H Hh => ?_⟩
  obtain ⟨i, hi, rfl⟩ := hu.ex
  obtain ⟨g1, g2, g3, g4⟩ := (H.obj i p o hi).resolve_right (fun h => by obtain ⟨_, t, e, rfl⟩ := h; exact hne t e rfl)
  exact f s hs _ H g4 (h.ok _ _ (H.put hi g2 o') (hist_snoc H Hh))
class SetC (cs : List AC) (off : Nat) (v : AC) (cs' : outParam (List AC)) : Prop where
  eq : off < cs.length ∧ cs.set off v = cs'
instance setC0 {c : AC} {cs : List AC} {v : AC} : SetC (c :: cs) 0 v (v :: cs) := ⟨by simp, rfl⟩
instance setCS {c : AC} {cs cs' : List AC} {n : Nat} {v : AC} [h : SetC cs n v cs'] : SetC (c :: cs) (n + 1) v (c :: cs') := ⟨by simpa using h.eq.1, by simp [h.eq.2]⟩
theorem A_st {x y : Opd} {q off t e : Nat} {cs cs' : List AC} {v : AC} (hx : ev fr x = some (.c (.ptr q off))) (hy : ev fr y = some (.c v)) [hh : Has L q (.rw t e cs)] [hs : SetC cs off v cs'] [hu : Upd L q (.rw t e cs') (.rw t e cs) L'] (hg : gon fr g = some true)
    (h : At B b L' l (hist ++ [L]) fr k) : At B b L (⟨none, .store 1 x y, g, chk⟩ :: l) hist fr k :=
  .put (p := q) (o := .rw t e cs) (o' := .rw t e cs') (fun t e he => by simp at he; have := hs.eq.1; rw [he.2.2] at this; simp at this) (fun s hs' K H ho h => O_store1 hx hy hg ho hs.eq.1 (by rw [hs.eq.2]; exact h)) h
theorem A_stW {x y : Opd} {q t e n : Nat} {cs ys : List AC} (hx : ev fr x = some (.c (.ptr q 0))) (hy : ev fr y = some (.agg ys)) [hh : Has L q (.rw t e cs)] (hn : (n = cs.length ∧ n = ys.length) ∧ n ≠ 0) [hu : Upd L q (.rw t e ys) (.rw t e cs) L'] (hg : gon fr g = some true)
    (h : At B b L' l (hist ++ [L]) fr k) : At B b L (⟨none, .store n x y, g, chk⟩ :: l) hist fr k :=
  .put (p := q) (o := .rw t e cs) (o' := .rw t e ys) (fun t e he => by simp at he; have := hn.1.1; rw [he.2.2] at this; exact hn.2 (by simpa using this))
    (fun s hs' K H ho h => O_store (p := .agg ys) hx hy hg ho hn.1.2.symm (by omega) (by
      have : splice cs 0 ys = ys := by simp [splice]; omega
      simp only [AP.cells, this]; exact h)) h
theorem A_stG {x y : Opd} {q off t e n : Nat} {cs ys : List AC} (hx : ev fr x = some (.c (.ptr q off))) (hy : ev fr y = some (.agg ys)) [hh : Has L q (.rw t e cs)] (hn : ys.length = n ∧ off + n ≤ cs.length ∧ n ≠ 0) [hu : Upd L q (.rw t e (splice cs off ys)) (.rw t e cs) L'] (hg : gon fr g = some true)
    (h : At B b L' l (hist ++ [L]) fr k) : At B b L (⟨none, .store n x y, g, chk⟩ :: l) hist fr k :=
  .put (p := q) (o := .rw t e cs) (o' := .rw t e (splice cs off ys)) (fun t e he => by simp at he; have := hn.2.1; rw [he.2.2] at this; simp at this; omega)
    (fun s hs' K H ho h => O_store (p := .agg ys) hx hy hg ho hn.1 hn.2.1 h) h
theorem A_stE {α : Type} {enc : α → AC} {x y : Opd} {q i t e : Nat} {xs : List α} {a : α} (hx : ev fr x = some (.c (.ptr q (0 + i)))) (hy : ev fr y = some (.c (enc a))) [hh : Has L q (.rw t e (xs.map enc))] [hu : Upd L q (.rw t e ((xs.set i a).map enc)) (.rw t e (xs.map enc)) L'] (hi : i < xs.length) (hg : gon fr g = some true)
    (h : At B b L' l (hist ++ [L]) fr k) : At B b L (⟨none, .store 1 x y, g, chk⟩ :: l) hist fr k :=
  .put (p := q) (o := .rw t e (xs.map enc)) (o' := .rw t e ((xs.set i a).map enc)) (fun t e he => by simp at he; rw [he.2.2] at hi; simp at hi)
    (fun s hs' K H ho h => O_store1 hx hy hg ho (by simpa using hi) (by rw [Nat.zero_add, ← List.map_set]; exact h)) h
/-- A cell of a list of cells whatever. -/
theorem A_stC {x y : Opd} {q i t e : Nat} {cs : List AC} {v : AC} (hx : ev fr x = some (.c (.ptr q (0 + i)))) (hy : ev fr y = some (.c v)) [hh : Has L q (.rw t e cs)] [hu : Upd L q (.rw t e (cs.set i v)) (.rw t e cs) L'] (hi : i < cs.length) (hg : gon fr g = some true)
    (h : At B b L' l (hist ++ [L]) fr k) : At B b L (⟨none, .store 1 x y, g, chk⟩ :: l) hist fr k :=
  .put (p := q) (o := .rw t e cs) (o' := .rw t e (cs.set i v)) (fun t e he => by simp at he; rw [he.2.2] at hi; simp at hi)
    (fun s hs' K H ho h => O_store1 hx hy hg ho (by rw [Nat.zero_add]; exact hi) (by rw [Nat.zero_add]; exact h)) h
end
end Go.Proofs.Ytlmbgaoeplffkaa

/- Rules for appending and for calls. -/
namespace Go.Proofs.Ytlmbgaoeplffkaa
open Go Go.RowKit
set_option linter.unusedVariables false
set_option linter.unusedSimpArgs false

section
variable {B : List Nat} {b : St} {L L' : Objs} {l : List AStep} {hist : List Objs} {fr : Frm} {k k' : KK} {d : Nat} {chk : List Nat} {g : Option (Nat × Bool)}

theorem O_app {s : St} {hs : List Heap} {K : Frm → St → Prop} {t e by_ p len id off m : Nat} {x y : Opd} {cs news : List AC} (hx : ev fr x = some (.c (.sl p 0 len))) (hy : ev fr y = some (.c (.sl id off m))) (hg : gon fr g = some true)
    (hn : srcCells s.h e (id, off, m) = some news) (hb : (len + m) * by_ ≤ 140737488355328 ∧ len + m ≤ 4611686018427387904) (h2 : 2 ≤ p) (ho : s.h p = some (.rw t e cs)) (hl : cs.length = len * e)
    (h : wpO l (hs ++ [s.h]) ((d, .c (.sl s.n 0 (len + m))) :: fr) ⟨upd (upd s.h p .dead) s.n (.rw t e (cs ++ news)), s.n + 1⟩ K) : wpO (⟨some d, .append t e by_ x y, g, chk⟩ :: l) hs fr s K := by
  refine O_h ?_ hg h
  simp only [evH, hx, hy, Option.bind_some, asSl, hn]
  rw [if_pos ⟨hb.1, hb.2⟩, if_neg (by omega)]
  simp only [ho]
  rw [if_pos ⟨trivial, trivial, trivial, by omega⟩, ← hl, List.take_length]
theorem O_appN {s : St} {hs : List Heap} {K : Frm → St → Prop} {t e by_ p id off m : Nat} {x y : Opd} {news : List AC} (hx : ev fr x = some (.c (.sl p 0 0))) (hp : p ≤ 1) (hy : ev fr y = some (.c (.sl id off m))) (hg : gon fr g = some true)
    (hn : srcCells s.h e (id, off, m) = some news) (hb : m * by_ ≤ 140737488355328 ∧ m ≤ 4611686018427387904) (hm : m ≠ 0)
    (h : wpO l (hs ++ [s.h]) ((d, .c (.sl s.n 0 m)) :: fr) ⟨upd s.h s.n (.rw t e news), s.n + 1⟩ K) : wpO (⟨some d, .append t e by_ x y, g, chk⟩ :: l) hs fr s K := by
  refine O_h ?_ hg h
  have : p = 0 ∨ p = 1 := by omega
  simp only [evH, hx, hy, Option.bind_some, asSl, hn, Nat.zero_add]
  rw [if_pos ⟨hb.1, hb.2⟩, if_pos this, if_pos trivial, if_neg hm]
theorem O_appNN {s : St} {hs : List Heap} {K : Frm → St → Prop} {t e by_ p id off : Nat} {x y : Opd} {news : List AC} (hx : ev fr x = some (.c (.sl p 0 0))) (hp : p ≤ 1) (hy : ev fr y = some (.c (.sl id off 0))) (hg : gon fr g = some true)
    (hn : srcCells s.h e (id, off, 0) = some news) (h : wpO l (hs ++ [s.h]) ((d, .c (.sl p 0 0)) :: fr) s K) : wpO (⟨some d, .append t e by_ x y, g, chk⟩ :: l) hs fr s K := by
  refine O_h (h' := s.h) (n' := s.n) ?_ hg h
  have : p = 0 ∨ p = 1 := by omega
  simp only [evH, hx, hy, Option.bind_some, asSl, hn, Nat.zero_add, Nat.zero_mul]
  rw [if_pos ⟨by omega, by omega⟩, if_pos this, if_pos trivial, if_pos trivial]
theorem Own.src {s : St} (H : Own B b s L) {p t e : Nat} {cs : List AC} (hh : Has L p (.rw t e cs)) {m : Nat} (hm : cs.length = m * e) (he : 0 < e) : srcCells s.h e (p, 0, m) = some cs := by
  obtain ⟨i, hi⟩ := hh.ex
  rcases H.obj i _ _ hi with ⟨g1, g2, g3, g4⟩ | ⟨g1, t', e', g2⟩
  · simp only [srcCells]
    rw [if_neg (by omega)]
    simp only [cellsAt, cellsOf, g4, Option.bind_some, ← hm]
    exact cut_all
  · simp only [AObj.rw.injEq] at g2
    obtain ⟨_, _, rfl⟩ := g2
    have h01 : p = 0 ∨ p = 1 := by omega
    have hme : m * e = 0 := by simpa using hm.symm
    obtain rfl : m = 0 := by
      rcases Nat.mul_eq_zero.1 hme with h | h
      · exact h
      · omega
    simp [srcCells, h01]
theorem At.app {t e by_ p len id off m : Nat} {x y : Opd} {cs news : List AC} (hx : ev fr x = some (.c (.sl p 0 len))) (hy : ev fr y = some (.c (.sl id off m))) (hg : gon fr g = some true) [hd : Del L p (.rw t e cs) L']
    (hn : ∀ s, Own B b s L → srcCells s.h e (id, off, m) = some news) (hl : cs.length = len * e) (hm : news.length = m * e) (he : 0 < e) (hb : (len + m) * by_ ≤ 140737488355328 ∧ len + m ≤ 4611686018427387904)
    (h : ∀ p', At B b ((p', .rw t e (cs ++ news)) :: L') l (hist ++ [L]) ((d, .c (.sl p' 0 (len + m))) :: fr) k) : At B b L (⟨some d, .append t e by_ x y, g, chk⟩ :: l) hist fr k := by
  refine ⟨fun s hs H Hh => ?_⟩
  obtain ⟨i, hi, rfl⟩ := hd.ex
  rcases H.obj i _ _ hi with ⟨g1, g2, g3, g4⟩ | ⟨g1, t', e', g2⟩
  · exact O_app hx hy hg (hn s H) hb g2 g4 hl ((h s.n).ok _ _ (H.grow hi g2 _) (hist_snoc H Hh))
  · simp only [AObj.rw.injEq] at g2
    obtain ⟨rfl, rfl, rfl⟩ := g2
    have hl0 : len * e = 0 := by simpa using hl.symm
    obtain rfl : len = 0 := by
      rcases Nat.mul_eq_zero.1 hl0 with h | h
      · exact h
      · omega
    by_cases hm0 : m = 0
    · subst hm0
      obtain rfl : news = [] := by simpa using hm
      exact O_appNN hx g1 hy hg (hn s H) ((h p).ok _ _ ((H.del i).cons (.inr ⟨g1, _, _, rfl⟩) (by omega)) (hist_snoc H Hh))
    · refine O_appN hx g1 hy hg (hn s H) (by rw [Nat.zero_add] at hb; exact hb) hm0 ?_
      have := (h s.n).ok ⟨upd s.h s.n (.rw t e news), s.n + 1⟩ _ ((H.del i).new (.rw t e news)) (hist_snoc H Hh)
      rw [Nat.zero_add] at this; exact this
theorem At.appN {t e by_ p id off m : Nat} {x y : Opd} {news : List AC} (hx : ev fr x = some (.c (.sl p 0 0))) (hp : p ≤ 1) (hy : ev fr y = some (.c (.sl id off m))) (hg : gon fr g = some true)
    (hn : ∀ s, Own B b s L → srcCells s.h e (id, off, m) = some news) (hm : news.length = m * e) (hb : m * by_ ≤ 140737488355328 ∧ m ≤ 4611686018427387904)
    (h : ∀ p', At B b ((p', .rw t e news) :: L) l (hist ++ [L]) ((d, .c (.sl p' 0 m)) :: fr) k) : At B b L (⟨some d, .append t e by_ x y, g, chk⟩ :: l) hist fr k := by
  refine ⟨fun s hs H Hh => ?_⟩
  by_cases hm0 : m = 0
  · subst hm0
    obtain rfl : news = [] := by simpa using hm
    exact O_appNN hx hp hy hg (hn s H) ((h p).ok _ _ (H.cons (.inr ⟨hp, _, _, rfl⟩) (by omega)) (hist_snoc H Hh))
  · exact O_appN hx hp hy hg (hn s H) hb hm0 ((h s.n).ok ⟨upd s.h s.n (.rw t e news), s.n + 1⟩ _ (H.new (.rw t e news)) (hist_snoc H Hh))
theorem A_app {α : Type} {enc : α → AC} {t by_ p len id off m : Nat} {x y : Opd} {xs ys : List α} (hx : ev fr x = some (.c (.sl p 0 len))) (hy : ev fr y = some (.c (.sl id off m))) (hg : gon fr g = some true) [hd : Del L p (.rw t 1 (xs.map enc)) L'] [hn : LookE enc B b L id off ys]
    (hl : xs.length = len) (hm : ys.length = m) (hb : (len + m) * by_ ≤ 140737488355328 ∧ len + m ≤ 4611686018427387904)
    (h : ∀ p', At B b ((p', .rw t 1 ((xs ++ ys).map enc)) :: L') l (hist ++ [L]) ((d, .c (.sl p' 0 (len + m))) :: fr) k) : At B b L (⟨some d, .append t 1 by_ x y, g, chk⟩ :: l) hist fr k :=
  .app hx hy hg (fun s H => hm ▸ (hn.h s H).src) (by simpa using hl) (by simpa using hm) (by omega) hb (fun p' => by rw [← List.map_append]; exact h p')
theorem A_appN {α : Type} {enc : α → AC} {t by_ p id off m : Nat} {x y : Opd} {ys : List α} (hx : ev fr x = some (.c (.sl p 0 0))) (hp : p ≤ 1) (hy : ev fr y = some (.c (.sl id off m))) (hg : gon fr g = some true) [hn : LookE enc B b L id off ys]
    (hm : ys.length = m) (hb : m * by_ ≤ 140737488355328 ∧ m ≤ 4611686018427387904)
    (h : ∀ p', At B b ((p', .rw t 1 (ys.map enc)) :: L) l (hist ++ [L]) ((d, .c (.sl p' 0 m)) :: fr) k) : At B b L (⟨some d, .append t 1 by_ x y, g, chk⟩ :: l) hist fr k :=
  .appN hx hp hy hg (fun s H => hm ▸ (hn.h s H).src) (by simpa using hm) hb h
/-- Cells of other kinds. -/
theorem A_appC {t t' e by_ p len q m : Nat} {x y : Opd} {cs ds : List AC} (hx : ev fr x = some (.c (.sl p 0 len))) (hy : ev fr y = some (.c (.sl q 0 m))) (hg : gon fr g = some true) [hd : Del L p (.rw t e cs) L'] [hn : Has L q (.rw t' e ds)]
    (hl : cs.length = len * e) (hm : ds.length = m * e) (he : 0 < e) (hb : (len + m) * by_ ≤ 140737488355328 ∧ len + m ≤ 4611686018427387904)
    (h : ∀ p', At B b ((p', .rw t e (cs ++ ds)) :: L') l (hist ++ [L]) ((d, .c (.sl p' 0 (len + m))) :: fr) k) : At B b L (⟨some d, .append t e by_ x y, g, chk⟩ :: l) hist fr k :=
  .app hx hy hg (fun s H => H.src hn hm he) hl hm he hb h
theorem A_appCN {t t' e by_ p q m : Nat} {x y : Opd} {ds : List AC} (hx : ev fr x = some (.c (.sl p 0 0))) (hp : p ≤ 1) (hy : ev fr y = some (.c (.sl q 0 m))) (hg : gon fr g = some true) [hn : Has L q (.rw t' e ds)]
    (hm : ds.length = m * e) (he : 0 < e) (hb : m * by_ ≤ 140737488355328 ∧ m ≤ 4611686018427387904)
    (h : ∀ p', At B b ((p', .rw t e ds) :: L) l (hist ++ [L]) ((d, .c (.sl p' 0 m)) :: fr) k) : At B b L (⟨some d, .append t e by_ x y, g, chk⟩ :: l) hist fr k :=
  .appN hx hp hy hg (fun s H => H.src hn hm he) hm hb h

/-! ### calls -/
/-- What remains when some is lent. -/
class Dels (L : Objs) (C : List Nat) (M : outParam Objs) : Prop where
  own : ∀ B b s, Own B b s L → (∀ (i : Nat) p o, M[i]? = some (p, o) → ∃ j : Nat, L[j]? = some (p, o) ∧ (2 ≤ p → p ∉ C)) ∧ Own B b s M ∧ ∀ c ∈ C, ∃ (j : Nat) (o : AObj), L[j]? = some (c, o)
instance delsN {L : Objs} : Dels L [] L := ⟨fun B b s H => ⟨fun i p o h => ⟨i, h, by simp⟩, H, by simp⟩⟩
instance delsC {L L' M : Objs} {C : List Nat} {p : Nat} {o : AObj} [h : Del L p o L'] [k : Dels L' C M] : Dels L (p :: C) M := ⟨fun B b s H => by
  obtain ⟨i, hi, rfl⟩ := h.ex
  obtain ⟨k1, k2, k3⟩ := k.own B b s (H.del i)
  refine ⟨fun j q o' hj => ?_, k2, fun c hc => ?_⟩
  · obtain ⟨j', h1, h2⟩ := k1 j q o' hj
    refine ⟨_, eraseIdx_at h1, fun h2q => ?_⟩
    simp only [List.mem_cons, not_or]
    exact ⟨H.inj _ i _ _ _ _ (eraseIdx_at h1) hi (by split <;> omega) h2q, h2 h2q⟩
  · rcases List.mem_cons.1 hc with rfl | hc
    · exact ⟨i, o, hi⟩
    · obtain ⟨j, o', hj⟩ := k3 c hc
      exact ⟨_, o', eraseIdx_at hj⟩⟩
theorem Own.real {C : List Nat} {s s' : St} {N : Objs} (H : Own C s s' N) : Own (C.filter fun c => decide (2 ≤ c)) s s' N := by
  refine ⟨H.wf, H.two, H.le, fun id h1 h2 => H.keep id h1 ?_, fun i p o h => ?_, H.inj⟩
  · by_cases hid : id ≤ 1
    · exact .inr hid
    · rcases h2 with h2 | h2
      · exact .inl fun hc => h2 (by simp [hc]; omega)
      · exact absurd h2 hid
  · rcases H.obj i p o h with ⟨g1, g2, g3, g4⟩ | g
    · refine .inl ⟨?_, g2, g3, g4⟩
      rcases g1 with g1 | g1
      · exact .inl g1
      · exact .inr (by simp [g1, g2])
    · exact .inr g
theorem Own.after {C : List Nat} {s s' : St} {M N : Objs} (H : Own B b s L) (hd : Dels L C M) (K : Own C s s' N) : Own B b s' (N ++ M) := by
  obtain ⟨h1, h2, h3⟩ := hd.own B b s H
  refine H.callM K.real (fun i p o h => ?_) h2.inj (fun c hc => h3 c (List.mem_filter.1 hc).1)
  obtain ⟨j, g1, g2⟩ := h1 i p o h
  refine ⟨j, g1, fun hc => ?_⟩
  have := List.mem_filter.1 hc
  exact g2 (by simpa using this.2) this.1
theorem A_callM {f : Opd} {args : List Opd} {fn : Nat} {vs : List AV} {C : List Nat} {M : Objs} {P : AV → Objs → Prop} (hc : callee fr f args = some (fn, vs)) (hg : gon fr g = some true) (hw : ∀ s, Own B b s L → Fn C fn vs s P) [hd : Dels L C M]
    (h : ∀ r N, P r N → At B b (N ++ M) l (hist ++ [L]) ((d, r) :: fr) k) : At B b L (⟨some d, .call f args, g, chk⟩ :: l) hist fr k :=
  ⟨fun s hs H Hh => O_call hc hg (hw s H).ex fun r s1 ⟨N, K, hp⟩ => (h r N hp).ok _ _ (H.after hd K) (hist_snoc H Hh)⟩
theorem A_callM0 {f : Opd} {args : List Opd} {fn : Nat} {vs : List AV} {C : List Nat} {M : Objs} {P : AV → Objs → Prop} (hc : callee fr f args = some (fn, vs)) (hg : gon fr g = some true) (hw : ∀ s, Own B b s L → Fn C fn vs s P) [hd : Dels L C M]
    (h : ∀ r N, P r N → At B b (N ++ M) l (hist ++ [L]) fr k) : At B b L (⟨none, .call f args, g, chk⟩ :: l) hist fr k :=
  ⟨fun s hs H Hh => O_call0 hc hg (hw s H).ex fun r s1 ⟨N, K, hp⟩ => (h r N hp).ok _ _ (H.after hd K) (hist_snoc H Hh)⟩
theorem A_call {f : Opd} {args : List Opd} {fn : Nat} {vs : List AV} {P : AV → Objs → Prop} (hc : callee fr f args = some (fn, vs)) (hg : gon fr g = some true) (hw : ∀ s, Own B b s L → Fn [] fn vs s P)
    (h : ∀ r N, P r N → At B b (N ++ L) l (hist ++ [L]) ((d, r) :: fr) k) : At B b L (⟨some d, .call f args, g, chk⟩ :: l) hist fr k := A_callM hc hg hw h
theorem A_callV {f : Opd} {args : List Opd} {fn : Nat} {vs : List AV} {v : AV} (hc : callee fr f args = some (fn, vs)) (hg : gon fr g = some true) (hw : ∀ s, Own B b s L → FnV fn vs s v)
    (h : At B b L l (hist ++ [L]) ((d, v) :: fr) k) : At B b L (⟨some d, .call f args, g, chk⟩ :: l) hist fr k :=
  A_call hc hg hw (by rintro _ _ ⟨rfl, rfl⟩; exact h)
theorem A_callB {f : Opd} {args : List Opd} {fn : Nat} {vs : List AV} {p : Prop} (hc : callee fr f args = some (fn, vs)) (hg : gon fr g = some true) (hw : ∀ s, Own B b s L → FnB fn vs s p)
    (h1 : p → At B b L l (hist ++ [L]) ((d, bv true) :: fr) k) (h2 : ¬ p → At B b L l (hist ++ [L]) ((d, bv false) :: fr) k) : At B b L (⟨some d, .call f args, g, chk⟩ :: l) hist fr k := by
  refine A_callV hc hg hw ?_
  by_cases hp : p
  · rw [tt_t hp]; exact h1 hp
  · rw [tt_f hp]; exact h2 hp
end

/-- Two things that are lent. -/
class Apart (s : St) (p q : Nat) : Prop where
  h : 2 ≤ p → p ≠ q
instance apartOwn {B : List Nat} {b s : St} {L L' : Objs} {p q : Nat} {o o' : AObj} [H : Own B b s L] [h : Del L p o L'] [k : Has L' q o'] : Apart s p q := ⟨fun h2 => by
  obtain ⟨i, hi, rfl⟩ := h.ex
  obtain ⟨j, hj⟩ := k.ex
  exact H.inj _ _ _ _ _ _ hi (eraseIdx_at hj) (by split <;> omega) h2⟩
theorem Own.wide {B B' : List Nat} {b s : St} {L : Objs} (H : Own B b s L) (h : ∀ x ∈ B, x ∈ B') : Own B' b s L :=
  ⟨H.wf, H.two, H.le, fun id h1 h2 => H.keep id h1 (h2.imp (fun g hc => g (h _ hc)) fun g => g), fun i p o hi => (H.obj i p o hi).imp (fun g => ⟨g.1.imp (fun x => x) (h p), g.2⟩) fun g => g, H.inj⟩
theorem Bor.two {s : St} {p q : Nat} {o o' : AObj} (h : Bor s p o) (k : Bor s q o') (a : Apart s p q) : Own [p, q] s s [(p, o), (q, o')] := by
  have h1 := h.own.wide (B' := [p, q]) (by simp)
  have h2 := k.own.wide (B' := [p, q]) (by simp)
  refine h2.cons (h1.obj 0 p o rfl) fun h2p j q' o'' hj => ?_
  cases j with
  | zero => simp at hj; obtain ⟨rfl, _⟩ := hj; exact a.h h2p
  | succ j => simp at hj
theorem F_start2 {f nt : Nat} {res : List ARes} {body : ACode} (hc : acode Try.prog hints f = some ⟨nt, res, body⟩) {args : List AV} {s : St} {P : AV → Objs → Prop} {p q : Nat} {o o' : AObj} [w : Bor s p o] [w' : Bor s q o'] [a : Apart s p q]
    (h : At [p, q] s [(p, o), (q, o')] [] [] (frame0 0 args) (.thn body (.ret res P))) : Fn [p, q] f args s P := F_startB hc (w.two w' a) h
/-! ### ends -/
theorem R_s {L N : Objs} {P : Objs → Prop} (h : P N) [hs : Sub N L] : ∃ N, P N ∧ Sub N L := ⟨N, h, hs⟩
theorem R_n (ids : List Nat) {L N : Objs} [hp : Pick L ids N] {P : Objs → Prop} (h : P N) : ∃ N, P N ∧ Sub N L := ⟨N, h, hp.sub⟩
theorem R_t {p : Prop} {L : Objs} (h : p) : ∃ N, (bv true = bv (tt p) ∧ N = []) ∧ Sub N L := ⟨[], ⟨by rw [tt_t h], rfl⟩, subN⟩
theorem R_f {p : Prop} {L : Objs} (h : ¬ p) : ∃ N, (bv false = bv (tt p) ∧ N = []) ∧ Sub N L := ⟨[], ⟨by rw [tt_f h], rfl⟩, subN⟩
theorem R_v {v v' : AV} {L : Objs} (h : v = v') : ∃ N, (v = v' ∧ N = []) ∧ Sub N L := ⟨[], ⟨h, rfl⟩, subN⟩
end Go.Proofs.Ytlmbgaoeplffkaa

/- Arguments, as the rows give them, told as abstract values. -/
namespace Go.Proofs.Ytlmbgaoeplffkaa
open Go Go.RowKit
set_option linter.unusedVariables false
set_option linter.unusedSimpArgs false

/-- A slice of numbers, as a row tells of it. -/
def IsRow (k : IntKind) (w : World) (a : Option Addr) (len cap : Nat) (zs : List Int) : Prop :=
  (a = none ∧ len = 0 ∧ cap = 0 ∧ zs = []) ∨
  ∃ x, a = some x ∧ (0 < cap → x.block < w.heap.size) ∧ len ≤ cap ∧ cap ≤ maxLen ∧ zs.length = cap ∧ (∀ i, i < zs.length → w.cell? (x.add i) = some (.int k (zs.getD i 0))) ∧ ∀ n ∈ zs, (Lit.int k n).wf = true

/-- The reading of a slice of numbers. -/
theorem row_of {H : Type} {enc : TypeId × Value → H} {P : Program} {w : World} {t e : TypeId} {k : IntKind} {fuel : Nat} {a : Option Addr} {len cap : Nat} {x : DataW H × List MemPlace} (ht : P.underlying t = some (.slice e)) (he : P.underlying e = some (.int k)) (hc : P.cellsOf e = 1)
    (hf : DataW.trod enc P w 0 (fun _ => true) true fuel t (Value.slice a len cap).cells.toList = some x) : ∃ zs, IsRow k w a len cap zs := by
  rcases Go.ChangeShapes.open_ints ht he hc hf with ⟨hcs, _⟩ | ⟨y, l, c, zs, hcs, _, hl, hm, hz, hx, hcell, hwz⟩
  · simp [Value.cells] at hcs
    obtain ⟨rfl, rfl, rfl⟩ := hcs
    exact ⟨[], .inl ⟨rfl, rfl, rfl, rfl⟩⟩
  · simp [Value.cells] at hcs
    obtain ⟨rfl, rfl, rfl⟩ := hcs
    refine ⟨zs, .inr ⟨y, rfl, fun h0 => ?_, hl, hm, by simpa using hz, hcell, hwz⟩⟩
    have h1 := hcell 0 (by simp at hz; omega)
    simp only [Addr.add, if_true, World.cell?] at h1
    split at h1
    · rename_i hh
      exact (Array.getElem?_eq_some_iff.1 hh).1
    · cases h1

theorem Sim.addRo {B : Nat} {ρ : Rho} {h : Heap} {w : World} (hs : Sim B ρ h w) {id esz : Nat} {cs : List AC} {L : Loc} (hid : h id = none) (ho : ORel B (rset ρ id L) w L (.ro esz cs)) : Sim B (rset ρ id L) (upd h id (.ro esz cs)) w := by
  have hx := rset_ext (L := L) (hs.none_of hid)
  refine ⟨fun x M e => ?_, fun x o' e => ?_, fun x x' o1 o2 L1 L2 e1 e2 r1 r2 q1 q2 hb => ?_, hs.base⟩
  · unfold upd; split
    · simp
    · rename_i hne; exact hs.dom x M (by simpa [rset, hne] using e)
  · unfold upd at e; split at e
    · rename_i hxe; subst hxe; obtain rfl := Option.some.inj e; exact ⟨L, by simp [rset], ho⟩
    · obtain ⟨M, hM, hr⟩ := hs.obj x o' e
      exact ⟨M, hx _ _ hM, hr.ext hx⟩
  · unfold upd at e1 e2
    split at e1
    · obtain rfl := Option.some.inj e1; cases q1
    · rename_i hx1
      split at e2
      · obtain rfl := Option.some.inj e2; cases q2
      · rename_i hx2
        simp [rset, hx1] at r1; simp [rset, hx2] at r2
        exact hs.inj x x' o1 o2 L1 L2 e1 e2 r1 r2 q1 q2 hb

def St0 : St := ⟨fun _ => none, 2⟩
theorem St0.wf : St0.WF := ⟨fun _ _ => rfl, Nat.le_refl _⟩
theorem Sim0 (W : World) : Sim W.heap.size (fun _ => none) St0.h W := ⟨(fun _ _ h => by cases h), (fun _ _ h => by simp [St0] at h), (fun _ _ _ _ _ _ h => by simp [St0] at h), Nat.le_refl _⟩

theorem take_in {k : IntKind} {zs : List Int} {n : Nat} (h : ∀ x ∈ zs, (Lit.int k x).wf = true) : ∀ x ∈ zs.take n, (Lit.int k x).wf = true := fun x hx => h x (List.mem_of_mem_take hx)

theorem ArgE.keep {α : Type} {enc : α → AC} {s s' : St} {id off : Nat} {xs : List α} (h : ArgE enc s id off xs) (k : Keep s s') : ArgE enc s' id off xs :=
  ⟨Nat.lt_of_lt_of_le h.lt k.le, by
    have e := k.eq id h.lt
    have := h.src
    simp only [srcCells, cellsAt, cellsOf] at this ⊢
    rw [e]; exact this⟩
/-- One more slice of numbers. -/
theorem add_row {W : World} {ρ : Rho} {s : St} (hs : Sim W.heap.size ρ s.h W) (hw : s.WF) {k : IntKind} {a : Option Addr} {len cap : Nat} {zs : List Int} (hr : IsRow k W a len cap zs) :
    ∃ ρ' s' id, Ext ρ ρ' ∧ Keep s s' ∧ s'.WF ∧ Sim W.heap.size ρ' s'.h W ∧ CRel ρ' (.sl id 0 len) (.slice a len cap) ∧ ArgE (AC.int k) s' id 0 (zs.take len) ∧ (∀ n ∈ zs.take len, (Lit.int k n).wf = true) ∧ (zs.take len).length = len ∧ len ≤ 9223372036854775807 := by
  rcases hr with ⟨rfl, rfl, rfl, rfl⟩ | ⟨x, rfl, hb, hl, hm, hz, hcell, hwf⟩
  · exact ⟨ρ, s, 0, Ext.refl _, Keep.refl _, hw, hs, .nilS, ⟨by have := hw.2; omega, rfl⟩, by simp, by simp, by omega⟩
  · by_cases h0 : cap = 0
    · obtain rfl : len = 0 := by omega
      subst h0
      exact ⟨ρ, s, 1, Ext.refl _, Keep.refl _, hw, hs, .emp _, ⟨by have := hw.2; omega, rfl⟩, by simp, by simp, by omega⟩
    · have hspot : x.spot = none := by
        have h1 := hcell 0 (by omega)
        simp only [Addr.add, if_true, World.cell?] at h1
        split at h1
        · split at h1
          · cases h1
          · rename_i hsp; cases hx : x.spot <;> simp [hx] at hsp ⊢
        · cases h1
      have hx : x = ⟨x.block, x.off, none⟩ := by cases x; simp at hspot; simp [hspot]
      have hadd : ∀ i, x.add i = ⟨x.block, x.off + i, none⟩ := fun i => by rw [hx]; exact add_lit _ _ _
      have hn := hw.1 s.n (Nat.le_refl _)
      have hlen : (zs.take len).length = len := by simp; omega
      refine ⟨rset ρ s.n ⟨x.block, x.off, cap, 1⟩, s.new (some (.ro 1 ((zs.take len).map (.int k)))), s.n, rset_ext (hs.none_of hn), (Keep.refl s).new _, (new_good hw _).wf, ?_, ?_, ⟨?_, ?_⟩, take_in hwf, hlen, by simp [maxLen] at hm ⊢; omega⟩
      · refine hs.addRo hn ⟨rfl, hb (by omega), fun j y hy => ?_⟩
        rw [List.getElem?_map] at hy
        obtain ⟨z, hz1, rfl⟩ := Option.map_eq_some_iff.1 hy
        rw [List.getElem?_take] at hz1
        split at hz1
        · have hlt := (List.getElem?_eq_some_iff.1 hz1).1
          have := hcell j hlt
          rw [hadd] at this
          refine ⟨_, this, ?_⟩
          rw [List.getD_eq_getElem?_getD, hz1]; exact .int _ _
        · cases hz1
      · have := CRel.sl (ρ := rset ρ s.n ⟨x.block, x.off, cap, 1⟩) (id := s.n) (off := 0) (len := len) (cap := cap) (L := ⟨x.block, x.off, cap, 1⟩) hw.2 (by simp [rset]) hl (fun _ => rfl)
        rw [hx]; exact this
      · simp [St.new]
      · have h2 := hw.2
        simp only [srcCells]
        rw [if_neg (by omega)]
        simp only [cellsAt, cellsOf, St.new, upd_eq, Option.bind_some, Nat.mul_one, hlen]
        have e : ((zs.take len).map (AC.int k)).length = len := by simp; omega
        have c := cut_all (cs := (zs.take len).map (AC.int k))
        rw [e] at c; exact c

/-- The reading of a number. -/
theorem int_of {H : Type} {enc : TypeId × Value → H} {P : Program} {w : World} {t : TypeId} {k : IntKind} {fuel : Nat} {v : Value} {x : DataW H × List MemPlace} (ht : P.underlying t = some (.int k))
    (hf : DataW.trod enc P w 0 (fun _ => true) true fuel t [v] = some x) : ∃ n, v = .int k n ∧ (Lit.int k n).wf = true := by
  cases fuel with
  | zero => simp [DataW.trod] at hf
  | succ fuel =>
    simp only [DataW.trod, ht] at hf
    cases v <;> simp at hf
    rename_i k' n
    exact ⟨n, by rw [hf.1.1], hf.1.2⟩
/-- The reading of a slice of numbers, in a field. -/
theorem ints_of {H : Type} {enc : TypeId × Value → H} {P : Program} {w : World} {t e : TypeId} {k : IntKind} {fuel : Nat} {v : Value} {x : DataW H × List MemPlace} (ht : P.underlying t = some (.slice e)) (he : P.underlying e = some (.int k)) (hc : P.cellsOf e = 1)
    (hf : DataW.trod enc P w 0 (fun _ => true) true fuel t [v] = some x) : ∃ a len cap zs, v = .slice a len cap ∧ IsRow k w a len cap zs := by
  have : ∃ a len cap, v = .slice a len cap := by
    cases fuel with
    | zero => simp [DataW.trod] at hf
    | succ fuel =>
      simp only [DataW.trod, ht] at hf
      cases v <;> simp at hf
      exact ⟨_, _, _, rfl⟩
  obtain ⟨a, len, cap, rfl⟩ := this
  obtain ⟨zs, h⟩ := row_of ht he hc (by simpa [Value.cells] using hf)
  exact ⟨a, len, cap, zs, rfl, h⟩

theorem wf64 {n : Int} (h : (Lit.int .i64 n).wf = true) : in64 n := by
  simp [Lit.wf, IntKind.min, IntKind.max, IntKind.signed, IntKind.bits] at h
  exact h

theorem all64 {xs : List Int} (h : ∀ n ∈ xs, (Lit.int .i64 n).wf = true) : ∀ n ∈ xs, in64 n := fun n hn => wf64 (h n hn)

/-- What a law's run on abstract values tells of the call. -/
theorem law_calls {W : World} {ρ : Rho} {s : St} (hs : Sim W.heap.size ρ s.h W) (hw : s.WF) {f : Nat} {args : List AV} {xs : List Value} (hx : All2 (VRel ρ) args xs) (h : FnV f args s (bv true)) :
    Calls Try.prog f xs.toArray W fun e W' => e = .returned (.bool true) ∧ Below W.heap.size W W' := by
  obtain ⟨v, s', hex, _, _, rfl, _⟩ := h.ex.ex
  refine (calls_of_ex mixed hex hw hs hx).mono ?_
  rintro e W' ⟨x, ρ', rfl, hv, _, hb, _⟩
  cases hv.c_inv
  exact ⟨rfl, hb⟩
end Go.Proofs.Ytlmbgaoeplffkaa

