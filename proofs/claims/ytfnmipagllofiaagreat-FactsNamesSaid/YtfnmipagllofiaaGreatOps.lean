/- The rules of the abstract logic for operations, first part: values, memory that stays, calls that only compute. No condition. -/
import Derived.Test.YtfnmipagllofiaaGreatPSp2
import Derived.TacticsIn
import Derived.Laws.Slices
import Derived.Laws.NewBlocks
import Derived.Laws.Strings
import Derived.Laws.StructEq
namespace Go.AL
section
variable {P : Program} [GlobF P] {fr : Option Nat} {N : Nat} {Q : Exit → AS → Prop} {s : AS} {ops : Array Oper} {rest : List Oper}
def WL (P : Program) [GlobF P] (fr : Option Nat) (N : Nat) (ops : Array Oper) (l : List Oper) (Q : Exit → AS → Prop) (s : AS) : Prop :=
  ∀ (B : Base P) (G : Gh) (a : Act) (w : World), R B N G s a w → wpListIn (fence fr) 0 P ops (Post B N Q) l a w
theorem W_region {id : Nat} {l : List Oper} (h : WL P fr N l.toArray l Q s) : W P fr N (.region id l.toArray false) Q s :=
  fun B G a w hr => wpIn_region_lit (h B G a w hr)
theorem WL_nil (h : Q .normal s) : WL P fr N ops [] Q s := fun _ G _ _ hr => wpListIn_nil ⟨G, s, hr, h⟩
theorem fence_fn (fr : Option Nat) (f : FuncId) : (fence fr).fn f := by cases fr <;> trivial
theorem fence_depth (fr : Option Nat) : (fence fr).depth = none := by cases fr <;> rfl
theorem WL_op {op : Op} {ty : TypeId} {pos : String} {af : Array Edge} {d : Nat} {x : AV} {h' : List AObj} (hd : Nat.blt d N = true) (hdef : ∀ c, op ≠ .defer c)
    (hop : ∀ (B : Base P) (G : Gh) (a : Act) (w : World), R B N G s a w → ∃ v w' G', (execOp a.eval { dst := some d, op := op, type := ty, pos := pos, after := af, guard := none }).run P w = .ok (.value v) w' ∧
      G.le G' ∧ RH B G' h' w' ∧ Conc G' v x)
    (h : WL P fr N ops rest Q (({ s with heap := h' } : AS).put d x)) : WL P fr N ops ({ dst := some d, op := op, type := ty, pos := pos, after := af, guard := none } :: rest) Q s := by
  intro B G a w hr
  refine wpListIn_plain rfl fun K hK => ?_
  obtain ⟨v, w', G', hrun, hg', hh, hv⟩ := hop B G a w hr
  refine ⟨fun f _ => fence_fn fr f, ?_⟩
  rw [Oper.semAt_eq _ _ _ hdef, hrun]
  exact hK _ _ (h B G' _ w' ((hr.step hg' hh).put (by simpa [Nat.blt_eq] using hd) hv))
def gdst (ops : Array Oper) (j : Nat) : Option Nat := (ops[j]?).bind (·.dst)
theorem yielded_of {B : Base P} {G : Gh} {a : Act} {w : World} {j t : Nat} {b : Bool} (hj : gdst ops j = some t) (hr : R B N G s a w) (hb : look s.regs t = .sc (.bool b)) : yielded ops a.tmps j = some b := by
  unfold gdst at hj
  have h1 := hr.regs t
  rw [hb] at h1
  have h2 := conc_sc h1
  rw [Array.getD_eq_getD_getElem?] at h2
  unfold yielded
  rw [hj]
  simp only [Option.bind_some]
  cases h3 : a.tmps[t]? with
  | none => rw [h3] at h2; simp [undef] at h2
  | some v => rw [h3] at h2; simp at h2; subst h2; rfl
theorem WL_guard_run {o : Oper} {j t : Nat} {want : Bool} (ho : o.guard = some (j, want)) (hj : gdst ops j = some t) (hb : look s.regs t = .sc (.bool want))
    (h : WL P fr N ops ({ o with guard := none } :: rest) Q s) : WL P fr N ops (o :: rest) Q s := by
  intro B G a w hr
  have hy := yielded_of hj hr hb
  have := h B G a w hr
  simp only [wpListIn, Region.wanted, ho, hy] at this ⊢
  simpa [Oper.wpIn, Oper.about, Oper.semAt, execOp, Oper.uponIn] using this
theorem WL_guard_skip {o : Oper} {j t d : Nat} {want b : Bool} (ho : o.guard = some (j, want)) (hdst : o.dst = some d) (hd : Nat.blt d N = true) (hj : gdst ops j = some t) (hb : look s.regs t = .sc (.bool b)) (hne : (b == want) = false)
    (h : WL P fr N ops rest Q (s.put d (.sc undef))) : WL P fr N ops (o :: rest) Q s := by
  intro B G a w hr
  have hy := yielded_of hj hr hb
  have hw : Region.wanted o (yielded ops a.tmps) = false := by
    simp only [Region.wanted, ho, hy]
    cases b <;> cases want <;> simp at hne ⊢
  simp only [wpListIn, hw]
  refine ⟨fun f _ => fence_fn fr f, ?_⟩
  rw [hdst]
  exact h B G _ w (hr.put (by simpa [Nat.blt_eq] using hd) (.sc _))
theorem yielded_undef {B : Base P} {G : Gh} {a : Act} {w : World} {j t : Nat} (hj : gdst ops j = some t) (hr : R B N G s a w) (hb : look s.regs t = .sc undef) : yielded ops a.tmps j = none := by
  unfold gdst at hj
  have h1 := hr.regs t
  rw [hb] at h1
  have h2 := conc_sc h1
  rw [Array.getD_eq_getD_getElem?] at h2
  unfold yielded
  rw [hj]
  simp only [Option.bind_some]
  cases h3 : a.tmps[t]? with
  | none => rfl
  | some v => rw [h3] at h2; simp at h2; subst h2; rfl
theorem WL_guard_undef {o : Oper} {j t d : Nat} {want : Bool} (ho : o.guard = some (j, want)) (hdst : o.dst = some d) (hd : Nat.blt d N = true) (hj : gdst ops j = some t) (hb : look s.regs t = .sc undef)
    (h : WL P fr N ops rest Q (s.put d (.sc undef))) : WL P fr N ops (o :: rest) Q s := by
  intro B G a w hr
  have hy := yielded_undef hj hr hb
  have hw : Region.wanted o (yielded ops a.tmps) = false := by
    simp only [Region.wanted, ho, hy]; rfl
  simp only [wpListIn, hw]
  refine ⟨fun f _ => fence_fn fr f, ?_⟩
  rw [hdst]
  exact h B G _ w (hr.put (by simpa [Nat.blt_eq] using hd) (.sc _))
theorem WL_split {t : Nat} {b : Bool} {l : List Oper} (hb : look s.regs t = .sc (.bool b)) (ht : b = true → WL P fr N ops l Q (s.put t (.sc (.bool true)))) (hf : b = false → WL P fr N ops l Q (s.put t (.sc (.bool false)))) :
    WL P fr N ops l Q s := by
  intro B G a w hr
  have key : ∀ c, b = c → R B N G (s.put t (.sc (.bool c))) a w := fun c hc => ⟨hr.heap, hr.size, fun u => by
    simp only [AS.put, look]
    cases hbq : Nat.beq t u with
    | true => have : t = u := Nat.eq_of_beq_eq_true hbq; subst this; have := hr.regs t; rw [hb, hc] at this; exact this
    | false => exact hr.regs u, hr.defers, hr.own⟩
  cases b with
  | true => exact ht rfl B G a w (key true rfl)
  | false => exact hf rfl B G a w (key false rfl)
theorem WL_gsplit {o : Oper} {j t : Nat} {want b : Bool} (_ho : o.guard = some (j, want)) (_hj : gdst ops j = some t) (hb : look s.regs t = .sc (.bool b)) (ht : b = true → WL P fr N ops (o :: rest) Q (s.put t (.sc (.bool true))))
    (hf : b = false → WL P fr N ops (o :: rest) Q (s.put t (.sc (.bool false)))) : WL P fr N ops (o :: rest) Q s := WL_split hb ht hf
def POp (P : Program) [GlobF P] (o : Oper) (ρ : Operand → Option AV) (hp : List AObj) (v : AV) : Prop :=
  ∀ (fr : Option Nat) (B : Base P) (G : Gh) (a : Act) (w : World), RH B G hp w → (∀ x, x ∈ o.op.operands.toList → ∀ u, ρ x = some u → Conc G (a.eval x) u) →
    o.wpIn (fence fr) 0 P a w (fun a' w' => ∃ r G', a' = a.put o.dst r ∧ G.le G' ∧ RH B G' hp w' ∧ Conc G' r v) (fun _ _ _ => False)
theorem POp.op {o : Oper} {ρ : Operand → Option AV} {hp : List AObj} {v : AV} (hdef : ∀ c, o.op ≠ .defer c)
    (h : ∀ (B : Base P) (G : Gh) (a : Act) (w : World), RH B G hp w → (∀ x, x ∈ o.op.operands.toList → ∀ u, ρ x = some u → Conc G (a.eval x) u) →
      ∃ r w' G', (execOp a.eval o).run P w = .ok (.value r) w' ∧ G.le G' ∧ RH B G' hp w' ∧ Conc G' r v) : POp P o ρ hp v := by
  intro fr B G a w hr hE
  obtain ⟨r, w', G', h1, h2, h3, h4⟩ := h B G a w hr hE
  refine ⟨fun f _ => fence_fn fr f, ?_⟩
  rw [Oper.semAt_eq _ _ _ hdef, h1]
  exact ⟨r, G', rfl, h2, h3, h4⟩
theorem POp.val {o : Oper} {ρ : Operand → Option AV} {hp : List AObj} {v : AV} (hdef : ∀ c, o.op ≠ .defer c)
    (h : ∀ (B : Base P) (G : Gh) (a : Act) (w : World), RH B G hp w → (∀ x, x ∈ o.op.operands.toList → ∀ u, ρ x = some u → Conc G (a.eval x) u) →
      ∃ r, (execOp a.eval o).run P w = .ok (.value r) w ∧ Conc G r v) : POp P o ρ hp v :=
  POp.op hdef fun B G a w hr hE => let ⟨r, h1, h2⟩ := h B G a w hr hE; ⟨r, w, G, h1, .refl G, hr, h2⟩
def PPOp (P : Program) [GlobF P] (o : Oper) (ρ : Operand → Option AV) (v : AV) : Prop := ∀ hp, POp P o ρ hp v
theorem PPOp.op {o : Oper} {ρ : Operand → Option AV} {v : AV} (hdef : ∀ c, o.op ≠ .defer c)
    (h : ∀ {hp : List AObj} (B : Base P) (G : Gh) (a : Act) (w : World), RH B G hp w → (∀ x, x ∈ o.op.operands.toList → ∀ u, ρ x = some u → Conc G (a.eval x) u) →
      ∃ r w' G', (execOp a.eval o).run P w = .ok (.value r) w' ∧ G.le G' ∧ RH B G' hp w' ∧ Conc G' r v) : PPOp P o ρ v := fun _ => POp.op hdef fun B G a w hr hE => h B G a w hr hE
theorem PPOp.val {o : Oper} {ρ : Operand → Option AV} {v : AV} (hdef : ∀ c, o.op ≠ .defer c)
    (h : ∀ {hp : List AObj} (B : Base P) (G : Gh) (a : Act) (w : World), RH B G hp w → (∀ x, x ∈ o.op.operands.toList → ∀ u, ρ x = some u → Conc G (a.eval x) u) →
      ∃ r, (execOp a.eval o).run P w = .ok (.value r) w ∧ Conc G r v) : PPOp P o ρ v := fun _ => POp.val hdef fun B G a w hr hE => h B G a w hr hE
theorem evO_some (s : AS) (x : Operand) : s.evO x = some (s.ev x) := by
  cases x with
  | tmp t =>
    simp only [AS.evO, AS.ev]
    generalize s.regs = l
    induction l with
    | nil => rfl
    | cons p l ih => obtain ⟨u, v⟩ := p; simp only [lookO, look]; cases Nat.beq u t <;> simp [ih]
  | const v => rfl
  | global g => rfl
  | func f => rfl
theorem wpIn_false {P0 : Program} {F : Fence} {o : Oper} {a : Act} {w : World} {K K' : Act → World → Prop} {Q' : Exit → Act → World → Prop} (hK : ∀ a w, K a w → K' a w) (h : o.wpIn F 0 P0 a w K (fun _ _ _ => False)) : o.wpIn F 0 P0 a w K' Q' := by
  refine ⟨h.1, ?_⟩
  have h := h.2
  generalize (o.semAt F.round a.eval).run P0 w = r at *
  cases r with
  | ok x w' =>
    cases x <;> simp only [Oper.uponIn] at h ⊢ <;> first
      | exact hK _ _ h
      | exact ⟨h.1, CallsIn.mono h.2 (fun e w'' he => by cases e <;> first | exact hK _ _ he | exact he.elim | (obtain ⟨_, _, hf⟩ := he; exact hf.elim))⟩
      | exact ⟨h.1, RowsIn.mono h.2 (fun _ _ he => hK _ _ he)⟩
      | exact ⟨h.1, RoundIn.mono h.2 (fun e w'' he => by cases e <;> first | exact hK _ _ he | exact he.elim | (obtain ⟨_, _, hf⟩ := he; exact hf.elim))⟩
  | halt x w' => cases x <;> simp only [Oper.uponIn] at h ⊢
theorem WL_p {op : Op} {ty : TypeId} {pos : String} {af : Array Edge} {d : Nat} {v : AV} (hop : POp P { dst := some d, op := op, type := ty, pos := pos, after := af, guard := none } s.evO s.heap v) (hd : Nat.blt d N = true)
    (h : WL P fr N ops rest Q (s.put d v)) : WL P fr N ops ({ dst := some d, op := op, type := ty, pos := pos, after := af, guard := none } :: rest) Q s := by
  intro B G a w hr
  refine wpListIn_plain rfl fun K hK => ?_
  refine wpIn_false ?_ (hop fr B G a w hr.heap fun x _ u hu => by rw [evO_some] at hu; cases hu; exact hr.ev x)
  rintro a' w' ⟨r, G', rfl, hg', hh, hv⟩
  exact hK _ _ (h B G' _ w' ((hr.step hg' hh).put (by simpa [Nat.blt_eq] using hd) hv))
section ops
variable {ty : TypeId} {pos : String} {af : Array Edge} {dst : Option Nat} {gd : Option (Nat × Bool)} {ρ : Operand → Option AV} {hp : List AObj}
theorem D_move {x : Operand} {v : AV} (hx : ρ x = some v) : PPOp P { dst := dst, op := .move x, type := ty, pos := pos, after := af, guard := gd } ρ v :=
  PPOp.val (by simp) (fun B G a w hR E => ⟨a.eval x, rfl, E _ (by first | exact List.Mem.head _ | exact List.Mem.tail _ (List.Mem.head _) | exact List.Mem.tail _ (List.Mem.tail _ (List.Mem.head _))) _ hx⟩)
theorem D_assign {x : Operand} {v : AV} (hx : ρ x = some v) : PPOp P { dst := dst, op := .assign x, type := ty, pos := pos, after := af, guard := gd } ρ v :=
  PPOp.val (by simp) (fun B G a w hR E => ⟨a.eval x, rfl, E _ (by first | exact List.Mem.head _ | exact List.Mem.tail _ (List.Mem.head _) | exact List.Mem.tail _ (List.Mem.tail _ (List.Mem.head _))) _ hx⟩)
theorem D_pickT {c x y : Operand} {v : AV} (hc : ρ c = some (.sc (.bool true))) (hx : ρ x = some v) : PPOp P { dst := dst, op := .pick c x y, type := ty, pos := pos, after := af, guard := gd } ρ v :=
  PPOp.val (by simp) (fun B G a w hR E => ⟨a.eval x, by simp [execOp, conc_sc (E _ (by first | exact List.Mem.head _ | exact List.Mem.tail _ (List.Mem.head _) | exact List.Mem.tail _ (List.Mem.tail _ (List.Mem.head _))) _ hc), asBool], E _ (by first | exact List.Mem.head _ | exact List.Mem.tail _ (List.Mem.head _) | exact List.Mem.tail _ (List.Mem.tail _ (List.Mem.head _))) _ hx⟩)
theorem D_pickF {c x y : Operand} {v : AV} (hc : ρ c = some (.sc (.bool false))) (hx : ρ y = some v) : PPOp P { dst := dst, op := .pick c x y, type := ty, pos := pos, after := af, guard := gd } ρ v :=
  PPOp.val (by simp) (fun B G a w hR E => ⟨a.eval y, by simp [execOp, conc_sc (E _ (by first | exact List.Mem.head _ | exact List.Mem.tail _ (List.Mem.head _) | exact List.Mem.tail _ (List.Mem.tail _ (List.Mem.head _))) _ hc), asBool], E _ (by first | exact List.Mem.head _ | exact List.Mem.tail _ (List.Mem.head _) | exact List.Mem.tail _ (List.Mem.tail _ (List.Mem.head _))) _ hx⟩)
@[irreducible] def iEq (a b : Int) : Bool := a == b
@[irreducible] def iLt (a b : Int) : Bool := decide (a < b)
@[irreducible] def iLe (a b : Int) : Bool := decide (a ≤ b)
@[irreducible] def sEq (a b : List UInt8) : Bool := decide (a = b)
@[irreducible] def sLt (a b : List UInt8) : Bool := Op.bytesLess a b
@[irreducible] def bNot (a : Bool) : Bool := !a
@[irreducible] def bEq (a b : Bool) : Bool := a == b
theorem iEq_t (a b : Int) : (iEq a b = true) = (a = b) := by unfold iEq; simp
theorem iEq_f (a b : Int) : (iEq a b = false) = (a ≠ b) := by unfold iEq; simp
theorem iLt_t (a b : Int) : (iLt a b = true) = (a < b) := by unfold iLt; simp
theorem iLt_f (a b : Int) : (iLt a b = false) = (b ≤ a) := by unfold iLt; simp
theorem iLe_t (a b : Int) : (iLe a b = true) = (a ≤ b) := by unfold iLe; simp
theorem iLe_f (a b : Int) : (iLe a b = false) = (b < a) := by unfold iLe; simp
theorem sEq_t (a b : List UInt8) : (sEq a b = true) = (a = b) := by unfold sEq; simp
theorem sEq_f (a b : List UInt8) : (sEq a b = false) = (a ≠ b) := by unfold sEq; simp
theorem bNot_t (a : Bool) : (bNot a = true) = (a = false) := by unfold bNot; simp
theorem bNot_f (a : Bool) : (bNot a = false) = (a = true) := by unfold bNot; simp
theorem bEq_t (a b : Bool) : (bEq a b = true) = (a = b) := by unfold bEq; simp
theorem bEq_f (a b : Bool) : (bEq a b = false) = (a ≠ b) := by unfold bEq; simp
def ibin : BinOp → IntKind → Int → Int → Option Value
  | .add, k, a, b => some (.int k (k.wrap (a + b)))
  | .sub, k, a, b => some (.int k (k.wrap (a - b)))
  | .mul, k, a, b => some (.int k (k.wrap (a * b)))
  | .eql, _, a, b => some (.bool (iEq a b))
  | .neq, _, a, b => some (.bool (bNot (iEq a b)))
  | .lss, _, a, b => some (.bool (iLt a b))
  | .leq, _, a, b => some (.bool (iLe a b))
  | .gtr, _, a, b => some (.bool (iLt b a))
  | .geq, _, a, b => some (.bool (iLe b a))
  | .and, k, a, b => some (.int k (k.wrap ((BitVec.ofInt k.bits a &&& BitVec.ofInt k.bits b).toNat : Int)))
  | .or, k, a, b => some (.int k (k.wrap ((BitVec.ofInt k.bits a ||| BitVec.ofInt k.bits b).toNat : Int)))
  | .xor, k, a, b => some (.int k (k.wrap ((BitVec.ofInt k.bits a ^^^ BitVec.ofInt k.bits b).toNat : Int)))
  | _, _, _, _ => none
theorem run_ibin {P0 : Program} {op : BinOp} {k : IntKind} {a b : Int} {t : TypeId} {x y : Operand} {w : World} {r : Value} (h : ibin op k a b = some r) :
    (do eqGuard op t x y (.int k a) (.int k b); binOp op t (.int k a) (.int k b) : Sem Value).run P0 w = .ok r w := by
  cases op <;> simp only [ibin, Option.some.injEq, reduceCtorEq] at h <;> subst h <;> simp [eqGuard, binOp, Op.intArith, Op.intCmp, Op.intBits, iEq, iLt, iLe, bNot, bne]
theorem D_int {op : BinOp} {t t' : TypeId} {x y : Operand} {k : IntKind} {a b : Int} {r : Value} (hx : ρ x = some (.sc (.int k a))) (hy : ρ y = some (.sc (.int k b))) (hr : ibin op k a b = some r) : PPOp P { dst := dst, op := .binOp op t x y t', type := ty, pos := pos, after := af, guard := gd } ρ (.sc r) :=
  PPOp.val (by simp) (fun B G act w hR E => ⟨r, by
    have e1 := conc_sc (E _ (by first | exact List.Mem.head _ | exact List.Mem.tail _ (List.Mem.head _) | exact List.Mem.tail _ (List.Mem.tail _ (List.Mem.head _))) _ hx); have e2 := conc_sc (E _ (by first | exact List.Mem.head _ | exact List.Mem.tail _ (List.Mem.head _) | exact List.Mem.tail _ (List.Mem.tail _ (List.Mem.head _))) _ hy)
    have := run_ibin (P0 := P) (t := t) (x := x) (y := y) (w := w) hr
    simp only [execOp, e1, e2, Sem.run_bind] at this ⊢
    rw [this]; rfl, .sc _⟩)
abbrev str (l : List UInt8) : AV := .sc (.string ⟨l.toArray⟩)
theorem beq_dec (a b : List UInt8) : (a == b) = decide (a = b) := by rw [Bool.eq_iff_iff]; simp
def sbin : BinOp → List UInt8 → List UInt8 → Option Value
  | .eql, a, b => some (.bool (sEq a b))
  | .neq, a, b => some (.bool (bNot (sEq a b)))
  | .lss, a, b => some (.bool (sLt a b))
  | .leq, a, b => some (.bool (sLt a b || sEq a b))
  | .gtr, a, b => some (.bool (bNot (sLt a b || sEq a b)))
  | .geq, a, b => some (.bool (bNot (sLt a b)))
  | _, _, _ => none
theorem D_str {op : BinOp} {t t' : TypeId} {x y : Operand} {a b : List UInt8} {r : Value} (hx : ρ x = some (str a)) (hy : ρ y = some (str b)) (hr : sbin op a b = some r) : PPOp P { dst := dst, op := .binOp op t x y t', type := ty, pos := pos, after := af, guard := gd } ρ (.sc r) :=
  PPOp.val (by simp) (fun B G act w hR E => ⟨r, by
    have e1 := conc_sc (E _ (by first | exact List.Mem.head _ | exact List.Mem.tail _ (List.Mem.head _) | exact List.Mem.tail _ (List.Mem.tail _ (List.Mem.head _))) _ hx); have e2 := conc_sc (E _ (by first | exact List.Mem.head _ | exact List.Mem.tail _ (List.Mem.head _) | exact List.Mem.tail _ (List.Mem.tail _ (List.Mem.head _))) _ hy)
    cases op <;> simp only [sbin, Option.some.injEq, reduceCtorEq] at hr <;> subst hr <;> simp [execOp, e1, e2, eqGuard, binOp, Op.stringOp, ByteArray.toList_mk, beq_dec, sEq, sLt, bNot], .sc _⟩)
class Und (P : Program) (t : TypeId) (d : outParam TypeDesc) : Prop where
  h : P.underlying t = some d
class Siz (P : Program) (t : TypeId) (n : outParam Nat) : Prop where
  h : ∀ w, (sizeOf t).run P w = .ok n w
class Agg (P : Program) (t : TypeId) (b : outParam Bool) : Prop where
  h : ∀ w, (isAgg t).run P w = .ok b w
class Zer (P : Program) (t : TypeId) (v : outParam Value) : Prop where
  h : ∀ w, (zeroValue t).run P w = .ok v w
class Byt (P : Program) (t : TypeId) (n : outParam Nat) : Prop where
  h : ∀ w, ∃ i, (typeInfo t).run P w = .ok i w ∧ i.bytes = n
class Fld (P : Program) (t : TypeId) (f : Nat) (off : outParam Nat) : Prop where
  h : ∀ w a, (Instr.fieldAt t (.pointer (some a)) f).run P w = .ok (.pointer (some (a.add off))) w
theorem add_none (b o n : Nat) : (⟨b, o, none⟩ : Addr).add n = ⟨b, o + n, none⟩ := by
  unfold Addr.add; split
  · rename_i h; subst h; rfl
  · rfl
theorem exec_bin {P0 : Program} (ρ : Operand → Value) {op : BinOp} {t t' : TypeId} {x y : Operand} {dst : Option Nat} {g : Option (Nat × Bool)} {w : World} {v : Value}
    (h : (do eqGuard op t x y (ρ x) (ρ y); binOp op t (ρ x) (ρ y) : Sem Value).run P0 w = .ok v w) :
    (execOp ρ { dst := dst, op := .binOp op t x y t', type := ty, pos := pos, after := af, guard := g }).run P0 w = .ok (.value v) w := by
  simp only [execOp, Sem.run_bind] at h ⊢
  rw [h]; rfl
theorem run_beq {P0 : Program} {t : TypeId} [hu : Und P0 t .bool] {a b : Bool} {w : World} {x y : Operand} : (do eqGuard .eql t x y (.bool a) (.bool b); binOp .eql t (.bool a) (.bool b) : Sem Value).run P0 w = .ok (.bool (a == b)) w := by
  rw [Sem.run_bind, show (eqGuard .eql t x y (.bool a) (.bool b)).run P0 w = .ok () w from rfl]
  exact run_eql_bool w t a b hu.h
theorem D_beq {t t' : TypeId} {x y : Operand} {a b : Bool} [hu : Und P t .bool] (hx : ρ x = some (.sc (.bool a))) (hy : ρ y = some (.sc (.bool b))) : PPOp P { dst := dst, op := .binOp .eql t x y t', type := ty, pos := pos, after := af, guard := gd } ρ (.sc (.bool (bEq a b))) :=
  PPOp.val (by simp) (fun B G act w hR E => ⟨.bool (bEq a b), exec_bin _ (by rw [conc_sc (E _ (by first | exact List.Mem.head _ | exact List.Mem.tail _ (List.Mem.head _) | exact List.Mem.tail _ (List.Mem.tail _ (List.Mem.head _))) _ hx), conc_sc (E _ (by first | exact List.Mem.head _ | exact List.Mem.tail _ (List.Mem.head _) | exact List.Mem.tail _ (List.Mem.tail _ (List.Mem.head _))) _ hy)]; unfold bEq; exact run_beq), .sc _⟩)
theorem D_not {t : TypeId} {x : Operand} {a : Bool} (hx : ρ x = some (.sc (.bool a))) : PPOp P { dst := dst, op := .unOp .not t x, type := ty, pos := pos, after := af, guard := gd } ρ (.sc (.bool (bNot a))) :=
  PPOp.val (by simp) (fun B G act w hR E => ⟨.bool (bNot a), by simp [bNot, execOp, conc_sc (E _ (by first | exact List.Mem.head _ | exact List.Mem.tail _ (List.Mem.head _) | exact List.Mem.tail _ (List.Mem.tail _ (List.Mem.head _))) _ hx), Op.unary], .sc _⟩)
theorem D_conv_int {t t' : TypeId} {x : Operand} {k k' : IntKind} {a : Int} {du : TypeDesc} [hs : Und P t du] [hu : Und P t' (.int k')] (hx : ρ x = some (.sc (.int k a))) : PPOp P { dst := dst, op := .convert t t' x, type := ty, pos := pos, after := af, guard := gd } ρ (.sc (.int k' (k'.wrap a))) :=
  PPOp.val (by simp) (fun B G act w hR E => ⟨.int k' (k'.wrap a), by simp [execOp, conc_sc (E _ (by first | exact List.Mem.head _ | exact List.Mem.tail _ (List.Mem.head _) | exact List.Mem.tail _ (List.Mem.tail _ (List.Mem.head _))) _ hx), convert, run_underlying hs.h, run_underlying hu.h, Conv.intToInt], .sc _⟩)
theorem D_shr {t t' : TypeId} {x y : Operand} {k k' : IntKind} {a b : Int} (hx : ρ x = some (.sc (.int k a))) (hy : ρ y = some (.sc (.int k' b))) (hb : 0 ≤ b) : PPOp P { dst := dst, op := .binOp .shr t x y t', type := ty, pos := pos, after := af, guard := gd } ρ (.sc (.int k (a.fdiv (2 ^ (min b.toNat k.bits))))) :=
  PPOp.val (by simp) (fun B G act w hR E => ⟨.int k (a.fdiv (2 ^ (min b.toNat k.bits))), by
    have : ¬ b < 0 := by omega
    simp [execOp, conc_sc (E _ (by first | exact List.Mem.head _ | exact List.Mem.tail _ (List.Mem.head _) | exact List.Mem.tail _ (List.Mem.tail _ (List.Mem.head _))) _ hx), conc_sc (E _ (by first | exact List.Mem.head _ | exact List.Mem.tail _ (List.Mem.head _) | exact List.Mem.tail _ (List.Mem.tail _ (List.Mem.head _))) _ hy), eqGuard, binOp, Op.shift, this], .sc _⟩)
theorem exec_builtin (ρ : Operand → Value) {b : Builtin} {xs : Array Operand} {ts : Array TypeId} {dst : Option Nat} {g : Option (Nat × Bool)} :
    execOp ρ { dst := dst, op := .call { callee := .builtin b, args := xs, argTypes := ts }, type := ty, pos := pos, after := af, guard := g } =
      builtin b ts ty (xs.map fun | .const _ => true | _ => false) (xs.map ρ) := rfl
theorem exec_len {P0 : Program} (ρ : Operand → Value) {x : Operand} {t : TypeId} {dst : Option Nat} {g : Option (Nat × Bool)} {w : World} {v : Value} (h : (Builtin.len_ #[t] ty #[ρ x]).run P0 w = .ok v w) :
    (execOp ρ { dst := dst, op := .call { callee := .builtin .len, args := #[x], argTypes := #[t] }, type := ty, pos := pos, after := af, guard := g }).run P0 w = .ok (.value v) w := by
  rw [exec_builtin]
  simp only [builtin, List.map_toArray, List.map_cons, List.map_nil, Sem.run_bind, h]; rfl
theorem run_len_sl {P0 : Program} {t ty e : TypeId} {base : Option Addr} {n c : Nat} {w : World} (h : P0.underlying t = some (.slice e)) : (Builtin.len_ #[t] ty #[.slice base n c]).run P0 w = .ok (.int .i64 n) w := by
  simp [Builtin.len_, run_underlying h, goInt]
theorem D_len_str {t : TypeId} {x : Operand} {l : List UInt8} [hu : Und P t .string] (hx : ρ x = some (str l)) : PPOp P { dst := dst, op := .call { callee := .builtin .len, args := #[x], argTypes := #[t] }, type := ty, pos := pos, after := af, guard := gd } ρ (.sc (.int .i64 l.length)) :=
  PPOp.val (by simp) (fun B G act w hR E => ⟨.int .i64 l.length, exec_len _ (by rw [conc_sc (E _ (by first | exact List.Mem.head _ | exact List.Mem.tail _ (List.Mem.head _) | exact List.Mem.tail _ (List.Mem.tail _ (List.Mem.head _))) _ hx)]; exact run_len_string w t ty ⟨l.toArray⟩ hu.h), .sc _⟩)
theorem D_len_sl {t e : TypeId} {x : Operand} {tok : Option Nat} {k : Nat} {els : List (List AV)} [hu : Und P t (.slice e)] (hx : ρ x = some (.sl tok k els)) : PPOp P { dst := dst, op := .call { callee := .builtin .len, args := #[x], argTypes := #[t] }, type := ty, pos := pos, after := af, guard := gd } ρ (.sc (.int .i64 els.length)) :=
  PPOp.val (by simp) (fun B G act w hR E => ⟨.int .i64 els.length, exec_len _ (by
    have e := E _ (by first | exact List.Mem.head _ | exact List.Mem.tail _ (List.Mem.head _) | exact List.Mem.tail _ (List.Mem.tail _ (List.Mem.head _))) _ hx
    generalize act.eval x = v at e
    cases e <;> exact run_len_sl hu.h), .sc _⟩)
theorem D_lenM {α : Type} {t e : TypeId} {x : Operand} {tok : Option Nat} {k : Nat} {l : List α} {f : α → List AV} [hu : Und P t (.slice e)] (hx : ρ x = some (.sl tok k (l.map f))) :
    PPOp P { dst := dst, op := .call { callee := .builtin .len, args := #[x], argTypes := #[t] }, type := ty, pos := pos, after := af, guard := gd } ρ (.sc (.int .i64 l.length)) := by
  have := D_len_sl (P := P) (ty := ty) (pos := pos) (af := af) (dst := dst) (gd := gd) (t := t) hx
  simpa using this
theorem D_len_nil {t e : TypeId} {x : Operand} {a : Option Addr} {n c : Nat} [hu : Und P t (.slice e)] (hx : ρ x = some (.sc (.slice a n c))) : PPOp P { dst := dst, op := .call { callee := .builtin .len, args := #[x], argTypes := #[t] }, type := ty, pos := pos, after := af, guard := gd } ρ (.sc (.int .i64 n)) :=
  PPOp.val (by simp) (fun B G act w hR E => ⟨.int .i64 n, exec_len _ (by rw [conc_sc (E _ (by first | exact List.Mem.head _ | exact List.Mem.tail _ (List.Mem.head _) | exact List.Mem.tail _ (List.Mem.tail _ (List.Mem.head _))) _ hx)]; exact run_len_sl hu.h), .sc _⟩)
theorem loadCells_of {B : Base P} {h : List AObj} {G : Gh} {w : World} (hr : RH B G h w) {b o : Nat} (vs : List Value) (him : ∀ j v, vs[j]? = some v → G.imm b (o + j) = some v) :
    (loadCells ⟨b, o, none⟩ vs.length).run P w = .ok vs.toArray w :=
  run_loadCells_list w ⟨b, o, none⟩ vs fun j v hj => by rw [add_none]; exact hr.imm _ _ _ (him j v hj)
theorem ep_inv {G : Gh} {v : Value} {cells : List AV} (h : Conc G v (.ep cells)) : ∃ b o vs, v = .pointer (some ⟨b, o, none⟩) ∧ ConcL G vs cells ∧ ∀ (j : Nat) (u : Value), vs[j]? = some u → G.imm b (o + j) = some u := by
  cases h with
  | @ep b o cells us him hc =>
    refine ⟨b, o, (List.range cells.length).map us, rfl, ⟨by simp, fun i v x hv hx => ?_⟩, fun j u hu => ?_⟩
    · have hi : i < cells.length := by have := (List.getElem?_eq_some_iff.1 hx).1; exact this
      simp [hi] at hv; subst hv; exact hc i x hx
    · rcases Nat.lt_or_ge j cells.length with hj | hj
      · simp [hj] at hu; subst hu; exact him j hj
      · rw [List.getElem?_eq_none (by simpa using hj)] at hu; cases hu
theorem ep_mk {G : Gh} {b o : Nat} {vs : List Value} {cells : List AV} (h : ConcL G vs cells) (hi : ∀ (j : Nat) (u : Value), vs[j]? = some u → G.imm b (o + j) = some u) : Conc G (.pointer (some ⟨b, o, none⟩)) (.ep cells) :=
  .ep (fun j => (vs[j]?).getD undef) (fun j hj => by
      have hj' : j < vs.length := h.1 ▸ hj
      have := hi j vs[j] (List.getElem?_eq_getElem hj')
      simpa [hj'] using this)
    (fun j x hx => by
      have hj : j < cells.length := (List.getElem?_eq_some_iff.1 hx).1
      have hj' : j < vs.length := h.1 ▸ hj
      simpa [hj'] using h.2 j vs[j] x (List.getElem?_eq_getElem hj') hx)
theorem ConcL.take {G : Gh} {vs : List Value} {xs : List AV} (h : ConcL G vs xs) (n : Nat) : ConcL G (vs.take n) (xs.take n) :=
  ⟨by simp [h.1], fun i v x hv hx => by
    rw [List.getElem?_take] at hv hx
    split at hv
    · rename_i hlt; simp only [hlt, if_true] at hx; exact h.2 i v x hv hx
    · cases hv⟩
theorem ConcL.drop {G : Gh} {vs : List Value} {xs : List AV} (h : ConcL G vs xs) (n : Nat) : ConcL G (vs.drop n) (xs.drop n) :=
  ⟨by simp [h.1], fun i v x hv hx => by rw [List.getElem?_drop] at hv hx; exact h.2 _ v x hv hx⟩
theorem D_load1 {t : TypeId} {x : Operand} {c : AV} {cs : List AV} [ha : Agg P t false] (hx : ρ x = some (.ep (c :: cs))) : PPOp P { dst := dst, op := .load t x, type := ty, pos := pos, after := af, guard := gd } ρ c :=
  PPOp.val (by simp) (fun B G act w hR E => by
    obtain ⟨b, o, vs, hv, hc, hi⟩ := ep_inv (E _ (by first | exact List.Mem.head _ | exact List.Mem.tail _ (List.Mem.head _) | exact List.Mem.tail _ (List.Mem.tail _ (List.Mem.head _))) _ hx)
    obtain ⟨v, vs', rfl, h1, _⟩ := hc.inv_cons
    have hcell := hR.imm _ _ _ (hi 0 v rfl)
    exact ⟨v, by simp [execOp, hv, Instr.loadAt, Instr.sureAddr, loadVar, ha.h, load, Sem.run, hcell] at hcell ⊢, h1⟩)
theorem D_loadA {t : TypeId} {x : Operand} {n : Nat} {cells : List AV} [ha : Agg P t true] [hs : Siz P t n] (hx : ρ x = some (.ep cells)) (hn : Nat.ble n cells.length = true) : PPOp P { dst := dst, op := .load t x, type := ty, pos := pos, after := af, guard := gd } ρ (.ag (cells.take n)) :=
  PPOp.val (by simp) (fun B G act w hR E => by
    obtain ⟨b, o, vs, hv, hc, hi⟩ := ep_inv (E _ (by first | exact List.Mem.head _ | exact List.Mem.tail _ (List.Mem.head _) | exact List.Mem.tail _ (List.Mem.tail _ (List.Mem.head _))) _ hx)
    have hn' : n ≤ vs.length := by rw [hc.1]; simpa using hn
    have hl := loadCells_of (P := P) hR (vs.take n) (b := b) (o := o) (fun j v hj => hi j v (by
      rw [List.getElem?_take] at hj; split at hj
      · exact hj
      · cases hj))
    rw [List.length_take, Nat.min_eq_left hn'] at hl
    exact ⟨.agg (vs.take n).toArray, by simp [execOp, hv, Instr.loadAt, Instr.sureAddr, loadVar, ha.h, hs.h, hl], .ag (hc.take n).1 (hc.take n).2⟩)
theorem D_loadW {t : TypeId} {x : Operand} {n : Nat} {cells : List AV} [ha : Agg P t true] [hs : Siz P t n] (hx : ρ x = some (.ep cells)) (hn : Nat.beq n cells.length = true) :
    PPOp P { dst := dst, op := .load t x, type := ty, pos := pos, after := af, guard := gd } ρ (.ag cells) := by
  have e : n = cells.length := Nat.eq_of_beq_eq_true hn
  have := D_loadA (P := P) (ty := ty) (pos := pos) (af := af) (dst := dst) (gd := gd) (t := t) (n := n) hx (by rw [e]; simp)
  rwa [e, List.take_length] at this
theorem D_fld {t : TypeId} {x : Operand} {f off : Nat} {cells : List AV} [hf : Fld P t f off] (hx : ρ x = some (.ep cells)) : PPOp P { dst := dst, op := .fieldAddr t x f, type := ty, pos := pos, after := af, guard := gd } ρ (.ep (cells.drop off)) :=
  PPOp.val (by simp) (fun B G act w hR E => by
    obtain ⟨b, o, vs, hv, hc, hi⟩ := ep_inv (E _ (by first | exact List.Mem.head _ | exact List.Mem.tail _ (List.Mem.head _) | exact List.Mem.tail _ (List.Mem.tail _ (List.Mem.head _))) _ hx)
    refine ⟨.pointer (some ⟨b, o + off, none⟩), by simp [execOp, hv, hf.h, add_none], ep_mk (hc.drop off) fun j u hu => ?_⟩
    rw [List.getElem?_drop] at hu
    rw [Nat.add_assoc]; exact hi _ _ hu)
end ops
end
end Go.AL
