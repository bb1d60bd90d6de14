/- The rules of the abstract logic, second part: contracts of calls; a function's contract out of its body. No condition. -/
import Derived.Test.YtfnmipagllofiaaGreatOps
import Derived.Shelf.Abstract
namespace Go.AL
open Go.Proofs (Enters enters_of)
structure Grown (w w' : World) : Prop where
  tape : w'.tape = w.tape
  os : w'.os = w.os
  output : w'.output = w.output
  drawn : w.drawn ≤ w'.drawn
  size : w.heap.size ≤ w'.heap.size
  out : ∀ b, b < w.heap.size → w'.heap[b]? = w.heap[b]?
def Gh.of (imm : Nat → Nat → Option Value) : Gh := ⟨imm, fun _ => none, fun _ _ => none⟩
def PC (P : Program) [GlobF P] (f : FuncId) (xs : List AV) (v : AV) : Prop :=
  Enters P f ∧ ∀ (w : World) (imm : Nat → Nat → Option Value) (vs : List Value), GlobW P w imm → (∀ b o u, imm b o = some u → w.cell? ⟨b, o, none⟩ = some u) → ConcL (Gh.of imm) vs xs →
    Calls P f vs.toArray w fun e w' => ∃ r imm', e = .returned r ∧ Grown w w' ∧ (∀ b o, b < w.heap.size → imm' b o = imm b o) ∧ (∀ b o u, imm' b o = some u → w'.cell? ⟨b, o, none⟩ = some u) ∧ Conc (Gh.of imm') r v
def AC (P : Program) [GlobF P] (f : FuncId) (xs : List AV) (h : List AObj) (Q : AV → List AObj → Prop) : Prop :=
  Enters P f ∧ ∀ (B : Base P) (G : Gh) (w : World) (vs : List Value), RH B G h w → ConcL G vs xs →
    Calls P f vs.toArray w fun e w' => ∃ r G' h' v, e = .returned r ∧ G.le G' ∧ RH B G' h' w' ∧ Conc G' r v ∧ Q v h'
def Le (x y : AV) : Prop := ∀ (G : Gh) (v : Value), Conc G v x → Conc (Gh.of G.imm) v y
class Pur (x : AV) : Prop where
  h : ∀ (G : Gh) (v : Value), Conc G v x → Conc (Gh.of G.imm) v x
class PurL (xs : List AV) : Prop where
  h : ∀ x, x ∈ xs → ∀ (G : Gh) (v : Value), Conc G v x → Conc (Gh.of G.imm) v x
instance : Pur .any := ⟨fun _ v _ => .any v⟩
instance (u : Value) : Pur (.sc u) := ⟨fun _ v h => by cases h; exact .sc _⟩
instance : PurL [] := ⟨fun _ h => by cases h⟩
instance (x : AV) (xs : List AV) [hx : Pur x] [hs : PurL xs] : PurL (x :: xs) := ⟨fun y h => by
  cases h with
  | head => exact hx.h
  | tail _ h => exact hs.h y h⟩
instance (xs : List AV) [hs : PurL xs] : Pur (.ag xs) := ⟨fun G v h => by
  cases h with
  | ag l h => exact .ag l (fun i v x a b => hs.h x (List.mem_of_getElem? b) G v (h i v x a b))⟩
instance (xs : List AV) [hs : PurL xs] : Pur (.tu xs) := ⟨fun G v h => by
  cases h with
  | tu l h => exact .tu l (fun i v x a b => hs.h x (List.mem_of_getElem? b) G v (h i v x a b))⟩
instance (xs : List AV) [hs : PurL xs] : Pur (.ep xs) := ⟨fun G v h => by
  cases h with
  | ep us him hc => exact .ep us him (fun j x hx => hs.h x (List.mem_of_getElem? hx) G _ (hc j x hx))⟩
instance (f : Fn) (xs ys : List AV) [hx : PurL xs] [hy : PurL ys] : Pur (.fn f xs ys) := ⟨fun G v h => by
  cases h with
  | fn l1 l2 h1 h2 => exact .fn l1 l2 (fun i v x a b => hx.h x (List.mem_of_getElem? b) G v (h1 i v x a b)) (fun i v x a b => hy.h x (List.mem_of_getElem? b) G v (h2 i v x a b))⟩
theorem Le.sl {tok : Option Nat} {k : Nat} {els : List (List AV)} (hs : ∀ e, e ∈ els → PurL e) : Le (.sl tok k els) (.sl none k els) := fun G v h => by
  cases h with
  | sl us hk hcap him hc ht => exact .sl us hk hcap him (fun i e j x he hx => (hs e (List.mem_of_getElem? he)).h x (List.mem_of_getElem? hx) G _ (hc i e j x he hx)) (fun t e => by cases e)
  | slnil ht => exact .slnil (fun t e => by cases e)
  | slz => exact .slz
instance {α : Type} (k : Nat) (l : List α) (f : α → List AV) [hs : ∀ a, PurL (f a)] : Pur (.sl none k (l.map f)) := ⟨Le.sl fun e he => by
  obtain ⟨a, _, rfl⟩ := List.mem_map.1 he; exact hs a⟩
instance (k : Nat) : Pur (.sl none k []) := ⟨Le.sl fun e he => by cases he⟩
class PurLL (xs : List (List AV)) : Prop where
  h : ∀ e, e ∈ xs → PurL e
instance : PurLL [] := ⟨fun _ h => by cases h⟩
instance (x : List AV) (xs : List (List AV)) [hx : PurL x] [hs : PurLL xs] : PurLL (x :: xs) := ⟨fun y h => by
  cases h with
  | head => exact hx
  | tail _ h => exact hs.h y h⟩
instance {α : Type} (l : List α) (f : α → List AV) [hs : ∀ a, PurL (f a)] : PurLL (l.map f) := ⟨fun e he => by
  obtain ⟨a, _, rfl⟩ := List.mem_map.1 he; exact hs a⟩
instance (xs ys : List (List AV)) [hx : PurLL xs] [hy : PurLL ys] : PurLL (xs ++ ys) := ⟨fun e he => by
  rcases List.mem_append.1 he with h | h
  · exact hx.h e h
  · exact hy.h e h⟩
instance (k : Nat) (els : List (List AV)) [hs : PurLL els] : Pur (.sl none k els) := ⟨Le.sl hs.h⟩
theorem Le.of_eq {x y : AV} (h : x = y) [hy : Pur y] : Le x y := h ▸ hy.h
theorem Le.any (x : AV) : Le x .any := fun _ v _ => .any v
theorem Le.nil {x : AV} {k : Nat} (h : x = .sc (.slice none 0 0)) : Le x (.sl none k []) := h ▸ fun _ v hv => by cases hv; exact .slnil (fun t e => by cases e)
def LeL : List AV → List AV → Prop
  | [], [] => True
  | x :: xs, y :: ys => Le x y ∧ LeL xs ys
  | _, _ => False
theorem LeL.conc {G : Gh} : ∀ {xs ys : List AV} {vs : List Value}, LeL xs ys → ConcL G vs xs → ConcL (Gh.of G.imm) vs ys
  | [], [], vs, _, h => by rw [h.inv_nil]; exact .nil _
  | x :: xs, y :: ys, vs, hl, h => by
    obtain ⟨v, vs', rfl, h1, h2⟩ := h.inv_cons
    exact .cons (hl.1 _ _ h1) (hl.2.conc h2)
  | [], _ :: _, _, hl, _ => hl.elim
  | _ :: _, [], _, hl, _ => hl.elim
theorem Gh.of_le (G : Gh) : (Gh.of G.imm).le G := ⟨fun _ _ _ h => h, fun _ _ h => (by cases h), fun _ _ _ h => (by cases h)⟩
theorem RH.grown {P : Program} [GlobF P] {B : Base P} {G : Gh} {h : List AObj} {w w' : World} {imm' : Nat → Nat → Option Value} (hr : RH B G h w) (hg : Grown w w') (hlow : ∀ b o, b < w.heap.size → imm' b o = G.imm b o)
    (him : ∀ b o u, imm' b o = some u → w'.cell? ⟨b, o, none⟩ = some u) : G.le ⟨imm', G.blk, G.tl⟩ ∧ RH B ⟨imm', G.blk, G.tl⟩ h w' := by
  have hle : G.le ⟨imm', G.blk, G.tl⟩ := ⟨fun b o v e => by show imm' b o = some v; rw [hlow b o (hr.lt e)]; exact e, fun _ _ e => e, fun _ _ _ e => e⟩
  refine ⟨hle, hr.turn (hr.base.trans hle) hg.tape hg.os hg.output hg.drawn hg.size (fun b hb => hg.out b (Nat.lt_of_lt_of_le hb hr.size)) (fun b o hb => hlow b o (Nat.lt_of_lt_of_le hb hr.size)) him ?_ ?_ ?_ hr.fresh⟩
  · intro r o ho
    exact (hr.obj r o ho).keep hle rfl (fun _ => rfl) fun b _ hb => ⟨hg.out b hb, fun i hi => by show imm' b i = none; rw [hlow b i hb]; exact hi⟩
  · intro r o b ho hb
    exact .inr ⟨o, ho, by rw [← hb]; exact (ownBlk.congr rfl (fun _ => rfl) o).symm⟩
  · intro r r' o o' b h1 h2 h3 _ hb
    rw [ownBlk.congr (G := G) (G' := ⟨imm', G.blk, G.tl⟩) rfl (fun _ => rfl) o] at h3
    exact absurd ((hr.obj r o h1).own h3).1 (by omega)
section
variable {P : Program} [GlobF P] {fr : Option Nat} {N : Nat} {Q : Exit → AS → Prop} {s : AS} {ops : Array Oper} {rest : List Oper} {ty : TypeId} {pos : String} {af : Array Edge} {d : Nat}
theorem WL_enter {op : Op} {f : FuncId} {xs : List AV} {K : AV → List AObj → Prop} (hd : Nat.blt d N = true) (hdef : ∀ c, op ≠ .defer c) (hac : AC P f xs s.heap K)
    (hop : ∀ (B : Base P) (G : Gh) (a : Act) (w : World), R B N G s a w → ∃ vs, (execOp a.eval { dst := some d, op := op, type := ty, pos := pos, after := af, guard := none }).run P w = (callFunc f vs.toArray).run P w ∧ ConcL G vs xs)
    (h : ∀ v h', K v h' → WL P fr N ops rest Q (({ s with heap := h' } : AS).put d v)) : WL P fr N ops ({ dst := some d, op := op, type := ty, pos := pos, after := af, guard := none } :: rest) Q s := by
  intro B G a w hr
  refine wpListIn_plain rfl fun K' hK' => ?_
  obtain ⟨vs, hrun, hc⟩ := hop B G a w hr
  refine ⟨fun f _ => fence_fn fr f, ?_⟩
  rw [Oper.semAt_eq _ _ _ hdef, hrun, hac.1 vs.toArray w]
  refine ⟨fun hs => (by rw [fence_depth] at hs; cases hs), ?_⟩
  have hcall := callsIn_wide (n := 0 - 1).2 (hac.2 B G w vs hr.heap hc)
  have hcall' : CallsIn (fence fr) (0 - 1) P f vs.toArray w (fun e w' => ∃ r G' h' v, e = .returned r ∧ G.le G' ∧ RH B G' h' w' ∧ Conc G' r v ∧ K v h') := by cases fr <;> exact hcall
  refine hcall'.mono ?_
  rintro e w' ⟨r, G', h', v, rfl, hg', hh, hv, hk⟩
  exact hK' _ _ (h v h' hk B G' _ w' ((hr.step hg' hh).put (by simpa [Nat.blt_eq] using hd) hv))
theorem AC.mono {f : FuncId} {xs : List AV} {h : List AObj} {K K' : AV → List AObj → Prop} (ha : AC P f xs h K) (hk : ∀ v h', K v h' → K' v h') : AC P f xs h K' :=
  ⟨ha.1, fun B G w vs hr hc => (ha.2 B G w vs hr hc).mono fun _ _ ⟨r, G', h', v, a, b, c, d, e⟩ => ⟨r, G', h', v, a, b, c, d, hk _ _ e⟩⟩
theorem exec_call {P0 : Program} (ρ : Operand → Value) {x : Operand} {args : List Operand} {ts : Array TypeId} {dst : Option Nat} {g : Option (Nat × Bool)} {f : FuncId} {fs cs : List Value} {w : World} (hx : ρ x = .func (.func f) fs.toArray cs.toArray) :
    (execOp ρ { dst := dst, op := .call { callee := .value x, args := args.toArray, argTypes := ts }, type := ty, pos := pos, after := af, guard := g }).run P0 w = (callFunc f (fs ++ args.map ρ ++ cs).toArray).run P0 w := by
  simp [execOp, resolve, hx, Deferred.ofValue, invoke]
theorem POp.enter {op : Op} {f : FuncId} {ys : List AV} {v : AV} {dst : Option Nat} {gd : Option (Nat × Bool)} {ρ : Operand → Option AV} {hp : List AObj} (hdef : ∀ c, op ≠ .defer c) (hpc : PC P f ys v)
    (hop : ∀ (B : Base P) (G : Gh) (a : Act) (w : World), RH B G hp w → (∀ x, x ∈ op.operands.toList → ∀ u, ρ x = some u → Conc G (a.eval x) u) →
      ∃ vs, (execOp a.eval { dst := dst, op := op, type := ty, pos := pos, after := af, guard := gd }).run P w = (callFunc f vs.toArray).run P w ∧ ConcL (Gh.of G.imm) vs ys) :
    POp P { dst := dst, op := op, type := ty, pos := pos, after := af, guard := gd } ρ hp v := by
  intro fr B G a w hr hE
  obtain ⟨vs, hrun, hc⟩ := hop B G a w hr hE
  refine ⟨fun f _ => fence_fn fr f, ?_⟩
  rw [Oper.semAt_eq _ _ _ hdef, hrun, hpc.1 vs.toArray w]
  refine ⟨fun hs => (by rw [fence_depth] at hs; cases hs), ?_⟩
  have hcall := callsIn_wide (n := 0 - 1).2 (hpc.2 w G.imm vs hr.globW hr.imm hc)
  have hcall' : CallsIn (fence fr) (0 - 1) P f vs.toArray w (fun e w' => ∃ r imm', e = .returned r ∧ Grown w w' ∧ (∀ b o, b < w.heap.size → imm' b o = G.imm b o) ∧ (∀ b o u, imm' b o = some u → w'.cell? ⟨b, o, none⟩ = some u) ∧ Conc (Gh.of imm') r v) := by cases fr <;> exact hcall
  refine hcall'.mono ?_
  rintro e w' ⟨r, imm', rfl, hg, hlow, him, hv⟩
  obtain ⟨hle, hr'⟩ := hr.grown hg hlow him
  exact ⟨r, ⟨imm', G.blk, G.tl⟩, rfl, hle, hr', hv.mono (Gh.of_le ⟨imm', G.blk, G.tl⟩)⟩
theorem PPOp.enter {op : Op} {f : FuncId} {ys : List AV} {v : AV} {dst : Option Nat} {gd : Option (Nat × Bool)} {ρ : Operand → Option AV} (hdef : ∀ c, op ≠ .defer c) (hpc : PC P f ys v)
    (hop : ∀ {hp : List AObj} (B : Base P) (G : Gh) (a : Act) (w : World), RH B G hp w → (∀ x, x ∈ op.operands.toList → ∀ u, ρ x = some u → Conc G (a.eval x) u) →
      ∃ vs, (execOp a.eval { dst := dst, op := op, type := ty, pos := pos, after := af, guard := gd }).run P w = (callFunc f vs.toArray).run P w ∧ ConcL (Gh.of G.imm) vs ys) :
    PPOp P { dst := dst, op := op, type := ty, pos := pos, after := af, guard := gd } ρ v := fun _ => POp.enter hdef hpc fun B G a w hr hE => hop B G a w hr hE
def LeO (ρ : Operand → Option AV) : List Operand → List AV → Prop
  | [], [] => True
  | x :: xs, y :: ys => (∃ u, ρ x = some u ∧ Le u y) ∧ LeO ρ xs ys
  | _, _ => False
theorem LeO.conc {G : Gh} {a : Act} {ρ : Operand → Option AV} : ∀ {xs : List Operand} {ys : List AV}, LeO ρ xs ys → (∀ x, x ∈ xs → ∀ u, ρ x = some u → Conc G (a.eval x) u) → ConcL (Gh.of G.imm) (xs.map a.eval) ys
  | [], [], _, _ => .nil _
  | x :: _, _ :: _, ⟨⟨u, hu, hl⟩, h⟩, hE => .cons (hl _ _ (hE x (.head _) u hu)) (h.conc fun z hz => hE z (.tail _ hz))
  | [], _ :: _, h, _ => h.elim
  | _ :: _, [], h, _ => h.elim
theorem LeO.nil {ρ : Operand → Option AV} : LeO ρ [] [] := trivial
theorem LeO.cons {ρ : Operand → Option AV} {x : Operand} {xs : List Operand} {u y : AV} {ys : List AV} (hu : ρ x = some u) (hl : Le u y) (h : LeO ρ xs ys) : LeO ρ (x :: xs) (y :: ys) := ⟨⟨u, hu, hl⟩, h⟩
theorem LeO.same {ρ : Operand → Option AV} {x : Operand} {xs : List Operand} {y : AV} {ys : List AV} (hu : ρ x = some y) [hy : Pur y] (h : LeO ρ xs ys) : LeO ρ (x :: xs) (y :: ys) := ⟨⟨y, hu, hy.h⟩, h⟩
theorem LeO.tok {ρ : Operand → Option AV} {x : Operand} {xs : List Operand} {tok : Option Nat} {k : Nat} {els : List (List AV)} {ys : List AV} (hu : ρ x = some (.sl tok k els)) [hs : PurLL els] (h : LeO ρ xs ys) : LeO ρ (x :: xs) (.sl none k els :: ys) := ⟨⟨_, hu, Le.sl hs.h⟩, h⟩
theorem LeO.niln {ρ : Operand → Option AV} {x : Operand} {xs : List Operand} {k : Nat} {ys : List AV} (hu : ρ x = some (.sc (.slice none 0 0))) (h : LeO ρ xs ys) : LeO ρ (x :: xs) (.sl none k [] :: ys) := ⟨⟨_, hu, Le.nil rfl⟩, h⟩
theorem D_pc {x : Operand} {args : List Operand} {ts : Array TypeId} {f : FuncId} {ys : List AV} {v : AV} {dst : Option Nat} {gd : Option (Nat × Bool)} {ρ : Operand → Option AV}
    (hpc : PC P f ys v) (hx : ρ x = some (.sc (.func (.func f) #[] #[]))) (hl : LeO ρ args ys) :
    PPOp P { dst := dst, op := .call { callee := .value x, args := args.toArray, argTypes := ts }, type := ty, pos := pos, after := af, guard := gd } ρ v :=
  PPOp.enter (by simp) hpc (fun B G a w hR E => ⟨args.map a.eval, by
    have hx' := conc_sc (E x (by simp [Op.operands, Call.operands]) _ hx)
    rw [exec_call (fs := []) (cs := []) a.eval hx']; simp, hl.conc fun z hz => E z (by simp [Op.operands, Call.operands]; exact .inr hz)⟩)
theorem D_pcC {x : Operand} {args : List Operand} {ts : Array TypeId} {f : FuncId} {zs ys ys' : List AV} {v : AV} {dst : Option Nat} {gd : Option (Nat × Bool)} {ρ : Operand → Option AV}
    (hpc : PC P f (ys ++ ys') v) (hx : ρ x = some (.fn (.func f) [] zs)) (hl : LeO ρ args ys) (hz : LeL zs ys') :
    PPOp P { dst := dst, op := .call { callee := .value x, args := args.toArray, argTypes := ts }, type := ty, pos := pos, after := af, guard := gd } ρ v :=
  PPOp.enter (by simp) hpc (fun B G a w hR E => by
    have e := E x (by simp [Op.operands, Call.operands]) _ hx
    generalize hv : a.eval x = u at e
    cases e with
    | @fn _ fs cs _ _ l1 l2 h1 h2 =>
      have : fs = [] := by simpa using l1
      subst this
      exact ⟨args.map a.eval ++ cs, by rw [exec_call (fs := []) a.eval hv]; simp, ConcL.append (hl.conc fun z hz => E z (by simp [Op.operands, Call.operands]; exact .inr hz)) (hz.conc ⟨l2, h2⟩)⟩)
end
def ResOf (P : Program) [GlobF P] (fn : Func) (s : AS) (v : AV) : Prop :=
  ∀ (B : Base P) (N : Nat) (G : Gh) (a : Act) (w : World), R B N G s a w → ∃ r, (results fn a.tmps).run P w = .ok r w ∧ Conc G r v
section
variable {P : Program} [GlobF P] {fn : Func} {s : AS}
theorem ResOf.one {t : Nat} {v : AV} (hf : fn.results = #[.tmp t]) (hv : look s.regs t = v) : ResOf P fn s v :=
  fun _ _ _ a _ hR => ⟨a.tmps.getD t undef, by simp [Go.results, hf], hv ▸ hR.regs t⟩
theorem ResOf.none (hf : fn.results = #[]) : ResOf P fn s (.tu []) :=
  fun _ _ _ a _ hR => ⟨.tuple #[], by simp [Go.results, hf], .tu (cs := []) rfl (fun _ _ _ h => by simp at h)⟩
theorem ResOf.two {t u : Nat} {v v' : AV} (hf : fn.results = #[.tmp t, .tmp u]) (hv : look s.regs t = v) (hv' : look s.regs u = v') : ResOf P fn s (.tu [v, v']) :=
  fun _ _ _ a _ hR => ⟨.tuple #[a.tmps.getD t undef, a.tmps.getD u undef], by simp [Go.results, hf], by
    have := ConcL.cons (hv ▸ hR.regs t) (.cons (hv' ▸ hR.regs u) (.nil _)); exact .tu this.1 this.2⟩
end
def args0 : List AV → Nat → List (Nat × AV)
  | [], _ => []
  | x :: xs, i => (i, x) :: args0 xs (i + 1)
theorem look_args0 : ∀ (xs : List AV) (i t : Nat), look (args0 xs i) t = if i ≤ t then (xs[t - i]?).getD .any else .any
  | [], i, t => by simp [args0, look]
  | x :: xs, i, t => by
    simp only [args0, look]
    cases hb : Nat.beq i t with
    | true =>
      have : i = t := Nat.eq_of_beq_eq_true hb
      subst this; simp
    | false =>
      have hne : i ≠ t := fun e => by subst e; simp at hb
      simp only [look_args0 xs (i + 1) t]
      by_cases h : i + 1 ≤ t
      · have h' : i ≤ t := by omega
        have e : t - i = (t - (i + 1)) + 1 := by omega
        simp [h, h', e]
      · have h' : ¬ i ≤ t := by omega
        simp [h, h']
theorem RH.set {P : Program} [GlobF P] {B : Base P} {G : Gh} {h : List AObj} {w w' : World} (hr : RH B G h w) {r : Nat} {o : AObj} {b : Nat} (ho : h[r]? = some o) (hb : ownBlk G r o = some b) (hB : B.w.heap.size ≤ b)
    (ht : w'.tape = w.tape) (hos : w'.os = w.os) (hout : w'.output = w.output) (hdr : w.drawn ≤ w'.drawn) (hsz : w'.heap.size = w.heap.size) (hoth : ∀ b', b' ≠ b → w'.heap[b']? = w.heap[b']?)
    (himm : ∀ i v, G.imm b i = some v → w'.cell? ⟨b, i, none⟩ = some v) {o' : AObj} (hok : ObjOK B G w' r o') (hown : ∀ c, ownBlk G r o' = some c → c = b) : RH B G (h.set r o') w' := by
  have hrl : r < h.length := (List.getElem?_eq_some_iff.1 ho).1
  refine hr.turn hr.base ht hos hout hdr (by omega) (fun b' hb' => hoth b' (by omega)) (fun _ _ _ => rfl) (fun b' i v hv => ?_) ?_ ?_ ?_ (fun r' hr' => hr.fresh r' (by simpa using hr'))
  · by_cases e : b' = b
    · subst e; exact himm i v hv
    · have := hr.imm b' i v hv
      unfold World.cell? at this ⊢
      simp only [hoth b' e]; exact this
  · intro r' o1 h1
    by_cases e : r' = r
    · subst e
      rw [List.getElem?_set_self hrl] at h1
      cases h1; exact hok
    · rw [List.getElem?_set_ne (Ne.symm e)] at h1
      exact (hr.obj r' o1 h1).keep (.refl G) rfl (fun _ => rfl) fun c hc _ => ⟨hoth c fun ec => e (hr.inj r' r o1 o b h1 ho (ec ▸ hc) hb), fun _ hi => hi⟩
  · intro r1 o1 c h1 g1
    by_cases e1 : r1 = r
    · subst e1
      rw [List.getElem?_set_self hrl] at h1; cases h1
      have := hown c g1; subst this
      exact .inr ⟨o, ho, hb⟩
    · rw [List.getElem?_set_ne (Ne.symm e1)] at h1
      exact .inr ⟨o1, h1, g1⟩
  · intro r1 r2 o1 o2 c h1 h2 g1 g2 hc
    exfalso
    by_cases e1 : r1 = r
    · subst e1
      rw [List.getElem?_set_self hrl] at h1; cases h1
      have := hown c g1; subst this
      exact absurd ((hr.obj _ o ho).own hb).1 (by omega)
    · rw [List.getElem?_set_ne (Ne.symm e1)] at h1
      exact absurd ((hr.obj r1 o1 h1).own g1).1 (by omega)
def kill : List Nat → List AObj → List AObj
  | [], h => h
  | r :: rs, h => kill rs (h.set r .dead)
def MarksOK : List Nat → List AObj → Prop
  | [], _ => True
  | r :: rs, h => h[r]? = some (.raw (.deferred (some []))) ∧ MarksOK rs (h.set r .dead)
theorem leaves {P : Program} [GlobF P] {fn : Func} {tmps : Array Value} {B : Base P} {G : Gh} {R' : Ending → World → Prop} : ∀ (ms : List Nat) (ds : List Deferred) (h : List AObj) (w : World), RH B G h w → MarksOK ms h →
    (ds.length = ms.length ∧ ∀ (i : Nat) (d : Deferred) (r : Nat), ds[i]? = some d → ms[i]? = some r → ∃ b, G.blk r = some b ∧ d = { target := .collected b, args := #[] }) →
    (∀ w', RH B G (kill ms h) w' → ∃ v, (results fn tmps).run P w' = .ok v w' ∧ R' (.returned v) w') → LeavesInM Fence.wide 0 P fn tmps R' ds .returning w
  | [], ds, h, w, hr, _, hd, hk => by
    have : ds = [] := by have := hd.1; simpa using this
    subst this
    exact hk w hr
  | r :: ms, ds, h, w, hr, hm, hd, hk => by
    cases ds with
    | nil => have := hd.1; simp at this
    | cons d ds =>
      obtain ⟨b, hb, hdd⟩ := hd.2 0 d r rfl rfl
      obtain ⟨hm1, hm2⟩ := hm
      obtain ⟨b', hb1, hb2, hb3, hb4⟩ := hr.obj r _ hm1
      have : b' = b := by rw [hb] at hb1; cases hb1; rfl
      subst this
      have hlt : b' < w.heap.size := (Array.getElem?_eq_some_iff.1 hb3).1
      refine ⟨by simp, .inl ⟨b', w.putObj b' (.deferred none), by rw [hdd], run_takeDeferred hb3, ?_⟩⟩
      refine leaves ms ds (h.set r .dead) _ ?_ hm2 ⟨by have := hd.1; simpa using this, fun i d r hi hr => hd.2 (i + 1) d r (by simpa using hi) (by simpa using hr)⟩ hk
      exact hr.set (w' := w.putObj b' (.deferred none)) (o' := .dead) hm1 (b := b') hb hb2 rfl rfl rfl (Nat.le_refl _) World.putObj_size (fun c hc => World.putObj_heap_other hc) (fun i v hv => by rw [hb4] at hv; cases hv) trivial (fun c hc => by cases hc)
def Ret (P : Program) [GlobF P] (fn : Func) (K : AV → List AObj → Prop) : Exit → AS → Prop
  | .normal, s | .ret, s => MarksOK s.marks.l s.heap ∧ ∃ v, ResOf P fn { s with heap := kill s.marks.l s.heap, marks := ⟨[], s.marks.n0⟩ } v ∧ K v (kill s.marks.l s.heap)
  | _, _ => False
theorem calls_of_W {P : Program} [GlobF P] {f : FuncId} {fn : Func} {c : Code} {vs : List Value} {xs : List AV} {h : List AObj} {K : AV → List AObj → Prop} {B : Base P} {G : Gh} {w : World} {n0 : Nat}
    (hf : P.funcs[f]? = some fn) (hb : fn.body = some c) (hn : Nat.ble xs.length fn.ntmps = true) (hn0 : n0 = h.length) (hW : W P none fn.ntmps c (Ret P fn K) ⟨args0 xs 0, h, ⟨[], n0⟩⟩) (hr : RH B G h w) (hc : ConcL G vs xs) :
    Calls P f vs.toArray w fun e w' => ∃ r G' h' v, e = .returned r ∧ G.le G' ∧ RH B G' h' w' ∧ Conc G' r v ∧ K v h' := by
  refine callsIn_wide (n := 0).1 (callsIn_of_wp_marks hf hb trivial ?_ rfl)
  have hn' : xs.length ≤ fn.ntmps := by simpa using hn
  have into : ∀ {G' : Gh} {h' : List AObj} {w' : World}, RH { B with g0 := G } G' h' w' → RH B G' h' w' := fun hh =>
    ⟨hr.base.trans hh.base, hh.tape, hh.os, hh.output, hh.drawn, hh.size, hh.out, hh.imm, hh.low, fun r o ho => by
      have := hh.obj r o ho
      cases o <;> exact this, hh.inj, hh.fresh⟩
  have hr0 : RH { B with g0 := G } G h w := ⟨.refl G, hr.tape, hr.os, hr.output, hr.drawn, hr.size, hr.out, hr.imm, hr.low, fun r o ho => by
      have := hr.obj r o ho
      cases o <;> exact this, hr.inj, hr.fresh⟩
  have hR : R { B with g0 := G } fn.ntmps G ⟨args0 xs 0, h, ⟨[], n0⟩⟩ { tmps := vs.toArray ++ Array.replicate (fn.ntmps - vs.toArray.size) undef, defers := [] } w := by
    refine ⟨hr0, ?_, fun t => ?_, ⟨rfl, fun i d r hd => by simp at hd⟩, fun r hr' => hr.fresh r (by rw [← hn0]; exact hr')⟩
    · simp [hc.1]; omega
    · simp only [look_args0, Nat.zero_le, if_true, Nat.sub_zero]
      rcases Nat.lt_or_ge t xs.length with ht | ht
      · have ht' : t < vs.length := hc.1 ▸ ht
        rw [Array.getD_eq_getD_getElem?, Array.getElem?_append_left (by simpa using ht'), List.getElem?_eq_getElem ht]
        simpa [ht'] using hc.2 t vs[t] xs[t] (List.getElem?_eq_getElem ht') (List.getElem?_eq_getElem ht)
      · rw [List.getElem?_eq_none ht]; exact .any _
  refine wpIn_mono (hW { B with g0 := G } G _ w hR) ?_
  rintro e a' w' ⟨G', s', hr', hq⟩
  have key : (MarksOK s'.marks.l s'.heap ∧ ∃ v, ResOf P fn { s' with heap := kill s'.marks.l s'.heap, marks := ⟨[], s'.marks.n0⟩ } v ∧ K v (kill s'.marks.l s'.heap)) →
      LeavesInM Fence.wide 0 P fn a'.tmps (fun e w' => ∃ r G' h' v, e = .returned r ∧ G.le G' ∧ RH B G' h' w' ∧ Conc G' r v ∧ K v h') a'.defers .returning w' := by
    rintro ⟨hm, v, hv, hk⟩
    refine leaves s'.marks.l a'.defers s'.heap w' hr'.heap hm hr'.defers fun w'' hw'' => ?_
    obtain ⟨r, h1, h2⟩ := hv { B with g0 := G } fn.ntmps G' { a' with defers := [] } w'' ⟨hw'', hr'.size, hr'.regs, ⟨rfl, fun i d r hd => by simp at hd⟩, hr'.own⟩
    exact ⟨r, h1, r, G', _, v, rfl, hw''.base, into hw'', h2, hk⟩
  cases e <;> first | exact key hq | exact hq.elim
theorem AC.of_body {P : Program} [GlobF P] {f : FuncId} {fn : Func} {c : Code} {xs : List AV} {h : List AObj} {K : AV → List AObj → Prop}
    (hf : P.funcs[f]? = some fn) {N : Nat} (hN : fn.ntmps = N) (hb : fn.body = some c) (hname : (fn.name == "runtime.NumGoroutine") = false) (hn : Nat.ble xs.length N = true) (hW : W P none N c (Ret P fn K) ⟨args0 xs 0, h, ⟨[], h.length⟩⟩) : AC P f xs h K := by
  subst hN
  exact ⟨enters_of hf hname hb, fun _ _ _ _ hr hc => calls_of_W hf hb hn rfl hW hr hc⟩
theorem PC.of_body {P : Program} [GlobF P] {f : FuncId} {fn : Func} {c : Code} {xs : List AV} {v : AV}
    (hf : P.funcs[f]? = some fn) {N : Nat} (hN : fn.ntmps = N) (hb : fn.body = some c) (hname : (fn.name == "runtime.NumGoroutine") = false) (hn : Nat.ble xs.length N = true) (hW : W P none N c (Ret P fn fun v' _ => Le v' v) ⟨args0 xs 0, [], ⟨[], 0⟩⟩) : PC P f xs v := by
  subst hN
  exact ⟨enters_of hf hname hb, fun w imm vs hgl him hc => by
    have hr : RH (⟨w, imm, Gh.of imm, fun b o v e => ⟨hgl.f b o v e, by
        have := him b o v (hgl.f b o v e)
        unfold World.cell? at this
        rcases Nat.lt_or_ge b w.heap.size with h | h
        · exact h
        · simp [Array.getElem?_eq_none h] at this⟩, hgl.o⟩ : Base P) (Gh.of imm) [] w := ⟨.refl _, rfl, rfl, rfl, Nat.le_refl _, Nat.le_refl _, fun _ _ => rfl, him, fun _ _ _ => rfl, fun r o h => by simp at h, fun r _ o _ _ h => by simp at h, fun _ _ => ⟨rfl, fun _ => rfl⟩⟩
    refine (calls_of_W hf hb hn rfl hW hr hc).mono ?_
    rintro e w' ⟨r, G', h', v', he, -, hr', hv', hle⟩
    exact ⟨r, G'.imm, he, ⟨hr'.tape, hr'.os, hr'.output, hr'.drawn, hr'.size, hr'.out⟩, hr'.low, hr'.imm, hle G' r hv'⟩⟩
end Go.AL

namespace Go.AL
theorem leAg {xs ys : List AV} (h : LeL xs ys) : Le (.ag xs) (.ag ys) := fun G v hv => by
  cases hv with
  | ag l h' =>
    have := LeL.conc (G := G) h ⟨l, h'⟩
    exact .ag this.1 this.2
end Go.AL

namespace Go.AL
def LeLL : List (List AV) → List (List AV) → Prop
  | [], [] => True
  | x :: xs, y :: ys => LeL x y ∧ LeLL xs ys
  | _, _ => False
theorem LeL.at : ∀ {xs ys : List AV}, LeL xs ys → xs.length = ys.length ∧ ∀ (j : Nat) (y : AV), ys[j]? = some y → ∃ x, xs[j]? = some x ∧ Le x y
  | [], [], _ => ⟨rfl, fun j y h => by simp at h⟩
  | x :: xs, y :: ys, h => by
    obtain ⟨h1, h2⟩ := LeL.at h.2
    refine ⟨by simp [h1], fun j z hz => ?_⟩
    cases j with
    | zero => simp only [List.getElem?_cons_zero, Option.some.injEq] at hz; subst hz; exact ⟨x, by simp, h.1⟩
    | succ j => simp only [List.getElem?_cons_succ] at hz ⊢; exact h2 j z hz
  | [], _ :: _, h => h.elim
  | _ :: _, [], h => h.elim
theorem LeLL.at : ∀ {xs ys : List (List AV)}, LeLL xs ys → xs.length = ys.length ∧ (∀ (j : Nat) (y : List AV), ys[j]? = some y → ∃ x, xs[j]? = some x ∧ LeL x y)
  | [], [], _ => ⟨rfl, fun j y h => by simp at h⟩
  | x :: xs, y :: ys, h => by
    obtain ⟨h1, h2⟩ := LeLL.at h.2
    refine ⟨by simp [h1], fun j z hz => ?_⟩
    cases j with
    | zero => simp only [List.getElem?_cons_zero, Option.some.injEq] at hz; subst hz; exact ⟨x, by simp, h.1⟩
    | succ j => simp only [List.getElem?_cons_succ] at hz ⊢; exact h2 j z hz
  | [], _ :: _, h => h.elim
  | _ :: _, [], h => h.elim
theorem Le.slE {tok : Option Nat} {k : Nat} {els els' : List (List AV)} (h : LeLL els els') : Le (.sl tok k els) (.sl none k els') := fun G v hv => by
  obtain ⟨hl, he⟩ := h.at
  cases hv with
  | @sl b o cap _ _ _ us hk hcap him hc ht =>
    rw [hl] at hcap him ⊢
    refine .sl us (fun e' he' => ?_) hcap him (fun i e' j x' hi hj => ?_) (fun t e => by cases e)
    · obtain ⟨i, hi⟩ := List.getElem?_of_mem he'
      obtain ⟨e, h1, h2⟩ := he i e' hi
      rw [← h2.at.1]; exact hk e (List.mem_of_getElem? h1)
    · obtain ⟨e, h1, h2⟩ := he i e' hi
      obtain ⟨x, h3, h4⟩ := h2.at.2 j x' hj
      exact h4 _ _ (hc i e j x h1 h3)
  | slnil ht =>
    cases els' with
    | nil => exact .slnil (fun t e => by cases e)
    | cons a t => exact h.elim
  | slz =>
    cases els' with
    | nil => exact .slz
    | cons a t => exact h.elim
end Go.AL
