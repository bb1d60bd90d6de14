/- The rules of the abstract logic, twelfth part: ranges over functions. No condition. -/
import Derived.Test.YtfnmipagllofiaaDoorApp3
import Derived.RangeFuncIn
import Derived.RangeFuncRecord
namespace Go.AL
def zipR : List Nat → List AV → List (Nat × AV) → List (Nat × AV)
  | p :: ps, u :: us, rg => zipR ps us ((p, u) :: rg)
  | _, _, rg => rg
section
variable {P : Program} [GlobF P]
def YW (P : Program) [GlobF P] (l : Nat) (us : List AV) (h : List AObj) (K : Bool → List AObj → Prop) : Prop :=
  ∀ (B : Base P) (G : Gh) (w : World) (vs : List Value), RH B G h w → ConcL G vs us →
    ∃ f tmps assign body, (Instr.yield l vs.toArray).run P w = .ok (.round l f tmps assign body) w ∧
      RoundIn Fence.wide 0 P l f tmps assign body w (fun e w' => ∃ b G' h', e = .returned (.bool b) ∧ G.le G' ∧ RH B G' h' w' ∧ K b h')
theorem YW.mono {l : Nat} {us : List AV} {h : List AObj} {K K' : Bool → List AObj → Prop} (hy : YW P l us h K) (hk : ∀ b h', K b h' → K' b h') : YW P l us h K' := fun B G w vs hr hc => by
  obtain ⟨f, tmps, assign, body, h1, h2⟩ := hy B G w vs hr hc
  exact ⟨f, tmps, assign, body, h1, h2.mono fun e w' ⟨b, G', h', a, b', c, d⟩ => ⟨b, G', h', a, b', c, hk _ _ d⟩⟩
theorem zip_look {G : Gh} {N : Nat} : ∀ {ps : List Nat} {us : List AV} {vs : List Value} {tm : Array Value} {rg : List (Nat × AV)}, ps.length = us.length → ConcL G vs us → (∀ p, p ∈ ps → p < N) → tm.size = N → (∀ t, Conc G (tm.getD t undef) (look rg t)) →
    ((ps.zip vs).foldl (fun tmps (t, a) => tmps.setIfInBounds t a) tm).size = N ∧ ∀ t, Conc G (((ps.zip vs).foldl (fun tmps (t, a) => tmps.setIfInBounds t a) tm).getD t undef) (look (zipR ps us rg) t)
  | [], us, vs, tm, rg, hl, hc, _, hs, h => by
    have : us = [] := List.length_eq_zero_iff.1 hl.symm
    subst this; rw [hc.inv_nil]; exact ⟨hs, h⟩
  | p :: ps, [], vs, tm, rg, hl, hc, _, hs, h => by simp at hl
  | p :: ps, u :: us, vs, tm, rg, hl, hc, hp, hs, h => by
    obtain ⟨v, vs', rfl, h1, h2⟩ := hc.inv_cons
    simp only [List.zip_cons_cons, List.foldl_cons, zipR]
    refine zip_look (by simpa using hl) h2 (fun q hq => hp q (.tail _ hq)) (by simpa using hs) fun t => ?_
    simp only [look]
    cases hb : Nat.beq p t with
    | true =>
      have : p = t := Nat.eq_of_beq_eq_true hb
      subst this
      have := hp p (.head _)
      simp [Array.getD_eq_getD_getElem?, hs, this, h1]
    | false =>
      have hne : p ≠ t := fun e => by subst e; simp at hb
      have := h t
      simp only [Array.getD_eq_getD_getElem?, Array.getElem?_setIfInBounds_ne hne] at this ⊢
      exact this
def RoundQ (r l N : Nat) (ps : Array Tmp) (assign body : Code) (rg : List (Nat × AV)) (K : Bool → List AObj → Prop) : Exit → AS → Prop
  | .normal, s => (∃ st pe, s.heap[r]? = some (.loopr l N ps assign body rg st pe)) ∧ K true (s.heap.set r (.loopr l N ps assign body rg .ready none))
  | .ret, s => (∃ st pe, s.heap[r]? = some (.loopr l N ps assign body rg st pe)) ∧ K false (s.heap.set r (.loopr l N ps assign body rg .done (some .ret)))
  | .exit i, s => (∃ st pe, s.heap[r]? = some (.loopr l N ps assign body rg st pe)) ∧ K false (s.heap.set r (.loopr l N ps assign body rg .done (some (.exit i))))
  | _, _ => False
theorem RH.setLoop {B : Base P} {G : Gh} {h : List AObj} {w : World} (hr : RH B G h w) {r l N : Nat} {ps : Array Tmp} {assign body : Code} {rg : List (Nat × AV)} {st st' : LoopState} {pe pe' : Option Code}
    (ho : h[r]? = some (.loopr l N ps assign body rg st pe)) : ∃ R : Loop, w.heap[l]? = some (.loop R) ∧ R.state = st ∧ R.pending = pe ∧ R.params = ps ∧ R.assign = assign ∧ R.body = body ∧ R.tmps.size = N ∧ (∀ t, Conc G (R.tmps.getD t undef) (look rg t)) ∧
      RH B G (h.set r (.loopr l N ps assign body rg st' pe')) (w.putObj l (.loop { R with state := st', pending := pe' })) ∧ RH B G (h.set r .dead) (w.putObj l (.loop { R with state := st', pending := pe' })) := by
  obtain ⟨g1, g2, g3, fn, tm, db, g4, g5, g6⟩ := hr.obj r _ ho
  have hlt : l < w.heap.size := (Array.getElem?_eq_some_iff.1 g4).1
  refine ⟨_, g4, rfl, rfl, rfl, rfl, rfl, g5, g6, ?_, ?_⟩
  · refine hr.set (w' := w.putObj l (.loop { state := st', pending := pe', fn := fn, tmps := tm, params := ps, assign := assign, body := body, defers := db })) (o' := .loopr l N ps assign body rg st' pe') (b := l) ho g1 g2 rfl rfl rfl (Nat.le_refl _) World.putObj_size (fun c hc => World.putObj_heap_other hc) (fun i v hi => by rw [g3 i] at hi; cases hi) ?_ (fun c hc => ?_)
    · exact ⟨g1, g2, g3, fn, tm, db, World.putObj_heap_same hlt, g5, g6⟩
    · simp only [ownBlk, g1] at hc; cases hc; rfl
  · exact hr.set (w' := w.putObj l (.loop { state := st', pending := pe', fn := fn, tmps := tm, params := ps, assign := assign, body := body, defers := db })) (o' := .dead) (b := l) ho g1 g2 rfl rfl rfl (Nat.le_refl _) World.putObj_size (fun c hc => World.putObj_heap_other hc) (fun i v hi => by rw [g3 i] at hi; cases hi) trivial (fun c hc => by cases hc)
theorem YW.round {r l N : Nat} {ps : List Nat} {assign body : Code} {rg : List (Nat × AV)} {us : List AV} {h : List AObj} {K : Bool → List AObj → Prop}
    (hr : h[r]? = some (.loopr l N ps.toArray assign body rg .ready none)) (hl : Nat.beq ps.length us.length = true) (hN : ps.all (fun p => Nat.blt p N) = true)
    (hW : W P (some l) N assign (fun e s1 => e = .normal ∧ s1.heap[r]? = some (.loopr l N ps.toArray assign body rg .ready none) ∧
      W P (some l) N body (fun e s => s.marks.l = [] ∧ RoundQ r l N ps.toArray assign body rg K e s) ⟨s1.regs, s1.heap.set r (.loopr l N ps.toArray assign body rg .busy none), s1.marks⟩) ⟨zipR ps us rg, h, ⟨[], h.length⟩⟩) : YW P l us h K := by
  intro B G w vs hR hc
  have hl' : ps.length = us.length := Nat.eq_of_beq_eq_true hl
  have hN' : ∀ p, p ∈ ps → p < N := fun p hp => by have := List.all_eq_true.1 hN p hp; simpa [Nat.blt_eq] using this
  obtain ⟨R, q1, q2, q3, q4, q5, q6, q7, q8, _⟩ := hR.setLoop (st' := .ready) (pe' := none) hr
  have hy := run_yield (P := P) (args := vs.toArray) q1 (by rw [q4]; simp [hc.1, hl'])
  rw [q4, q5, q6] at hy
  have ez : (ps.toArray.zip vs.toArray).foldl (fun tmps (t, a) => tmps.setIfInBounds t a) R.tmps = (ps.zip vs).foldl (fun tmps (t, a) => tmps.setIfInBounds t a) R.tmps := by
    simp
  rw [ez] at hy
  refine ⟨_, _, _, _, hy, roundIn_of_wpIn trivial ?_⟩
  obtain ⟨z1, z2⟩ := zip_look (tm := R.tmps) hl' hc hN' q7 q8
  have into : ∀ {G' : Gh} {h' : List AObj} {w' : World}, RH { B with g0 := G } G' h' w' → RH B G' h' w' := fun hh =>
    ⟨hR.base.trans hh.base, hh.tape, hh.os, hh.output, hh.drawn, hh.size, hh.out, hh.imm, hh.low, fun r o ho => by
      have := hh.obj r o ho
      cases o <;> exact this, hh.inj, hh.fresh⟩
  have hr0 : RH { B with g0 := G } G h w := ⟨.refl G, hR.tape, hR.os, hR.output, hR.drawn, hR.size, hR.out, hR.imm, hR.low, fun r o ho => by
      have := hR.obj r o ho
      cases o <;> exact this, hR.inj, hR.fresh⟩
  have hw := hW { B with g0 := G } G { tmps := (ps.zip vs).foldl (fun tmps (t, a) => tmps.setIfInBounds t a) R.tmps, defers := [] } w ⟨hr0, z1, z2, ⟨rfl, fun i d r hd => by simp at hd⟩, fun r hr => hR.fresh r hr⟩
  refine wpIn_mono (F := Fence.wide.inRound l) hw ?_
  rintro e a1 w1 ⟨G1, s1, hr1, rfl, hl1, hW2⟩
  obtain ⟨R1, k1, k2, k3, _, _, _, _, _, k8, _⟩ := hr1.heap.setLoop (st' := .busy) (pe' := none) hl1
  have hb := run_beginRound (P := P) k1 k2
  have e1 : ({ R1 with state := .busy } : Loop) = { R1 with state := .busy, pending := none } := by rw [← k3]
  rw [e1] at hb
  refine ⟨_, hb, wpIn_mono (hW2 { B with g0 := G } G1 a1 _ ⟨k8, hr1.size, hr1.regs, hr1.defers, hr1.own⟩) ?_⟩
  rintro e a2 w2 ⟨G2, s2, hr2, hm, hq⟩
  cases e with
  | normal =>
    obtain ⟨⟨st, pe, ho⟩, hK⟩ := hq
    obtain ⟨R2, j1, _, _, _, _, _, _, _, j8, _⟩ := hr2.heap.setLoop (st' := .ready) (pe' := none) ho
    have he := run_endRound (P := P) none j1
    exact ⟨_, _, he, true, G2, _, rfl, hr2.heap.base, into j8, hK⟩
  | ret =>
    obtain ⟨⟨st, pe, ho⟩, hK⟩ := hq
    obtain ⟨R2, j1, _, _, _, _, _, _, _, j8, _⟩ := hr2.heap.setLoop (st' := .done) (pe' := some .ret) ho
    have he := run_endRound (P := P) (some .ret) j1
    exact ⟨_, _, he, false, G2, _, rfl, hr2.heap.base, into j8, hK⟩
  | exit i =>
    obtain ⟨⟨st, pe, ho⟩, hK⟩ := hq
    obtain ⟨R2, j1, _, _, _, _, _, _, _, j8, _⟩ := hr2.heap.setLoop (st' := .done) (pe' := some (.exit i)) ho
    have he := run_endRound (P := P) (some (.exit i)) j1
    exact ⟨_, _, he, false, G2, _, rfl, hr2.heap.base, into j8, hK⟩
  | goto t => exact hq.elim
  | panic c => exact hq.elim
  | outgrown => exact hq.elim
end
section
variable {P : Program} [GlobF P] {fr : Option Nat} {N : Nat} {Q : Exit → AS → Prop} {ops : Array Oper} {rest : List Oper} {rg : List (Nat × AV)} {h : List AObj} {mk : Mk} {ty : TypeId} {pos : String} {af : Array Edge} {d : Nat}
end
end Go.AL
namespace Go.AL
section
variable {P : Program} [GlobF P] {fr : Option Nat} {N : Nat} {Q : Exit → AS → Prop} {rg : List (Nat × AV)} {hp : List AObj} {mk : Mk}
theorem W_draw0 [Mix P] {id : Nat} {l : List Oper} (h0 : Nat.beq (laysN l) 0 = true) (h : WD P N l.toArray l [] (fun s' => Q .normal s') ⟨rg, hp, mk⟩) : W P fr N (.region id l.toArray true) Q ⟨rg, hp, mk⟩ :=
  W_draw (by rw [Nat.eq_of_beq_eq_true h0]; exact h)
theorem W_draw1 [Mix P] {id : Nat} {l : List Oper} (h0 : Nat.beq (laysN l) 1 = true) (h : WD P N l.toArray l [] (fun s' => Q .normal s') ⟨rg, hp ++ [.free], mk⟩) : W P fr N (.region id l.toArray true) Q ⟨rg, hp, mk⟩ :=
  W_draw (by rw [Nat.eq_of_beq_eq_true h0]; exact h)
theorem W_draw2 [Mix P] {id : Nat} {l : List Oper} (h0 : Nat.beq (laysN l) 2 = true) (h : WD P N l.toArray l [] (fun s' => Q .normal s') ⟨rg, hp ++ [.free] ++ [.free], mk⟩) : W P fr N (.region id l.toArray true) Q ⟨rg, hp, mk⟩ :=
  W_draw (by rw [Nat.eq_of_beq_eq_true h0]; exact h)
theorem W_draw3 [Mix P] {id : Nat} {l : List Oper} (h0 : Nat.beq (laysN l) 3 = true) (h : WD P N l.toArray l [] (fun s' => Q .normal s') ⟨rg, hp ++ [.free] ++ [.free] ++ [.free], mk⟩) : W P fr N (.region id l.toArray true) Q ⟨rg, hp, mk⟩ :=
  W_draw (by rw [Nat.eq_of_beq_eq_true h0]; exact h)
end
section
variable {P : Program} [GlobF P]
theorem ResL.nil {P0 : Program} {rg : List (Nat × AV)} {h : List AObj} : ResL P0 rg h [] [] := trivial
theorem ResL.cons {P0 : Program} {rg : List (Nat × AV)} {h : List AObj} {r : ResultVar} {rs : List ResultVar} {v : AV} {vs : List AV} (h1 : ResO P0 rg h r v) (h2 : ResL P0 rg h rs vs) : ResL P0 rg h (r :: rs) (v :: vs) := ⟨h1, h2⟩
variable {fn : Func} {s : AS} {r1 r2 r3 r4 : ResultVar} {v1 v2 v3 v4 u1 u2 u3 u4 : AV}
theorem rL1 (hf : fn.results = #[r1]) (hm : MarksOK s.marks.l s.heap) (h1 : ResO P s.regs (kill s.marks.l s.heap) r1 v1) (e1 : Le v1 u1) : Ret P fn (fun v' _ => Le v' u1) .ret s :=
  retL (vs := [v1]) (us := [u1]) (.inl rfl) (rs := [r1]) hf hm ⟨h1, trivial⟩ ⟨e1, trivial⟩
theorem rL2 (hf : fn.results = #[r1, r2]) (hm : MarksOK s.marks.l s.heap) (h1 : ResO P s.regs (kill s.marks.l s.heap) r1 v1) (h2 : ResO P s.regs (kill s.marks.l s.heap) r2 v2) (e1 : Le v1 u1) (e2 : Le v2 u2) : Ret P fn (fun v' _ => Le v' (.tu [u1, u2])) .ret s :=
  retL (vs := [v1, v2]) (us := [u1, u2]) (.inl rfl) (rs := [r1, r2]) hf hm ⟨h1, h2, trivial⟩ ⟨e1, e2, trivial⟩
end
end Go.AL
namespace Go.AL
section
variable {P : Program} [GlobF P] {fr : Option Nat} {N : Nat} {Q : Exit → AS → Prop} {s : AS} {ops : Array Oper} {rest : List Oper} {op : Op} {ty : TypeId} {pos : String} {af : Array Edge} {dst : Option Nat} {K : AS → Prop} {acc : List Sl}
theorem idG {g : Nat × Bool} (h : WL P fr N ops ({ dst := dst, op := op, type := ty, pos := pos, after := af, guard := some g } :: rest) Q s) : WL P fr N ops ({ dst := dst, op := op, type := ty, pos := pos, after := af, guard := some g } :: rest) Q s := h
theorem idA {t : TypeId} {g : Option (Nat × Bool)} (h : WL P fr N ops ({ dst := dst, op := .alloc t, type := ty, pos := pos, after := af, guard := g } :: rest) Q s) : WL P fr N ops ({ dst := dst, op := .alloc t, type := ty, pos := pos, after := af, guard := g } :: rest) Q s := h
theorem idS {t : TypeId} {x y : Operand} {g : Option (Nat × Bool)} (h : WL P fr N ops ({ dst := dst, op := .store t x y, type := ty, pos := pos, after := af, guard := g } :: rest) Q s) : WL P fr N ops ({ dst := dst, op := .store t x y, type := ty, pos := pos, after := af, guard := g } :: rest) Q s := h
theorem idLd {t : TypeId} {x : Operand} {g : Option (Nat × Bool)} (h : WL P fr N ops ({ dst := dst, op := .load t x, type := ty, pos := pos, after := af, guard := g } :: rest) Q s) : WL P fr N ops ({ dst := dst, op := .load t x, type := ty, pos := pos, after := af, guard := g } :: rest) Q s := h
theorem idC {c : Operand} {x y : Code} (h : W P fr N (.cond c x y) Q s) : W P fr N (.cond c x y) Q s := h
theorem idW {id : Nat} {l : Array Oper} (h : W P fr N (.region id l true) Q s) : W P fr N (.region id l true) Q s := h
theorem idB {i j : Nat} (h : inBlk i Q (.exit j) s) : inBlk i Q (.exit j) s := h
theorem idR {fn : Func} {K : AV → List AObj → Prop} {e : Exit} (h : Ret P fn K e s) : Ret P fn K e s := h
theorem idDg {g : Nat × Bool} (h : WD P N ops ({ dst := dst, op := op, type := ty, pos := pos, after := af, guard := some g } :: rest) acc K s) : WD P N ops ({ dst := dst, op := op, type := ty, pos := pos, after := af, guard := some g } :: rest) acc K s := h
theorem idDn (h : WD P N ops ({ dst := dst, op := op, type := ty, pos := pos, after := af, guard := none } :: rest) acc K s) : WD P N ops ({ dst := dst, op := op, type := ty, pos := pos, after := af, guard := none } :: rest) acc K s := h
end
end Go.AL
