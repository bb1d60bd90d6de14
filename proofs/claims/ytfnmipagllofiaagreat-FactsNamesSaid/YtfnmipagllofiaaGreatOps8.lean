/- The rules of the abstract logic, thirteenth part: arrays; calls upon a heap. No condition. -/
import Derived.Test.YtfnmipagllofiaaGreatOps25
import Derived.Laws.BytesArg
namespace Go.AL
section
variable {P : Program} [GlobF P] {ty : TypeId} {pos : String} {af : Array Edge} {dst : Option Nat} {gd : Option (Nat × Bool)} {ρ : Operand → Option AV}
theorem D_ixVA {t n e k : Nat} {x ix : Operand} {cells : List AV} {kk : IntKind} {i : Int} [hu : Und P t (.array n e)] [hs : Siz P e k] [ha : Agg P e true] (hx : ρ x = some (.ag cells)) (hi : ρ ix = some (.sc (.int kk i))) (h0 : 0 ≤ i) (h1 : i < n)
    : PPOp P { dst := dst, op := .index t x ix, type := ty, pos := pos, after := af, guard := gd } ρ (.ag ((cells.drop (i.toNat * k)).take k)) :=
  PPOp.val (by simp) (fun B G a w hR E => by
    have ex := E _ (by first | exact List.Mem.head _ | exact List.Mem.tail _ (List.Mem.head _)) _ hx
    have ei := conc_sc (E _ (by first | exact List.Mem.head _ | exact List.Mem.tail _ (List.Mem.head _)) _ hi)
    generalize hv : a.eval x = v at ex
    cases ex with
    | @ag cs _ l h =>
      have hc : ConcL G ((cs.drop (i.toNat * k)).take k) ((cells.drop (i.toNat * k)).take k) := (ConcL.drop ⟨l, h⟩ _).take _
      refine ⟨.agg ((cs.drop (i.toNat * k)).take k).toArray, ?_, .ag hc.1 hc.2⟩
      simp [execOp, Instr.index, hv, ei, asIntOf, run_underlying hu.h, h0, h1, hs.h, part, ha.h])
end
section
variable {P : Program} [GlobF P] {fr : Option Nat} {N : Nat} {Q : Exit → AS → Prop} {ops : Array Oper} {rest : List Oper} {rg : List (Nat × AV)} {h : List AObj} {mk : Mk} {ty : TypeId} {pos : String} {af : Array Edge} {d : Nat}
theorem WL_enterR {op : Op} {f : FuncId} {xs : List AV} {K : AV → List AObj → Prop} (hd : Nat.blt d N = true) (hdef : ∀ c, op ≠ .defer c) (hac : AC P f xs h K)
    (hop : ∀ (B : Base P) (G : Gh) (a : Act) (w : World), R B N G ⟨rg, h, mk⟩ a w → ∃ vs, (execOp a.eval { dst := some d, op := op, type := ty, pos := pos, after := af, guard := none }).run P w = (callFunc f vs.toArray).run P w ∧ ConcL G vs xs)
    (hk : ∀ v h', K v h' → WL P fr N ops rest Q ⟨(d, v) :: rg, h', mk⟩) :
    WL P fr N ops ({ dst := some d, op := op, type := ty, pos := pos, after := af, guard := none } :: rest) Q ⟨rg, h, mk⟩ :=
  WL_enter (s := ⟨rg, h, mk⟩) hd hdef hac hop hk
theorem m_call {x : Operand} {args : List Operand} {ts : Array TypeId} {f : FuncId} {xs : List AV} {K : AV → List AObj → Prop} (hac : AC P f xs h K) (hx : evR rg x = some (.sc (.func (.func f) #[] #[]))) (ha : opsO (evR rg) args = some xs) (hd : Nat.blt d N = true)
    (hk : ∀ v h', K v h' → WL P fr N ops rest Q ⟨(d, v) :: rg, h', mk⟩) :
    WL P fr N ops ({ dst := some d, op := .call { callee := .value x, args := args.toArray, argTypes := ts }, type := ty, pos := pos, after := af, guard := none } :: rest) Q ⟨rg, h, mk⟩ :=
  WL_enterR hd (by simp) hac (fun B G a w hR => ⟨args.map a.eval, by
    have ex := hR.ev x
    rw [show (⟨rg, h, mk⟩ : AS).ev x = _ from AS.evO_eq ((evR_eq rg h mk) ▸ hx)] at ex
    rw [exec_call (fs := []) (cs := []) a.eval (conc_sc ex)]; simp, opsO_conc ha fun x _ u hu => by
      have := hR.ev x
      rwa [show (⟨rg, h, mk⟩ : AS).ev x = u from AS.evO_eq ((evR_eq rg h mk) ▸ hu)] at this⟩) hk
theorem m_callC {x : Operand} {args : List Operand} {ts : Array TypeId} {f : FuncId} {xs ys zs : List AV} {K : AV → List AObj → Prop} (hac : AC P f zs h K) (hx : evR rg x = some (.fn (.func f) [] ys)) (ha : opsO (evR rg) args = some xs) (hz : zs = xs ++ ys) (hd : Nat.blt d N = true)
    (hk : ∀ v h', K v h' → WL P fr N ops rest Q ⟨(d, v) :: rg, h', mk⟩) :
    WL P fr N ops ({ dst := some d, op := .call { callee := .value x, args := args.toArray, argTypes := ts }, type := ty, pos := pos, after := af, guard := none } :: rest) Q ⟨rg, h, mk⟩ :=
  WL_enterR hd (by simp) hac (fun B G a w hR => by
    have ex := hR.ev x
    rw [show (⟨rg, h, mk⟩ : AS).ev x = _ from AS.evO_eq ((evR_eq rg h mk) ▸ hx)] at ex
    generalize hv : a.eval x = v at ex
    cases ex with
    | @fn _ fs cs _ _ l1 l2 h1 h2 =>
      have : fs = [] := by simpa using l1
      subst this
      subst hz
      exact ⟨args.map a.eval ++ cs, by rw [exec_call (fs := []) a.eval hv]; simp, ConcL.append (opsO_conc ha fun x _ u hu => by
        have := hR.ev x
        rwa [show (⟨rg, h, mk⟩ : AS).ev x = u from AS.evO_eq ((evR_eq rg h mk) ▸ hu)] at this) ⟨l2, h2⟩⟩) hk
theorem m_lit {t e n k by_ : Nat} {ps : List (Nat × Operand)} {els : List (List AV)} {z : Value} [hu : Und P t (.slice e)] [hs : Siz P e k] [hz : Zer P e z] [hi : Inf P e k by_ z]
    (hps : partsO (evR rg) 0 ps = some els) (hn : Nat.beq n ps.length = true) (hk : els.all (fun e => Nat.beq e.length k) = true) (hm : Nat.ble (n * k) 1000 = true) (hn1 : Nat.ble n 1000 = true) (hd : Nat.blt d N = true)
    (hw : WL P fr N ops rest Q ⟨(d, .sl (some h.length) k els) :: rg, h ++ [.tail n k e], mk⟩) :
    WL P fr N ops ({ dst := some d, op := .buildSlice t n ps.toArray, type := ty, pos := pos, after := af, guard := none } :: rest) Q ⟨rg, h, mk⟩ := by
  refine WL_resv 1 (pV (S_lit h.length ?_ hps hn hk hm hn1) hd ?_)
  · simp [resv]
  · have : (resv 1 h).set h.length (.tail n k e) = h ++ [.tail n k e] := by simp [resv]
    rw [this]; exact hw
theorem m_app {t e tk k n by_ : Nat} {x y : Operand} {els els' : List (List AV)} {tok' : Option Nat} {z : Value} [hu : Und P t (.slice e)] [hi : Inf P e k by_ z] [hone : OneLL els'] (hx : evR rg x = some (.sl (some tk) k els)) (hy : evR rg y = some (.sl tok' k els'))
    (ht : h[tk]? = some (.tail n k e)) (hn : n = els.length) (hk : Nat.blt 0 k = true) (hzk : Nat.beq z.cells.size k = true) (hb : (els.length + els'.length) * by_ ≤ 140737488355328) (h63 : els.length + els'.length < 4611686018427387904) (hd : Nat.blt d N = true)
    (hw : WL P fr N ops rest Q ⟨(d, .sl (some tk) k (els ++ els')) :: rg, h.set tk (.tail (els.length + els'.length) k e), mk⟩) :
    WL P fr N ops ({ dst := some d, op := .call { callee := .builtin .append, args := #[x, y], argTypes := #[t, t] }, type := ty, pos := pos, after := af, guard := none } :: rest) Q ⟨rg, h, mk⟩ :=
  pV (S_app hx hy ht hn hk hzk hb h63) hd hw
theorem m_appB {t e tk k n by_ : Nat} {x y : Operand} {els els' : List (List AV)} {tok' : Option Nat} {z : Value} [hu : Und P t (.slice e)] [hi : Inf P e k by_ z] (hx : evR rg x = some (.sl (some tk) k els)) (hy : evR rg y = some (.sl tok' k els')) (hone : els'.all (fun e => e.all AV.one) = true)
    (ht : h[tk]? = some (.tail n k e)) (hn : n = els.length) (hk : Nat.blt 0 k = true) (hzk : Nat.beq z.cells.size k = true) (hb : (els.length + els'.length) * by_ ≤ 140737488355328) (h63 : els.length + els'.length < 4611686018427387904) (hd : Nat.blt d N = true)
    (hw : WL P fr N ops rest Q ⟨(d, .sl (some tk) k (els ++ els')) :: rg, h.set tk (.tail (els.length + els'.length) k e), mk⟩) :
    WL P fr N ops ({ dst := some d, op := .call { callee := .builtin .append, args := #[x, y], argTypes := #[t, t] }, type := ty, pos := pos, after := af, guard := none } :: rest) Q ⟨rg, h, mk⟩ :=
  haveI : OneLL els' := ⟨fun e he => ⟨fun x hx => List.all_eq_true.1 (List.all_eq_true.1 hone e he) x hx⟩⟩
  m_app hx hy ht hn hk hzk hb h63 hd hw
end
theorem Le.tokq {tok : Option Nat} {k : Nat} {els els' : List (List AV)} (h : els = els') [hs : PurLL els'] : Le (.sl tok k els) (.sl none k els') := by
  subst h; exact Le.sl hs.h
theorem set_self {α : Type} {h : List α} {i : Nat} {x : α} (hi : h[i]? = some x) : h.set i x = h := by
  apply List.ext_getElem? ; intro j
  by_cases e : i = j
  · subst e; rw [List.getElem?_set_self (List.getElem?_eq_some_iff.1 hi).1, hi]
  · rw [List.getElem?_set_ne e]
theorem get_set {α : Type} {h : List α} {i : Nat} {x y : α} (hi : h[i]? = some x) : (h.set i y)[i]? = some y := List.getElem?_set_self (List.getElem?_eq_some_iff.1 hi).1
theorem u64w (n : Nat) (h : n < 18446744073709551616) : IntKind.u64.wrap (n : Int) = n := by
  simp only [IntKind.wrap, IntKind.bits, IntKind.signed, Bool.false_and, Bool.false_eq_true, if_false]
  omega
section
variable {P : Program} [GlobF P]
theorem ret0 {fn : Func} {e : Exit} {K : AV → List AObj → Prop} {rg : List (Nat × AV)} {h : List AObj} {mk : Mk} (he : e = .ret ∨ e = .normal) (hf : fn.results = #[]) (hm : mk.l = []) (hk : K (.tu []) h) : Ret P fn K e ⟨rg, h, mk⟩ := by
  obtain ⟨l, n0⟩ := mk
  simp only at hm; subst hm
  exact retK he (rs := []) (vs := []) hf trivial trivial hk
theorem retK1 {fn : Func} {e : Exit} {K : AV → List AObj → Prop} {rg : List (Nat × AV)} {h : List AObj} {mk : Mk} {r : ResultVar} {v : AV} (he : e = .ret ∨ e = .normal) (hf : fn.results = #[r]) (hm : mk.l = []) (hr : ResO P rg h r v) (hk : K v h) : Ret P fn K e ⟨rg, h, mk⟩ := by
  obtain ⟨l, n0⟩ := mk
  simp only at hm; subst hm
  exact retK he (rs := [r]) (vs := [v]) hf trivial ⟨hr, trivial⟩ hk
end
section
variable {P : Program} [GlobF P] {fr : Option Nat} {N : Nat} {Q : Exit → AS → Prop} {ops : Array Oper} {rest : List Oper} {s : AS} {ty : TypeId} {pos : String} {af : Array Edge} {dst : Option Nat}
theorem idAp {xs : Array Operand} {ts : Array TypeId} {g : Option (Nat × Bool)} (h : WL P fr N ops ({ dst := dst, op := .call { callee := .builtin .append, args := xs, argTypes := ts }, type := ty, pos := pos, after := af, guard := g } :: rest) Q s) : WL P fr N ops ({ dst := dst, op := .call { callee := .builtin .append, args := xs, argTypes := ts }, type := ty, pos := pos, after := af, guard := g } :: rest) Q s := h
end
end Go.AL

namespace Go.AL
section
variable {P : Program} [GlobF P] {fr : Option Nat} {N : Nat} {Q : Exit → AS → Prop} {ops : Array Oper} {rg : List (Nat × AV)} {h : List AObj} {mk : Mk}
theorem R.adoptC {B : Base P} {G : Gh} {a : Act} {w : World} {r j k e : Nat} {xs : List AV} {tp : Option TypeId} (hR : R B N G ⟨rg, h, mk⟩ a w) (hr0 : h[r]? = some (.cells xs tp)) (hj : xs[j]? = some (.sc (.slice none 0 0))) :
    ∃ G', R B N G' ⟨rg, (h ++ [AObj.tail 0 k e]).set r (.cells (xs.set j (.sl (some h.length) k [])) tp), mk⟩ a w := by
  have hr := hR.heap
  obtain ⟨f1, f2⟩ := hr.fresh h.length (Nat.le_refl _)
  let G' : Gh := ⟨G.imm, G.blk, fun r j => if r = h.length ∧ j = 0 then some (.slice none 0 0) else G.tl r j⟩
  have hle : G.le G' := ⟨fun _ _ _ e => e, fun _ _ e => e, fun r j v e => by
    show (if r = h.length ∧ j = 0 then _ else G.tl r j) = some v
    rw [if_neg fun h => by obtain ⟨rfl, rfl⟩ := h; rw [f2] at e; cases e]; exact e⟩
  have hh : RH B G' (h ++ [AObj.tail 0 k e]) w := by
    refine hr.allocObj _ hle rfl rfl rfl (Nat.le_refl _) (Nat.le_refl _) (fun _ _ => rfl) (fun _ _ _ => rfl) hr.imm (fun r hne => ⟨rfl, fun n => if_neg fun h => hne h.1⟩) ?_ (fun b hb => ?_)
    · exact ⟨fun j hj => by show (if h.length = h.length ∧ j = 0 then _ else _) = none; rw [if_neg fun h => by omega]; exact f2 j, .inl ⟨rfl, if_pos ⟨rfl, rfl⟩⟩⟩
    · simp only [ownBlk] at hb
      have e1 : G'.tl h.length 0 = some (.slice none 0 0) := if_pos ⟨rfl, rfl⟩
      rw [e1] at hb; cases hb
  have hlt : r < h.length := (List.getElem?_eq_some_iff.1 hr0).1
  have hr1 : (h ++ [AObj.tail 0 k e])[r]? = some (.cells xs tp) := by rw [List.getElem?_append_left hlt]; exact hr0
  obtain ⟨b, c, ty, g1, g2, g3, g4, g5⟩ := hh.obj r _ hr1
  have hc : ConcL G' c (xs.set j (.sl (some h.length) k [])) := ⟨by simp [g4.1], fun i v x hv hx => by
    by_cases e : j = i
    · subst e
      have hjl : j < xs.length := (List.getElem?_eq_some_iff.1 hj).1
      rw [List.getElem?_set_self hjl] at hx
      cases hx
      have := g4.2 j v _ hv hj
      rw [conc_sc this]
      exact .slnil fun t e => by cases e; exact if_pos ⟨rfl, rfl⟩
    · rw [List.getElem?_set_ne e] at hx
      exact g4.2 i v x hv hx⟩
  have hh2 := hh.set (w' := w) (b := b) (o' := .cells (xs.set j (.sl (some h.length) k [])) tp) hr1 g1 g2 rfl rfl rfl (Nat.le_refl _) rfl (fun _ _ => rfl) (fun i v hv => by rw [g5 i] at hv; cases hv) ⟨b, c, ty, g1, g2, g3, hc, g5⟩ (fun c hc => by
    simp only [ownBlk] at hc; rw [g1] at hc; exact (Option.some.inj hc).symm)
  exact ⟨G', hR.step hle hh2⟩
theorem W_adoptC {c : Code} (r j k e : Nat) {xs : List AV} {tp : Option TypeId} (hr0 : h[r]? = some (.cells xs tp)) (hj : xs[j]? = some (.sc (.slice none 0 0)))
    (hk : W P fr N c Q ⟨rg, (h ++ [AObj.tail 0 k e]).set r (.cells (xs.set j (.sl (some h.length) k [])) tp), mk⟩) : W P fr N c Q ⟨rg, h, mk⟩ := by
  intro B G a w hR
  obtain ⟨G', hR'⟩ := hR.adoptC (k := k) (e := e) hr0 hj
  exact hk B G' a w hR'
theorem WL_adoptC {l : List Oper} (r j k e : Nat) {xs : List AV} {tp : Option TypeId} (hr0 : h[r]? = some (.cells xs tp)) (hj : xs[j]? = some (.sc (.slice none 0 0)))
    (hk : WL P fr N ops l Q ⟨rg, (h ++ [AObj.tail 0 k e]).set r (.cells (xs.set j (.sl (some h.length) k [])) tp), mk⟩) : WL P fr N ops l Q ⟨rg, h, mk⟩ := by
  intro B G a w hR
  obtain ⟨G', hR'⟩ := hR.adoptC (k := k) (e := e) hr0 hj
  exact hk B G' a w hR'
end
section
variable {P : Program} [GlobF P] {ty : TypeId} {pos : String} {af : Array Edge} {dst : Option Nat} {gd : Option (Nat × Bool)} {ρ : Operand → Option AV}
theorem D_slVhM {α : Type} {t e k : Nat} {x z : Operand} {kk' : IntKind} {tok : Option Nat} {l : List α} {f : α → List AV} {j : Int} [hu : Und P t (.slice e)] [hs : Siz P e k] (hx : ρ x = some (.sl tok k (l.map f))) (hz : ρ z = some (.sc (.int kk' j)))
    (h1 : 0 ≤ j) (h2 : j ≤ l.length) : PPOp P { dst := dst, op := .slice t x none (some z) none, type := ty, pos := pos, after := af, guard := gd } ρ (.sl none k ((l.take j.toNat).map f)) := by
  have := D_slVh (P := P) (ty := ty) (pos := pos) (af := af) (dst := dst) (gd := gd) (t := t) hx hz h1 (by simpa using h2)
  simpa using this
theorem D_slVlM {α : Type} {t e k : Nat} {x y : Operand} {kk : IntKind} {tok : Option Nat} {l : List α} {f : α → List AV} {i : Int} [hu : Und P t (.slice e)] [hs : Siz P e k] (hx : ρ x = some (.sl tok k (l.map f))) (hy : ρ y = some (.sc (.int kk i)))
    (h0 : 0 ≤ i) (h2 : i ≤ l.length) : PPOp P { dst := dst, op := .slice t x (some y) none none, type := ty, pos := pos, after := af, guard := gd } ρ (.sl none k ((l.drop i.toNat).map f)) := by
  have := D_slVl (P := P) (ty := ty) (pos := pos) (af := af) (dst := dst) (gd := gd) (t := t) hx hy h0 (by simpa using h2)
  simpa using this
end
end Go.AL

namespace Go.AL
theorem stepR_scope {P : Program} {b : Frame} {a : Act} {k : List Item} {cs : List Frame} {w : World} {c : Code} : step P (lone (b.atR a (.code (.scope c) :: k)) cs w) = .next (lone (b.atR a (.code c :: .inScope c :: k)) cs w) :=
  step_lone_go (by simp [stepG, stepG.exec, Frame.atR])
theorem stepR_inScope {P : Program} {b : Frame} {a : Act} {k : List Item} {cs : List Frame} {w : World} {c : Code} : step P (lone (b.atR a (.inScope c :: k)) cs w) = .next (lone (b.atR a k) cs w) :=
  step_lone_go (by simp [stepG, stepG.exec, Frame.atR])
def scp (Q : Exit → AS → Prop) : Exit → AS → Prop
  | .goto _, _ => False
  | e, s => Q e s
def Exit.noJump (Q : Exit → Act → World → Prop) : Exit → Act → World → Prop
  | .goto _, _, _ => False
  | e, a, w => Q e a w
theorem wpIn_scope {F : Fence} {n : Nat} {P : Program} {Q : Exit → Act → World → Prop} {a : Act} {w : World} {c : Code} (h : c.wpIn F n P (Exit.noJump Q) a w) : (Code.scope c).wpIn F n P Q a w := by
  intro b k cs hro hb hr
  have h0 : (lone (b.atR a (.code (.scope c) :: k)) cs w).fenced P F := fenced_calm hb hr rfl
  obtain ⟨e, a₁, w₁, hq, harr⟩ := h b (.inScope c :: k) cs hro hb hr
  cases e with
  | normal => exact ⟨.normal, a₁, w₁, hq, .head h0 stepR_scope (StepsIn.trans harr (.one (fenced_calm hb hr rfl) stepR_inScope))⟩
  | exit id =>
    have hx : exitTo id (.inScope c :: k) = exitTo id k := by simp [exitTo]
    exact ⟨.exit id, a₁, w₁, hq, fun k' hk => .head h0 stepR_scope (harr.1 k' (by rw [hx]; exact hk)),
      fun hr' hk => let ⟨k₁, h1, h2⟩ := harr.2 hr' (by rw [hx]; exact hk); ⟨k₁, h1, .head h0 stepR_scope h2⟩⟩
  | goto l => exact hq.elim
  | ret => exact ⟨_, a₁, w₁, hq, .of_steps (.one h0 stepR_scope) harr⟩
  | panic ch => exact ⟨_, a₁, w₁, hq, .of_steps (.one h0 stepR_scope) harr⟩
  | outgrown => exact ⟨_, a₁, w₁, hq, .of_steps (.one h0 stepR_scope) harr⟩
section
variable {P : Program} [GlobF P] {fr : Option Nat} {N : Nat} {Q : Exit → AS → Prop} {s : AS}
theorem W_scope {c : Code} (h : W P fr N c (scp Q) s) : W P fr N (.scope c) Q s := by
  intro B G a w hr
  refine wpIn_scope (wpIn_mono (h B G a w hr) ?_)
  rintro e a' w' ⟨G', s', hr', hq⟩
  cases e with
  | goto l => exact hq.elim
  | normal => exact ⟨G', s', hr', hq⟩
  | exit i => exact ⟨G', s', hr', hq⟩
  | ret => exact ⟨G', s', hr', hq⟩
  | panic c => exact ⟨G', s', hr', hq⟩
  | outgrown => exact ⟨G', s', hr', hq⟩
end
section
variable {Q : Exit → AS → Prop} {s : AS}
theorem sn (h : Q .normal s) : scp Q .normal s := h
theorem sr (h : Q .ret s) : scp Q .ret s := h
end
section
variable {P : Program} [GlobF P] {fr : Option Nat} {N : Nat} {Q : Exit → AS → Prop} {ops : Array Oper} {rest : List Oper} {rg : List (Nat × AV)} {h : List AObj} {mk : Mk} {ty : TypeId} {pos : String} {af : Array Edge} {d : Nat}
theorem m_box {t : TypeId} {x : Operand} {u : AV} {cs : List AV} (hx : evR rg x = some u) (hu : cellsO u = some cs) (hd : Nat.blt d N = true)
    (hk : WL P fr N ops rest Q ⟨(d, .bp h.length 0) :: rg, h ++ [.cells cs], mk⟩) :
    WL P fr N ops ({ dst := some d, op := .box t x, type := ty, pos := pos, after := af, guard := none } :: rest) Q ⟨rg, h, mk⟩ :=
  WL_op (s := ⟨rg, h, mk⟩) hd (by simp) (fun B G a w hr => by
    have ex := hr.ev x
    rw [show (⟨rg, h, mk⟩ : AS).ev x = _ from AS.evO_eq ((evR_eq rg h mk) ▸ hx)] at ex
    have hcs := cellsO_conc ex hu
    obtain ⟨hle, hr'⟩ := hr.heap.allocBox (a.eval x).cells.toList cs t hcs 0
    have e : (a.eval x).cells.toList.toArray = (a.eval x).cells := Array.toArray_toList
    rw [e] at hr'
    exact ⟨.pointer (some ⟨w.heap.size, 0, none⟩), _, _, rfl, hle, hr', .bp (if_pos rfl)⟩) hk
end
section
variable {P : Program} [GlobF P] {ty : TypeId} {pos : String} {af : Array Edge} {dst : Option Nat} {gd : Option (Nat × Bool)} {ρ : Operand → Option AV}
end
end Go.AL

namespace Go.AL
inductive BdA (n : Nat) : AV → Prop
  | any : BdA n .any
  | sc (v : Value) : BdA n (.sc v)
  | sl {tok : Option Nat} {k : Nat} {els : List (List AV)} (ht : ∀ t, tok = some t → t < n) (h : ∀ e, e ∈ els → ∀ x, x ∈ e → BdA n x) : BdA n (.sl tok k els)
  | ep {cells : List AV} (h : ∀ x, x ∈ cells → BdA n x) : BdA n (.ep cells)
  | bp {r off : Nat} (h : r < n) : BdA n (.bp r off)
  | mr {r o m : Nat} (h : r < n) : BdA n (.mr r o m)
  | fn {f : Fn} {xs ys : List AV} (h1 : ∀ x, x ∈ xs → BdA n x) (h2 : ∀ x, x ∈ ys → BdA n x) : BdA n (.fn f xs ys)
  | ag {cells : List AV} (h : ∀ x, x ∈ cells → BdA n x) : BdA n (.ag cells)
  | tu {vs : List AV} (h : ∀ x, x ∈ vs → BdA n x) : BdA n (.tu vs)
def BdO (n : Nat) : AObj → Prop
  | .cells xs _ => ∀ x, x ∈ xs → BdA n x
  | .row _ _ els => ∀ e, e ∈ els → ∀ x, x ∈ e → BdA n x
  | .loopr _ _ _ _ _ rg _ _ => ∀ t, BdA n (look rg t)
  | _ => True
def BdH (h : List AObj) : Prop := ∀ o, o ∈ h → BdO h.length o
theorem BdA.mono {n m : Nat} (hnm : n ≤ m) {x : AV} (h : BdA n x) : BdA m x := by
  induction h with
  | any => exact .any
  | sc v => exact .sc v
  | sl ht h ih => exact .sl (fun t e => Nat.lt_of_lt_of_le (ht t e) hnm) ih
  | ep h ih => exact .ep ih
  | bp h => exact .bp (Nat.lt_of_lt_of_le h hnm)
  | mr h => exact .mr (Nat.lt_of_lt_of_le h hnm)
  | fn h1 h2 i1 i2 => exact .fn i1 i2
  | ag h ih => exact .ag ih
  | tu h ih => exact .tu ih
theorem BdO.mono {n m : Nat} (hnm : n ≤ m) {o : AObj} (h : BdO n o) : BdO m o := by
  cases o with
  | cells xs => exact fun x hx => (h x hx).mono hnm
  | row k e els => exact fun e he x hx => (h e he x hx).mono hnm
  | loopr l N ps assign body rg st pend => exact fun t => (h t).mono hnm
  | _ => trivial
def NoAbove (G : Gh) (n : Nat) : Prop := ∀ r, n ≤ r → G.blk r = none ∧ ∀ j, G.tl r j = none
theorem Conc.bd {G : Gh} {n : Nat} (hn : NoAbove G n) {v : Value} {x : AV} (h : Conc G v x) : BdA n x := by
  have hl : ∀ {r : Nat} {b : Nat}, G.blk r = some b → r < n := fun {r b} e => by
    rcases Nat.lt_or_ge r n with h | h
    · exact h
    · rw [(hn r h).1] at e; cases e
  have ht' : ∀ {r j : Nat} {u : Value}, G.tl r j = some u → r < n := fun {r j u} e => by
    rcases Nat.lt_or_ge r n with h | h
    · exact h
    · rw [(hn r h).2 j] at e; cases e
  have pw : ∀ {cs : List Value} {xs : List AV}, cs.length = xs.length → (∀ (i : Nat) (v : Value) (x : AV), cs[i]? = some v → xs[i]? = some x → BdA n x) → ∀ x, x ∈ xs → BdA n x := fun {cs xs} l ih x hx => by
    obtain ⟨i, hi, rfl⟩ := List.getElem_of_mem hx
    exact ih i cs[i] _ (List.getElem?_eq_getElem (l ▸ hi)) (List.getElem?_eq_getElem hi)
  induction h with
  | any v => exact .any
  | sc v => exact .sc v
  | sl us hk hcap him hc ht ih =>
    refine .sl (fun t e => ht' (ht t e)) fun e he x hx => ?_
    obtain ⟨i, hi, rfl⟩ := List.getElem_of_mem he
    obtain ⟨j, hj, rfl⟩ := List.getElem_of_mem hx
    exact ih i _ j _ (List.getElem?_eq_getElem hi) (List.getElem?_eq_getElem hj)
  | slnil ht => exact .sl (fun t e => ht' (ht t e)) fun e he => by cases he
  | slz => exact .sl (fun t e => by cases e) fun e he => by cases he
  | ep us him hc ih =>
    refine .ep fun x hx => ?_
    obtain ⟨j, hj, rfl⟩ := List.getElem_of_mem hx
    exact ih j _ (List.getElem?_eq_getElem hj)
  | bp h => exact .bp (hl h)
  | mr h hc ho => exact .mr (hl h)
  | fn l1 l2 h1 h2 ih1 ih2 => exact .fn (pw l1 ih1) (pw l2 ih2)
  | ag l h ih => exact .ag (pw l ih)
  | tu l h ih => exact .tu (pw l ih)
def cutN (G : Gh) (n : Nat) : Gh := ⟨G.imm, fun r => if r < n then G.blk r else none, fun r j => if r < n then G.tl r j else none⟩
theorem cutN_le {G G' : Gh} {n : Nat} (hn : NoAbove G n) (h : G.le G') : G.le (cutN G' n) := by
  refine ⟨h.imm, fun r b e => ?_, fun r j v e => ?_⟩
  · show (if r < n then G'.blk r else none) = some b
    rcases Nat.lt_or_ge r n with hr | hr
    · rw [if_pos hr]; exact h.blk r b e
    · rw [(hn r hr).1] at e; cases e
  · show (if r < n then G'.tl r j else none) = some v
    rcases Nat.lt_or_ge r n with hr | hr
    · rw [if_pos hr]; exact h.tl r j v e
    · rw [(hn r hr).2] at e; cases e
theorem Conc.cutN {G : Gh} {n : Nat} {v : Value} {x : AV} (h : Conc G v x) : BdA n x → Conc (cutN G n) v x := by
  have ht' : ∀ {r j : Nat} {u : Value}, r < n → G.tl r j = some u → (Go.AL.cutN G n).tl r j = some u := fun {r j u} hr e => by
    show (if r < n then G.tl r j else none) = some u
    rw [if_pos hr]; exact e
  induction h with
  | any v => exact fun _ => .any v
  | sc v => exact fun _ => .sc v
  | sl us hk hcap him hc ht ih =>
    intro hb
    cases hb with
    | sl bt bh => exact .sl us hk hcap him (fun i e j x he hx => ih i e j x he hx (bh e (List.mem_of_getElem? he) x (List.mem_of_getElem? hx))) (fun t e => ht' (bt t e) (ht t e))
  | slnil ht =>
    intro hb
    cases hb with
    | sl bt bh => exact .slnil fun t e => ht' (bt t e) (ht t e)
  | slz => exact fun _ => .slz
  | ep us him hc ih =>
    intro hb
    cases hb with
    | ep bh => exact .ep us him fun j x hx => ih j x hx (bh x (List.mem_of_getElem? hx))
  | @bp r off b h =>
    intro hb
    cases hb with
    | bp hr => exact .bp (show (if r < n then G.blk r else none) = some b by rw [if_pos hr]; exact h)
  | @mr r o n cap b o' h hc ho =>
    intro hb
    cases hb with
    | mr hr => exact .mr (show (if r < _ then G.blk r else none) = some b by rw [if_pos hr]; exact h) hc ho
  | fn l1 l2 h1 h2 ih1 ih2 =>
    intro hb
    cases hb with
    | fn b1 b2 => exact .fn l1 l2 (fun i v x hv hx => ih1 i v x hv hx (b1 x (List.mem_of_getElem? hx))) (fun i v x hv hx => ih2 i v x hv hx (b2 x (List.mem_of_getElem? hx)))
  | ag l h ih =>
    intro hb
    cases hb with
    | ag bh => exact .ag l fun i v x hv hx => ih i v x hv hx (bh x (List.mem_of_getElem? hx))
  | tu l h ih =>
    intro hb
    cases hb with
    | tu bh => exact .tu l fun i v x hv hx => ih i v x hv hx (bh x (List.mem_of_getElem? hx))
theorem ConcL.cutN {G : Gh} {n : Nat} {vs : List Value} {xs : List AV} (h : ConcL G vs xs) (hb : ∀ x, x ∈ xs → BdA n x) : ConcL (cutN G n) vs xs := ⟨h.1, fun i v x hv hx => (h.2 i v x hv hx).cutN (hb x (List.mem_of_getElem? hx))⟩
theorem ConcL.bd {G : Gh} {n : Nat} (hn : NoAbove G n) {vs : List Value} {xs : List AV} (h : ConcL G vs xs) : ∀ x, x ∈ xs → BdA n x := fun x hx => by
  obtain ⟨i, hi, rfl⟩ := List.getElem_of_mem hx
  exact (h.2 i (vs[i]'(h.1 ▸ hi)) _ (List.getElem?_eq_getElem (h.1 ▸ hi)) (List.getElem?_eq_getElem hi)).bd hn
section
variable {P : Program} [GlobF P]
theorem RH.bd {B : Base P} {G : Gh} {h : List AObj} {w : World} (hr : RH B G h w) : BdH h := fun o ho => by
  have hn : NoAbove G h.length := hr.fresh
  obtain ⟨r, hlt, rfl⟩ := List.getElem_of_mem ho
  have hok := hr.obj r _ (List.getElem?_eq_getElem hlt)
  generalize h[r] = o at hok
  cases o with
  | cells xs => obtain ⟨b, c, ty, g1, g2, g3, g4, g5⟩ := hok; exact g4.bd hn
  | loopr l N ps assign body rg st pend => obtain ⟨g1, g2, g3, fn, tm, db, g4, g5, g6⟩ := hok; exact fun t => (g6 t).bd hn
  | row k e els =>
    obtain ⟨o0, hk, h1⟩ := hok
    rcases h1 with ⟨rfl, _⟩ | ⟨g, cap, c, q1, q2, q3, q4, q5, q6, q7, q8⟩
    · exact fun e he => by cases he
    · exact fun e he x hx => q7.bd hn x (List.mem_flatten.2 ⟨e, he, hx⟩)
  | _ => trivial
theorem RH.cutN {B : Base P} {G : Gh} {h ex : List AObj} {w : World} (hr : RH B G (h ++ ex) w) (hb : BdH h) (h0 : NoAbove B.g0 h.length) : RH B (cutN G h.length) h w := by
  have hlt : ∀ {r : Nat} {o : AObj}, h[r]? = some o → r < h.length := fun e => (List.getElem?_eq_some_iff.1 e).1
  have hget : ∀ {r : Nat} {o : AObj}, h[r]? = some o → (h ++ ex)[r]? = some o := fun e => by rw [List.getElem?_append_left (hlt e)]; exact e
  have eb : ∀ {r : Nat}, r < h.length → (Go.AL.cutN G h.length).blk r = G.blk r := fun hr => if_pos hr
  have et : ∀ {r : Nat} (j : Nat), r < h.length → (Go.AL.cutN G h.length).tl r j = G.tl r j := fun j hr => if_pos hr
  refine ⟨cutN_le h0 hr.base, hr.tape, hr.os, hr.output, hr.drawn, hr.size, hr.out, hr.imm, hr.low, fun r o ho => ?_, fun r r' o o' b h1 h2 h3 h4 => ?_, fun r hr' => ⟨if_neg (by omega), fun n => if_neg (by omega)⟩⟩
  · have hok := hr.obj r o (hget ho)
    have hro := hlt ho
    have hbo := hb o (List.mem_of_getElem? ho)
    cases o with
    | dead => trivial
    | free => exact ⟨(eb hro).trans hok.1, fun n => (et n hro).trans (hok.2 n)⟩
    | cells xs => obtain ⟨b, c, ty, g1, g2, g3, g4, g5⟩ := hok; exact ⟨b, c, ty, (eb hro).trans g1, g2, g3, g4.cutN hbo, g5⟩
    | raw ob => obtain ⟨b, g1, g2, g3, g4⟩ := hok; exact ⟨b, (eb hro).trans g1, g2, g3, g4⟩
    | loopr l N ps assign body rg st pend => obtain ⟨g1, g2, g3, fn, tm, db, g4, g5, g6⟩ := hok; exact ⟨(eb hro).trans g1, g2, g3, fn, tm, db, g4, g5, fun t => (g6 t).cutN (hbo t)⟩
    | tail n k e =>
      obtain ⟨o0, h1⟩ := hok
      refine ⟨fun j hj => (et j hro).trans (o0 j hj), ?_⟩
      rcases h1 with ⟨h1, h2⟩ | ⟨g, cap, c, q1, q2⟩
      · exact .inl ⟨h1, (et 0 hro).trans h2⟩
      · exact .inr ⟨g, cap, c, (et n hro).trans q1, q2⟩
    | row k e els =>
      obtain ⟨o0, hk, h1⟩ := hok
      refine ⟨fun j hj => (et j hro).trans (o0 j hj), hk, ?_⟩
      rcases h1 with ⟨h1, h2⟩ | ⟨g, cap, c, q1, q2, q3, q4, q5, q6, q7, q8⟩
      · exact .inl ⟨h1, (et 0 hro).trans h2⟩
      · refine .inr ⟨g, cap, c, (et els.length hro).trans q1, q2, q3, q4, q5, q6, q7.cutN fun x hx => ?_, q8.1, (eb hro).trans q8.2⟩
        obtain ⟨e', he', hx'⟩ := List.mem_flatten.1 hx
        exact hbo e' he' x hx'
  · have c1 : ∀ {r : Nat} {o : AObj}, h[r]? = some o → ownBlk (Go.AL.cutN G h.length) r o = ownBlk G r o := fun e => ownBlk.congr (eb (hlt e)) (fun n => et n (hlt e)) _
    rw [c1 h1] at h3; rw [c1 h2] at h4
    exact hr.inj r r' o o' b (hget h1) (hget h2) h3 h4
theorem AC.cut {f : FuncId} {xs : List AV} {h : List AObj} {K K' : AV → List AObj → Prop} (ha : AC P f xs h K)
    (hk : BdH h → ∀ v h', K v h' → ∃ h'' ex, h' = h'' ++ ex ∧ h.length ≤ h''.length ∧ BdH h'' ∧ BdA h''.length v ∧ K' v h'') : AC P f xs h K' := by
  refine ⟨ha.1, fun B G w vs hr hc => ?_⟩
  refine (ha.2 B G w vs hr hc).mono ?_
  rintro e w' ⟨r, G', h', v, rfl, hg, hh, hv, hkv⟩
  obtain ⟨h'', ex, rfl, hl, hb, hbv, hk'⟩ := hk hr.bd v h' hkv
  have hn : NoAbove G h''.length := fun q hq => hr.fresh q (Nat.le_trans hl hq)
  have hn0 : NoAbove B.g0 h''.length := fun q hq => by
    obtain ⟨k1, k2⟩ := hn q hq
    refine ⟨?_, fun j => ?_⟩
    · cases e : B.g0.blk q with
      | none => rfl
      | some b => have := hr.base.blk _ _ e; rw [k1] at this; cases this
    · cases e : B.g0.tl q j with
      | none => rfl
      | some b => have := hr.base.tl _ _ _ e; rw [k2] at this; cases this
  exact ⟨r, cutN G' h''.length, h'', v, rfl, cutN_le hn hg, hh.cutN hb hn0, hv.cutN hbv, hk'⟩
theorem AC.bd {f : FuncId} {xs : List AV} {h : List AObj} {K : AV → List AObj → Prop} (he : Go.Proofs.Enters P f) (ha : BdH h → AC P f xs h K) : AC P f xs h K :=
  ⟨he, fun B G w vs hr hc => (ha hr.bd).2 B G w vs hr hc⟩
end
theorem get_last {α : Type} {h : List α} {x : α} : (h ++ [x])[h.length]? = some x := by simp
theorem get_app {α : Type} {h l : List α} {i : Nat} {x : α} (hi : h[i]? = some x) : (h ++ l)[i]? = some x := by rw [List.getElem?_append_left (List.getElem?_eq_some_iff.1 hi).1]; exact hi
theorem get_ne {α : Type} {h : List α} {i j : Nat} {x y : α} (hne : j ≠ i) (hi : h[i]? = some x) : (h.set j y)[i]? = some x := by rw [List.getElem?_set_ne hne]; exact hi
theorem get_lt {α : Type} {h : List α} {i : Nat} {x : α} (hi : h[i]? = some x) : i < h.length := (List.getElem?_eq_some_iff.1 hi).1
end Go.AL
