/- The rules of the abstract logic, fifth part: loops, with a state that is written out; weakening. No condition. -/
import Derived.Test.YtfnmipagllofiaaGreatDraw
import Derived.IntWalk
namespace Go.AL
def WkL : List (Nat × AV) → AS → Prop
  | [], _ => True
  | (t, v) :: l, s => lookO s.regs t = some v ∧ WkL l s
structure Wk (s s' : AS) : Prop where
  regs : WkL s'.regs s
  heap : s'.heap = s.heap
  marks : s'.marks = s.marks
theorem WkL.look : ∀ {l : List (Nat × AV)} {s : AS}, WkL l s → ∀ t, look l t = .any ∨ look l t = look s.regs t
  | [], _, _, _ => .inl rfl
  | (u, v) :: l, s, h, t => by
    simp only [Go.AL.look]
    cases hq : Nat.beq u t with
    | true =>
      have : u = t := Nat.eq_of_beq_eq_true hq
      subst this; exact .inr (lookO_eq h.1).symm
    | false => exact h.2.look t
theorem Wk.R {P : Program} [GlobF P] {s s' : AS} (h : Wk s s') {B : Base P} {N : Nat} {G : Gh} {a : Act} {w : World} (hr : R B N G s a w) : R B N G s' a w :=
  ⟨h.heap ▸ hr.heap, hr.size, fun t => by
    rcases h.regs.look t with e | e
    · rw [e]; exact .any _
    · rw [e]; exact hr.regs t, h.marks ▸ hr.defers, h.marks ▸ hr.own⟩
section
variable {P : Program} [GlobF P] {fr : Option Nat} {N : Nat} {Q : Exit → AS → Prop} {s : AS}
theorem W_weak {c : Code} {s' : AS} (hw : Wk s s') (h : W P fr N c Q s') : W P fr N c Q s := fun B G a w hr => h B G a w (hw.R hr)
def evR (rg : List (Nat × AV)) : Operand → Option AV
  | .tmp t => lookO rg t
  | .const v => some (.sc v)
  | .global g => some (.sc (.pointer (some ⟨g, 0, none⟩)))
  | .func f => some (.sc (.func (.func f) #[] #[]))
theorem evR_eq (rg : List (Nat × AV)) (hp : List AObj) (mk : Mk) : evR rg = (⟨rg, hp, mk⟩ : AS).evO := funext fun x => by cases x <;> rfl
class BP (b : Bool) (p q : outParam Prop) : Prop where
  t : b = true → p
  f : b = false → q
instance (priority := low) bpAny (b : Bool) : BP b (b = true) (b = false) := ⟨id, id⟩
instance (a b : Int) : BP (iLt a b) (a < b) (b ≤ a) := ⟨fun h => by rwa [iLt_t] at h, fun h => by rwa [iLt_f] at h⟩
instance (a b : Int) : BP (iLe a b) (a ≤ b) (b < a) := ⟨fun h => by rwa [iLe_t] at h, fun h => by rwa [iLe_f] at h⟩
instance (a b : Int) : BP (iEq a b) (a = b) (a ≠ b) := ⟨fun h => by rwa [iEq_t] at h, fun h => by rwa [iEq_f] at h⟩
instance (a b : List UInt8) : BP (sEq a b) (a = b) (a ≠ b) := ⟨fun h => by rwa [sEq_t] at h, fun h => by rwa [sEq_f] at h⟩
instance (b : Bool) (p q : Prop) [h : BP b p q] : BP (bNot b) q p := ⟨fun e => h.f (by rwa [bNot_t] at e), fun e => h.t (by rwa [bNot_f] at e)⟩
instance (a b : Bool) : BP (bEq a b) (a = b) (a ≠ b) := ⟨fun h => by rwa [bEq_t] at h, fun h => by rwa [bEq_f] at h⟩
theorem ieq {k : IntKind} {a b : Int} (h : a = b) : some (AV.sc (.int k a)) = some (.sc (.int k b)) := by rw [h]
theorem w64 (n : Int) (h1 : -9223372036854775808 ≤ n) (h2 : n ≤ 9223372036854775807) : IntKind.i64.wrap n = n := by
  exact IntWalk.i64_in n (by omega)
theorem wsucc (i : Nat) (h : i < 9223372036854775807) : IntKind.i64.wrap ((i : Int) + 1) = ((i + 1 : Nat) : Int) := by rw [w64 _ (by omega) (by omega)]; rfl
section
variable {ops : Array Oper} {rest : List Oper} {rg : List (Nat × AV)} {hp : List AObj} {mk : Mk} {op : Op} {ty : TypeId} {pos : String} {af : Array Edge} {d : Nat} {dst : Option Nat} {v : AV} {K : AS → Prop} {acc : List Sl}
theorem p1 (hop : PPOp P { dst := some d, op := op, type := ty, pos := pos, after := af, guard := none } (evR rg) v) (hd : Nat.blt d N = true)
    (h : WL P fr N ops rest Q ⟨(d, v) :: rg, hp, mk⟩) : WL P fr N ops ({ dst := some d, op := op, type := ty, pos := pos, after := af, guard := none } :: rest) Q ⟨rg, hp, mk⟩ := WL_p (evR_eq rg hp mk ▸ hop hp) hd h
theorem p1L (hop : POp P { dst := some d, op := op, type := ty, pos := pos, after := af, guard := none } (evR rg) hp v) (hd : Nat.blt d N = true)
    (h : WL P fr N ops rest Q ⟨(d, v) :: rg, hp, mk⟩) : WL P fr N ops ({ dst := some d, op := op, type := ty, pos := pos, after := af, guard := none } :: rest) Q ⟨rg, hp, mk⟩ := WL_p (evR_eq rg hp mk ▸ hop) hd h
theorem g1 {j t : Nat} {want : Bool} (hj : gdst ops j = some t) (hb : lookO rg t = some (.sc (.bool want))) (hop : PPOp P { dst := some d, op := op, type := ty, pos := pos, after := af, guard := none } (evR rg) v) (hd : Nat.blt d N = true)
    (h : WL P fr N ops rest Q ⟨(d, v) :: rg, hp, mk⟩) : WL P fr N ops ({ dst := some d, op := op, type := ty, pos := pos, after := af, guard := some (j, want) } :: rest) Q ⟨rg, hp, mk⟩ :=
  WL_guard_run rfl hj (lookO_eq hb) (p1 hop hd h)
theorem gr {j t : Nat} {want : Bool} (hj : gdst ops j = some t) (hb : lookO rg t = some (.sc (.bool want)))
    (h : WL P fr N ops ({ dst := some d, op := op, type := ty, pos := pos, after := af, guard := none } :: rest) Q ⟨rg, hp, mk⟩) : WL P fr N ops ({ dst := some d, op := op, type := ty, pos := pos, after := af, guard := some (j, want) } :: rest) Q ⟨rg, hp, mk⟩ :=
  WL_guard_run rfl hj (lookO_eq hb) h
theorem POp.guard {g g' : Option (Nat × Bool)} {dst : Option Nat} {ρ : Operand → Option AV} (h : POp P { dst := dst, op := op, type := ty, pos := pos, after := af, guard := g } ρ hp v) : POp P { dst := dst, op := op, type := ty, pos := pos, after := af, guard := g' } ρ hp v := by
  intro fr B G a w hr hE
  have := h fr B G a w hr hE
  simpa [Oper.wpIn, Oper.about, Oper.semAt, execOp, Oper.uponIn] using this
theorem POpS.guard {g g' : Option (Nat × Bool)} {dst : Option Nat} {ρ : Operand → Option AV} {rs : List Nat} {u : Option (Nat × AObj)} (h : POpS P { dst := dst, op := op, type := ty, pos := pos, after := af, guard := g } ρ hp rs v u) : POpS P { dst := dst, op := op, type := ty, pos := pos, after := af, guard := g' } ρ hp rs v u := by
  intro fr B G a w h' hl hs hr hE
  have := h fr B G a w h' hl hs hr hE
  simpa [Oper.wpIn, Oper.about, Oper.semAt, execOp, Oper.uponIn] using this
theorem dgr {j t : Nat} {want : Bool} (hj : gdst ops j = some t) (hb : lookO rg t = some (.sc (.bool want)))
    (h : WD P N ops ({ dst := dst, op := op, type := ty, pos := pos, after := af, guard := none } :: rest) acc K ⟨rg, hp, mk⟩) : WD P N ops ({ dst := dst, op := op, type := ty, pos := pos, after := af, guard := some (j, want) } :: rest) acc K ⟨rg, hp, mk⟩ := by
  obtain ⟨d', rs, v, u, h1, h2, hs, h3, h4⟩ := h
  refine ⟨d', rs, v, u, h1, h2, hs, ?_, h4⟩
  rcases h3 with ⟨_, h3⟩ | ⟨j', want', t', b', h3, _⟩ | ⟨j', want', t', h3, _⟩
  · exact .inr (.inl ⟨j, want, t, want, rfl, hj, lookO_eq hb, .inl ⟨rfl, h3.guard⟩⟩)
  · cases h3
  · cases h3
theorem g0 {j t : Nat} {want b : Bool} (hj : gdst ops j = some t) (hb : lookO rg t = some (.sc (.bool b))) (hne : (b == want) = false) (hd : Nat.blt d N = true)
    (h : WL P fr N ops rest Q ⟨(d, .sc undef) :: rg, hp, mk⟩) : WL P fr N ops ({ dst := some d, op := op, type := ty, pos := pos, after := af, guard := some (j, want) } :: rest) Q ⟨rg, hp, mk⟩ :=
  WL_guard_skip rfl rfl hd hj (lookO_eq hb) hne h
theorem g0t {j t : Nat} (hj : gdst ops j = some t) (hb : lookO rg t = some (.sc (.bool false))) (hd : Nat.blt d N = true)
    (h : WL P fr N ops rest Q ⟨(d, .sc undef) :: rg, hp, mk⟩) : WL P fr N ops ({ dst := some d, op := op, type := ty, pos := pos, after := af, guard := some (j, true) } :: rest) Q ⟨rg, hp, mk⟩ := g0 hj hb rfl hd h
theorem g0f {j t : Nat} (hj : gdst ops j = some t) (hb : lookO rg t = some (.sc (.bool true))) (hd : Nat.blt d N = true)
    (h : WL P fr N ops rest Q ⟨(d, .sc undef) :: rg, hp, mk⟩) : WL P fr N ops ({ dst := some d, op := op, type := ty, pos := pos, after := af, guard := some (j, false) } :: rest) Q ⟨rg, hp, mk⟩ := g0 hj hb rfl hd h
theorem g0u {j t : Nat} {want : Bool} (hj : gdst ops j = some t) (hb : lookO rg t = some (.sc undef)) (hd : Nat.blt d N = true)
    (h : WL P fr N ops rest Q ⟨(d, .sc undef) :: rg, hp, mk⟩) : WL P fr N ops ({ dst := some d, op := op, type := ty, pos := pos, after := af, guard := some (j, want) } :: rest) Q ⟨rg, hp, mk⟩ := WL_guard_undef rfl rfl hd hj (lookO_eq hb) h
theorem gs {j t : Nat} {want b : Bool} {p q : Prop} [hbp : BP b p q] (hj : gdst ops j = some t) (hb : lookO rg t = some (.sc (.bool b))) (ht : p → WL P fr N ops ({ dst := some d, op := op, type := ty, pos := pos, after := af, guard := some (j, want) } :: rest) Q ⟨(t, .sc (.bool true)) :: rg, hp, mk⟩)
    (hf : q → WL P fr N ops ({ dst := some d, op := op, type := ty, pos := pos, after := af, guard := some (j, want) } :: rest) Q ⟨(t, .sc (.bool false)) :: rg, hp, mk⟩) :
    WL P fr N ops ({ dst := some d, op := op, type := ty, pos := pos, after := af, guard := some (j, want) } :: rest) Q ⟨rg, hp, mk⟩ := WL_gsplit rfl hj (lookO_eq hb) (fun e => ht (hbp.t e)) (fun e => hf (hbp.f e))
theorem d1 (hop : PPOp P { dst := some d, op := op, type := ty, pos := pos, after := af, guard := none } (evR rg) v) (hd : Nat.blt d N = true)
    (h : WD P N ops rest (([], none) :: acc) K ⟨(d, v) :: rg, hp, mk⟩) : WD P N ops ({ dst := some d, op := op, type := ty, pos := pos, after := af, guard := none } :: rest) acc K ⟨rg, hp, mk⟩ :=
  WD_s (u := none) (.inl ⟨rfl, evR_eq rg hp mk ▸ POpS.of hop⟩) (fun d' e => by cases e; simpa [Nat.blt_eq] using hd) trivial h
theorem dL (r : Nat) (hop : ∀ hp', hp'[r]? = hp[r]? → POp P { dst := some d, op := op, type := ty, pos := pos, after := af, guard := none } (evR rg) hp' v) (hd : Nat.blt d N = true)
    (h : WD P N ops rest (([r], none) :: acc) K ⟨(d, v) :: rg, hp, mk⟩) : WD P N ops ({ dst := some d, op := op, type := ty, pos := pos, after := af, guard := none } :: rest) acc K ⟨rg, hp, mk⟩ :=
  WD_s (rs := [r]) (u := none) (.inl ⟨rfl, evR_eq rg hp mk ▸ fun fr B G a w h' _ hs hr hE => hop h' (hs r (.head _)) fr B G a w hr hE⟩) (fun d' e => by cases e; simpa [Nat.blt_eq] using hd) trivial h
theorem dS {r : Nat} {o : AObj} (hop : POpS P { dst := none, op := op, type := ty, pos := pos, after := af, guard := none } (evR rg) hp [r] v (some (r, o))) (hr : Nat.blt r hp.length = true)
    (h : WD P N ops rest (([r], some r) :: acc) K ⟨rg, hp.set r o, mk⟩) : WD P N ops ({ dst := none, op := op, type := ty, pos := pos, after := af, guard := none } :: rest) acc K ⟨rg, hp, mk⟩ :=
  WD_s (rs := [r]) (u := some (r, o)) (.inl ⟨rfl, evR_eq rg hp mk ▸ hop⟩) (fun d' e => by cases e) ⟨.head _, by simpa [Nat.blt_eq] using hr⟩ h
theorem dV {r : Nat} {o : AObj} (hop : POpS P { dst := some d, op := op, type := ty, pos := pos, after := af, guard := none } (evR rg) hp [r] v (some (r, o))) (hr : Nat.blt r hp.length = true) (hd : Nat.blt d N = true)
    (h : WD P N ops rest (([r], some r) :: acc) K ⟨(d, v) :: rg, hp.set r o, mk⟩) : WD P N ops ({ dst := some d, op := op, type := ty, pos := pos, after := af, guard := none } :: rest) acc K ⟨rg, hp, mk⟩ :=
  WD_s (rs := [r]) (u := some (r, o)) (.inl ⟨rfl, evR_eq rg hp mk ▸ hop⟩) (fun d' e => by cases e; simpa [Nat.blt_eq] using hd) ⟨.head _, by simpa [Nat.blt_eq] using hr⟩ h
theorem WL_s {s : AS} {dst : Option Nat} {rs : List Nat} {u : Option (Nat × AObj)} (hop : POpS P { dst := dst, op := op, type := ty, pos := pos, after := af, guard := none } s.evO s.heap rs v u) (hd : ∀ d', dst = some d' → d' < N)
    (h : WL P fr N ops rest Q (s.eff dst v u)) : WL P fr N ops ({ dst := dst, op := op, type := ty, pos := pos, after := af, guard := none } :: rest) Q s := by
  intro B G a w hr
  refine wpListIn_plain rfl fun K hK => ?_
  refine wpIn_false ?_ (hop fr B G a w _ rfl (fun _ _ => rfl) hr.heap fun x _ u hu => by rw [evO_some] at hu; cases hu; exact hr.ev x)
  rintro a' w' ⟨r, G', rfl, hg', hh, hv⟩
  refine hK _ _ (h B G' _ w' ?_)
  have hR := hr.step hg' hh
  cases dst with
  | none => exact hR
  | some d => exact hR.put (hd d rfl) hv
theorem pS {rs : List Nat} {r : Nat} {o : AObj} (hop : POpS P { dst := none, op := op, type := ty, pos := pos, after := af, guard := none } (evR rg) hp rs v (some (r, o)))
    (h : WL P fr N ops rest Q ⟨rg, hp.set r o, mk⟩) : WL P fr N ops ({ dst := none, op := op, type := ty, pos := pos, after := af, guard := none } :: rest) Q ⟨rg, hp, mk⟩ :=
  WL_s (s := ⟨rg, hp, mk⟩) (u := some (r, o)) (evR_eq rg hp mk ▸ hop) (fun d' e => by cases e) h
theorem pV {rs : List Nat} {r : Nat} {o : AObj} (hop : POpS P { dst := some d, op := op, type := ty, pos := pos, after := af, guard := none } (evR rg) hp rs v (some (r, o))) (hd : Nat.blt d N = true)
    (h : WL P fr N ops rest Q ⟨(d, v) :: rg, hp.set r o, mk⟩) : WL P fr N ops ({ dst := some d, op := op, type := ty, pos := pos, after := af, guard := none } :: rest) Q ⟨rg, hp, mk⟩ :=
  WL_s (s := ⟨rg, hp, mk⟩) (u := some (r, o)) (evR_eq rg hp mk ▸ hop) (fun d' e => by cases e; simpa [Nat.blt_eq] using hd) h
theorem dg0 {j t : Nat} {want b : Bool} (hj : gdst ops j = some t) (hb : lookO rg t = some (.sc (.bool b))) (hne : (b == want) = false) (hd : Nat.blt d N = true)
    (h : WD P N ops rest (([], none) :: acc) K ⟨(d, .sc undef) :: rg, hp, mk⟩) : WD P N ops ({ dst := some d, op := op, type := ty, pos := pos, after := af, guard := some (j, want) } :: rest) acc K ⟨rg, hp, mk⟩ :=
  WD_skip hj (lookO_eq hb) hne hd h
theorem dg0t {j t : Nat} (hj : gdst ops j = some t) (hb : lookO rg t = some (.sc (.bool false))) (hd : Nat.blt d N = true)
    (h : WD P N ops rest (([], none) :: acc) K ⟨(d, .sc undef) :: rg, hp, mk⟩) : WD P N ops ({ dst := some d, op := op, type := ty, pos := pos, after := af, guard := some (j, true) } :: rest) acc K ⟨rg, hp, mk⟩ := dg0 hj hb rfl hd h
theorem dg0f {j t : Nat} (hj : gdst ops j = some t) (hb : lookO rg t = some (.sc (.bool true))) (hd : Nat.blt d N = true)
    (h : WD P N ops rest (([], none) :: acc) K ⟨(d, .sc undef) :: rg, hp, mk⟩) : WD P N ops ({ dst := some d, op := op, type := ty, pos := pos, after := af, guard := some (j, false) } :: rest) acc K ⟨rg, hp, mk⟩ := dg0 hj hb rfl hd h
theorem dg0u {j t : Nat} {want : Bool} (hj : gdst ops j = some t) (hb : lookO rg t = some (.sc undef)) (hd : Nat.blt d N = true)
    (h : WD P N ops rest (([], none) :: acc) K ⟨(d, .sc undef) :: rg, hp, mk⟩) : WD P N ops ({ dst := some d, op := op, type := ty, pos := pos, after := af, guard := some (j, want) } :: rest) acc K ⟨rg, hp, mk⟩ := WD_undef hj (lookO_eq hb) hd h
theorem dgs {j t : Nat} {want b : Bool} {p q : Prop} [hbp : BP b p q] (hj : gdst ops j = some t) (hb : lookO rg t = some (.sc (.bool b))) (ht : p → WD P N ops ({ dst := some d, op := op, type := ty, pos := pos, after := af, guard := some (j, want) } :: rest) acc K ⟨(t, .sc (.bool true)) :: rg, hp, mk⟩)
    (hf : q → WD P N ops ({ dst := some d, op := op, type := ty, pos := pos, after := af, guard := some (j, want) } :: rest) acc K ⟨(t, .sc (.bool false)) :: rg, hp, mk⟩) :
    WD P N ops ({ dst := some d, op := op, type := ty, pos := pos, after := af, guard := some (j, want) } :: rest) acc K ⟨rg, hp, mk⟩ := WD_gsplit rfl hj (lookO_eq hb) (fun e => ht (hbp.t e)) (fun e => hf (hbp.f e))
end
theorem W_condS {t : Nat} {x y : Code} {b : Bool} (hb : look s.regs t = .sc (.bool b)) (ht : b = true → W P fr N x Q (s.put t (.sc (.bool true)))) (hf : b = false → W P fr N y Q (s.put t (.sc (.bool false)))) : W P fr N (.cond (.tmp t) x y) Q s := by
  have eqv : ∀ c, b = c → Eqv s (s.put t (.sc (.bool c))) := fun c hc => ⟨fun u => by
    simp only [AS.put, look]
    cases hq : Nat.beq t u with
    | true => have : t = u := Nat.eq_of_beq_eq_true hq; subst this; rw [hb, hc]
    | false => rfl, rfl, rfl⟩
  refine W_cond (b := b) hb (fun h B G a w hr => ht h B G a w ((eqv _ h).R hr)) (fun h B G a w hr => hf h B G a w ((eqv _ h).R hr))
theorem c1 {t : Nat} {x y : Code} {rg : List (Nat × AV)} {hp : List AObj} {mk : Mk} (hb : lookO rg t = some (.sc (.bool true))) (h : W P fr N x Q ⟨rg, hp, mk⟩) : W P fr N (.cond (.tmp t) x y) Q ⟨rg, hp, mk⟩ := W_condT (lookO_eq hb) h
theorem c0 {t : Nat} {x y : Code} {rg : List (Nat × AV)} {hp : List AObj} {mk : Mk} (hb : lookO rg t = some (.sc (.bool false))) (h : W P fr N y Q ⟨rg, hp, mk⟩) : W P fr N (.cond (.tmp t) x y) Q ⟨rg, hp, mk⟩ := W_condF (lookO_eq hb) h
theorem cs {t : Nat} {x y : Code} {b : Bool} {p q : Prop} [hbp : BP b p q] {rg : List (Nat × AV)} {hp : List AObj} {mk : Mk} (hb : lookO rg t = some (.sc (.bool b))) (ht : p → W P fr N x Q ⟨(t, .sc (.bool true)) :: rg, hp, mk⟩)
    (hf : q → W P fr N y Q ⟨(t, .sc (.bool false)) :: rg, hp, mk⟩) : W P fr N (.cond (.tmp t) x y) Q ⟨rg, hp, mk⟩ := W_condS (lookO_eq hb) (fun e => ht (hbp.t e)) (fun e => hf (hbp.f e))
theorem tn {nx : AS → Prop} (h : nx s) : thn nx Q .normal s := h
theorem tr {nx : AS → Prop} (h : Q .ret s) : thn nx Q .ret s := h
theorem te {nx : AS → Prop} {i : Nat} (h : Q (.exit i) s) : thn nx Q (.exit i) s := h
theorem bn {i : Nat} (h : Q .normal s) : inBlk i Q .normal s := h
theorem br {i : Nat} (h : Q .ret s) : inBlk i Q .ret s := h
theorem bh {i j : Nat} (hj : Nat.beq j i = true) (h : Q .normal s) : inBlk i Q (.exit j) s := by simp only [inBlk, hj]; exact h
theorem bm {i j : Nat} (hj : Nat.beq j i = false) (h : Q (.exit j) s) : inBlk i Q (.exit j) s := by simp only [inBlk, hj]; exact h
theorem ret1 {fn : Func} {t : Nat} {v v' : AV} {s : AS} (hf : fn.results = #[.tmp t]) (hm : s.marks.l = []) (hv : lookO s.regs t = some v') (hle : Le v' v) : Ret P fn (fun v' _ => Le v' v) .ret s := by
  show MarksOK s.marks.l s.heap ∧ _
  rw [hm]
  exact ⟨trivial, v', ResOf.one hf (lookO_eq hv), hle⟩
theorem ret2 {fn : Func} {t t2 : Nat} {v1 v2 u1 u2 : AV} {s : AS} (hf : fn.results = #[.tmp t, .tmp t2]) (hm : s.marks.l = []) (hv : lookO s.regs t = some v1) (hv2 : lookO s.regs t2 = some v2) (hle : Le v1 u1) (hle2 : Le v2 u2) : Ret P fn (fun v' _ => Le v' (.tu [u1, u2])) .ret s := by
  show MarksOK s.marks.l s.heap ∧ _
  rw [hm]
  refine ⟨trivial, .tu [v1, v2], ResOf.two hf (lookO_eq hv) (lookO_eq hv2), fun G v h => ?_⟩
  cases h with
  | tu l h =>
    have hc : ConcL G _ _ := ⟨l, h⟩
    have := LeL.conc (xs := [v1, v2]) (ys := [u1, u2]) ⟨hle, hle2, trivial⟩ hc
    exact .tu this.1 this.2
theorem Le.bool {b b' : Bool} (h : b = b') : Le (.sc (.bool b)) (.sc (.bool b')) := h ▸ Le.of_eq rfl
theorem Le.int {k : IntKind} {b b' : Int} (h : b = b') : Le (.sc (.int k b)) (.sc (.int k b')) := h ▸ Le.of_eq rfl
theorem Le.str {b b' : List UInt8} (h : b = b') : Le (str b) (str b') := h ▸ Le.of_eq rfl
theorem W_loopL {X : Type} {c : Code} (st : X → List (Nat × AV)) (hp : X → List AObj) (I : X → Prop) (μ : X → Nat) (x0 : X) (h0 : I x0) (hs : WkL (st x0) s) (hh : hp x0 = s.heap)
    (h : ∀ x, I x → W P fr N c (thn (fun s' => s'.marks = s.marks ∧ ∃ x', I x' ∧ μ x' < μ x ∧ WkL (st x') s' ∧ hp x' = s'.heap) Q) ⟨st x, hp x, s.marks⟩) : W P fr N (.loop c) Q s := by
  refine W_weak (s' := ⟨st x0, hp x0, s.marks⟩) ⟨hs, hh, rfl⟩ ?_
  intro B G a w hr
  let p : Act → World → Nat → Prop := fun a w n => ∃ x G', I x ∧ R B N G' ⟨st x, hp x, s.marks⟩ a w ∧ μ x = n
  have hmin : ∀ a w, (∃ n, p a w n) → ∃ n, p a w n ∧ ∀ m, p a w m → n ≤ m := fun a w => least (p a w)
  refine wpIn_loop (fun a w => ∃ n, p a w n) (fun a w => Classical.epsilon fun n => p a w n ∧ ∀ m, p a w m → n ≤ m) ⟨μ x0, x0, G, h0, hr, rfl⟩ ?_
  intro a w hI
  have he := Classical.epsilon_spec (hmin a w hI)
  generalize (Classical.epsilon fun n => p a w n ∧ ∀ m, p a w m → n ≤ m) = k at he
  obtain ⟨⟨x, G1, hx, hr1, rfl⟩, -⟩ := he
  refine wpIn_mono (h x hx B G1 a w hr1) ?_
  rintro e a' w' ⟨G2, s', hr2, hq⟩
  cases e <;> simp only [thn, Exit.then] at hq ⊢
  case normal =>
    obtain ⟨hm, x', hx', hlt, hwk, hhp⟩ := hq
    have hp : p a' w' (μ x') := ⟨x', G2, hx', Wk.R (s := s') (s' := ⟨st x', hp x', s.marks⟩) ⟨hwk, hhp, hm.symm⟩ hr2, rfl⟩
    exact ⟨⟨_, hp⟩, Nat.lt_of_le_of_lt ((Classical.epsilon_spec (hmin a' w' ⟨_, hp⟩)).2 _ hp) hlt⟩
  all_goals exact ⟨G2, s', hr2, hq⟩
end
end Go.AL
