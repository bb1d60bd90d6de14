/- The rules of the abstract logic, third part: new memory that stays; elements; slices; conversions. No condition. -/
import Derived.Test.YtfnmipagllofiaaGreatOps29
import Derived.Laws.BytesString
namespace Go.AL
def cellsO : AV → Option (List AV)
  | .ag cs => some cs
  | .sc (.agg _) => none
  | .sc (.tuple _) => none
  | .sc v => some [.sc v]
  | .any => none
  | .tu _ => none
  | x => some [x]
theorem cellsO_conc {G : Gh} {v : Value} {x : AV} {cs : List AV} (h : Conc G v x) (hc : cellsO x = some cs) : ConcL G v.cells.toList cs := by
  cases h with
  | any v => simp [cellsO] at hc
  | sc v => cases v <;> simp [cellsO] at hc <;> subst hc <;> exact .cons (.sc _) (.nil _)
  | sl us hk hcap him hc' ht => simp [cellsO] at hc; subst hc; exact .cons (.sl us hk hcap him hc' ht) (.nil _)
  | slnil ht => simp [cellsO] at hc; subst hc; exact .cons (.slnil ht) (.nil _)
  | slz => simp [cellsO] at hc; subst hc; exact .cons .slz (.nil _)
  | ep us him hc' => simp [cellsO] at hc; subst hc; exact .cons (.ep us him hc') (.nil _)
  | bp hb => simp [cellsO] at hc; subst hc; exact .cons (.bp hb) (.nil _)
  | mr hb hn ho => simp [cellsO] at hc; subst hc; exact .cons (.mr hb hn ho) (.nil _)
  | fn l1 l2 h1 h2 => simp [cellsO] at hc; subst hc; exact .cons (.fn l1 l2 h1 h2) (.nil _)
  | ag l h => simp [cellsO] at hc; subst hc; exact ⟨by simpa [Value.cells] using l, by simpa [Value.cells] using h⟩
  | tu l h => simp [cellsO] at hc
theorem RH.allocImm {P : Program} [GlobF P] {B : Base P} {G : Gh} {h : List AObj} {w : World} (hr : RH B G h w) (c : List Value) (ty : TypeId) (fz : Nat × Nat) (n : Nat) :
    G.le ⟨fun b o => if b = w.heap.size then c[o]? else G.imm b o, G.blk, G.tl⟩ ∧
      RH B ⟨fun b o => if b = w.heap.size then c[o]? else G.imm b o, G.blk, G.tl⟩ h { w with heap := w.heap.push (.cells c.toArray ty fz), drawn := w.drawn + n } := by
  refine hr.grown ⟨rfl, rfl, rfl, by simp, by simp, fun b hb => ?_⟩ (fun b o hb => ?_) (fun b o u hu => ?_)
  · rw [Array.getElem?_push_lt hb]; exact (Array.getElem?_eq_getElem hb).symm
  · rw [if_neg (by omega)]
  · by_cases e : b = w.heap.size
    · subst e
      simpa [World.cell?] using hu
    · rw [if_neg e] at hu
      have := hr.imm b o u hu
      unfold World.cell? at this ⊢
      rw [Array.getElem?_push, if_neg e]; exact this
section
variable {P : Program} [GlobF P] {fr : Option Nat} {N : Nat} {Q : Exit → AS → Prop} {s : AS} {ops : Array Oper} {rest : List Oper} {ty : TypeId} {pos : String} {af : Array Edge} {dst : Option Nat} {gd : Option (Nat × Bool)} {ρ : Operand → Option AV} {hp : List AObj}
theorem run_newVar {P0 : Program} (t : TypeId) (v : Value) (w : World) : (newVar t v).run P0 w = .ok ⟨w.heap.size, 0, none⟩ (w.alloc (.cells v.cells t)) := rfl
theorem D_box {t : TypeId} {x : Operand} {v : AV} {cs : List AV} (hx : ρ x = some v) (hc : cellsO v = some cs) : PPOp P { dst := dst, op := .box t x, type := ty, pos := pos, after := af, guard := gd } ρ (.ep cs) :=
  PPOp.op (by simp) (fun B G a w hR E => by
    have hv := E _ (by first | exact List.Mem.head _ | exact List.Mem.tail _ (List.Mem.head _) | exact List.Mem.tail _ (List.Mem.tail _ (List.Mem.head _))) _ hx
    have hcs := cellsO_conc hv hc
    obtain ⟨hle, hr'⟩ := hR.allocImm (a.eval x).cells.toList t (0, 0) 0
    have e : (a.eval x).cells.toList.toArray = (a.eval x).cells := Array.toArray_toList
    rw [e] at hr'
    exact ⟨.pointer (some ⟨w.heap.size, 0, none⟩), _, _, rfl, hle, hr', ep_mk (hcs.mono hle) (fun j u hu => by simpa using hu)⟩)
theorem sl_inv {G : Gh} {v : Value} {tok : Option Nat} {k : Nat} {els : List (List AV)} (h : Conc G v (.sl tok k els)) (i : Nat) (hi : i < els.length) :
    ∃ b o cap, v = .slice (some ⟨b, o, none⟩) els.length cap ∧ els.length ≤ cap ∧ Conc G (.pointer (some ⟨b, o + i * k, none⟩)) (.ep els[i]) := by
  cases h with
  | @sl b o cap _ _ _ us hk hcap him hc ht =>
    refine ⟨b, o, cap, rfl, hcap, .ep (fun j => us i j) (fun j hj => him i j hi (by rw [← hk _ (List.getElem_mem hi)]; exact hj)) (fun j x hx => hc i _ j x (List.getElem?_eq_getElem hi) hx)⟩
  | slnil => simp at hi
  | slz => simp at hi
theorem D_idxA0 {t e : TypeId} {x ix : Operand} {tok : Option Nat} {k : Nat} {els : List (List AV)} {kk : IntKind} {i : Int} [hu : Und P t (.slice e)] [hs : Siz P e k] (hx : ρ x = some (.sl tok k els)) (hi : ρ ix = some (.sc (.int kk i))) (h0 : 0 ≤ i) (h1 : i.toNat < els.length)
    : PPOp P { dst := dst, op := .indexAddr t x ix, type := ty, pos := pos, after := af, guard := gd } ρ (.ep els[i.toNat]) :=
  PPOp.val (by simp) (fun B G a w hR E => by
    obtain ⟨b, o, cap, hv, hcap, hp⟩ := sl_inv (E _ (by first | exact List.Mem.head _ | exact List.Mem.tail _ (List.Mem.head _) | exact List.Mem.tail _ (List.Mem.tail _ (List.Mem.head _))) _ hx) i.toNat h1
    have h2 : i < (els.length : Int) := by omega
    exact ⟨.pointer (some ⟨b, o + i.toNat * k, none⟩), by simp [execOp, Instr.indexAt, hv, conc_sc (E _ (by first | exact List.Mem.head _ | exact List.Mem.tail _ (List.Mem.head _) | exact List.Mem.tail _ (List.Mem.tail _ (List.Mem.head _))) _ hi), asIntOf, run_underlying hu.h, hs.h, h0, h2, add_none], hp⟩)
theorem D_idxA {α : Type} {t e : TypeId} {x ix : Operand} {tok : Option Nat} {k : Nat} {l : List α} {f : α → List AV} {kk : IntKind} {i : Int} [hu : Und P t (.slice e)] [hs : Siz P e k] (hx : ρ x = some (.sl tok k (l.map f))) (hi : ρ ix = some (.sc (.int kk i))) (h0 : 0 ≤ i) (h1 : i.toNat < l.length) :
    PPOp P { dst := dst, op := .indexAddr t x ix, type := ty, pos := pos, after := af, guard := gd } ρ (.ep (f l[i.toNat])) := by
  have := D_idxA0 (P := P) (ty := ty) (pos := pos) (af := af) (dst := dst) (gd := gd) (t := t) hx hi h0 (by simpa using h1)
  simpa using this
theorem D_idxAn {α : Type} {t e : TypeId} {x ix : Operand} {tok : Option Nat} {k : Nat} {l : List α} {f : α → List AV} {kk : IntKind} {j : Nat} [hu : Und P t (.slice e)] [hs : Siz P e k] (hx : ρ x = some (.sl tok k (l.map f))) (hi : ρ ix = some (.sc (.int kk (j : Int)))) (h1 : j < l.length) :
    PPOp P { dst := dst, op := .indexAddr t x ix, type := ty, pos := pos, after := af, guard := gd } ρ (.ep (f l[j])) := D_idxA hx hi (Int.natCast_nonneg j) h1
theorem D_ext {x : Operand} {i : Nat} {vs : List AV} {v : AV} (hx : ρ x = some (.tu vs)) (hv : vs[i]? = some v) : PPOp P { dst := dst, op := .extract x i, type := ty, pos := pos, after := af, guard := gd } ρ v :=
  PPOp.val (by simp) (fun B G a w hR E => by
    have e := E _ (by first | exact List.Mem.head _ | exact List.Mem.tail _ (List.Mem.head _) | exact List.Mem.tail _ (List.Mem.tail _ (List.Mem.head _))) _ hx
    generalize he : a.eval x = u at e
    cases e with
    | @tu cs xs l hcs =>
      have hi : i < cs.length := by rw [l]; exact (List.getElem?_eq_some_iff.1 hv).1
      exact ⟨cs[i], by simp [execOp, he, Instr.extract, hi], hcs i _ v (List.getElem?_eq_getElem hi) hv⟩)
abbrev byteC (b : UInt8) : List AV := [.sc (.int .u8 (b.toNat : Int))]
abbrev bytesAV (l : List UInt8) : AV := .sl none 1 (l.map byteC)
theorem sl_new {G : Gh} {b cap k : Nat} {els : List (List AV)} {c : List Value} (hk : ∀ e, e ∈ els → e.length = k) (hcap : els.length ≤ cap)
    (hi : ∀ (j : Nat) (u : Value), c[j]? = some u → G.imm b j = some u) (hlen : els.length * k ≤ c.length)
    (hc : ∀ (i : Nat) (e : List AV) (j : Nat) (x : AV) (u : Value), els[i]? = some e → e[j]? = some x → c[i * k + j]? = some u → Conc G u x) : Conc G (.slice (some ⟨b, 0, none⟩) els.length cap) (.sl none k els) := by
  have hin : ∀ i j, i < els.length → j < k → i * k + j < c.length := fun i j h1 h2 => by
    have : (i + 1) * k ≤ els.length * k := Nat.mul_le_mul_right k h1
    rw [Nat.succ_mul] at this
    omega
  refine .sl (fun i j => (c[i * k + j]?).getD undef) hk hcap (fun i j h1 h2 => ?_) (fun i e j x he hx => ?_) (fun t e => by cases e)
  · have h3 := hin i j h1 h2
    rw [List.getElem?_eq_getElem h3]
    have := hi (i * k + j) _ (List.getElem?_eq_getElem h3)
    simpa [Nat.add_assoc] using this
  · have h1 : i < els.length := (List.getElem?_eq_some_iff.1 he).1
    have h2 : j < k := by rw [← hk e (List.mem_of_getElem? he)]; exact (List.getElem?_eq_some_iff.1 hx).1
    have h3 := hin i j h1 h2
    rw [List.getElem?_eq_getElem h3]
    exact hc i e j x _ he hx (List.getElem?_eq_getElem h3)
theorem run_choose {P0 : Program} (q : Question) (hq : q.forced = false) (w : World) : (choose q).run P0 w = .ok (q.cut (w.tape w.drawn q)) { w with drawn := w.drawn + 1 } := by
  simp [choose, Sem.run, hq]
theorem push_modify {α : Type} (a : Array α) (x : α) (f : α → α) : (a.push x).modify a.size f = a.push (f x) := by
  apply Array.ext (by simp)
  intro i h1 h2
  simp only [Array.getElem_modify, Array.getElem_push]
  split <;> split <;> first | rfl | omega | (simp_all; done) | skip
  all_goals (simp at h2; omega)
theorem D_s2b {t t' e : TypeId} {x : Operand} {l : List UInt8} [hs : Und P t .string] [hu : Und P t' (.slice e)] [he : Und P e (.int .u8)] (hx : ρ x = some (str l)) : PPOp P { dst := dst, op := .convert t t' x, type := ty, pos := pos, after := af, guard := gd } ρ (bytesAV l) :=
  PPOp.op (by simp) (fun B G a w hR E => by
    let q : Question := .appendCap l.length 0 e
    let cap := q.cut (w.tape w.drawn q)
    have hcap : l.length ≤ cap := by simp [cap, q, Question.cut]
    let c : List Value := l.map (fun b => Value.int .u8 (b.toNat : Int)) ++ List.replicate (cap - l.length) (.int .u8 0)
    obtain ⟨hle, hr'⟩ := hR.allocImm c e (c.length, c.length + 1) 1
    refine ⟨.slice (some ⟨w.heap.size, 0, none⟩) l.length cap, _, _, ?_, hle, hr', ?_⟩
    · have e1 : (ByteArray.mk l.toArray).size = l.length := rfl
      have e2 : (Array.map (fun b : UInt8 => Value.int .u8 (b.toNat : Int)) l.toArray ++ Array.replicate (cap - l.length) (Value.int .u8 0)) = c.toArray := by simp [c]
      have hsz : c.length = l.length + (cap - l.length) := by simp [c]
      simp only [execOp, conc_sc (E _ (by first | exact List.Mem.head _ | exact List.Mem.tail _ (List.Mem.head _) | exact List.Mem.tail _ (List.Mem.tail _ (List.Mem.head _))) _ hx), convert, Sem.run_bind, run_underlying hs.h, run_underlying hu.h, run_underlying he.h, Result.andThen, Conv.stringToBytes, e1, run_choose (P0 := P) (.appendCap l.length 0 e) rfl]
      simp only [newRow, Sem.run_bind, newObj, Sem.run, Result.andThen, Sem.run_pure]
      rw [show (Array.map (fun b : UInt8 => Value.int .u8 (b.toNat : Int)) (ByteArray.mk l.toArray).data ++ Array.replicate (Question.cut (.appendCap l.length 0 e) (w.tape w.drawn (.appendCap l.length 0 e)) - l.length) (Value.int .u8 0)) = c.toArray from e2]
      simp [markStringish, shape, Sem.run, Sem.run_bind, Result.andThen, World.shape?, freeze, World.freeze, c, hsz]
      rw [show List.replicate (cap - l.length) (Value.int .u8 0) = List.replicate (cap - l.length) (Value.int .u8 0) from rfl]
      simp [push_modify]
      rfl
    · refine (show (bytesAV l) = .sl none 1 (l.map byteC) from rfl) ▸ ?_
      have := sl_new (G := ⟨fun b o => if b = w.heap.size then c[o]? else G.imm b o, G.blk, G.tl⟩) (b := w.heap.size) (cap := cap) (k := 1) (els := l.map byteC) (c := c)
        (fun e he => by obtain ⟨b, _, rfl⟩ := List.mem_map.1 he; rfl) (by simpa using hcap) (fun j u hu => by simpa using hu) (by simp [c]) (fun i e j x u he hx hu => by
          simp only [List.getElem?_map, Option.map_eq_some_iff] at he
          obtain ⟨b, hb, rfl⟩ := he
          have hj : j = 0 := by
            have := (List.getElem?_eq_some_iff.1 hx).1
            simpa using this
          subst hj
          have hi : i < l.length := (List.getElem?_eq_some_iff.1 hb).1
          simp at hx; subst hx
          have hb' : b = l[i] := by rw [List.getElem?_eq_getElem hi] at hb; cases hb; rfl
          simp [c, List.getElem?_append_left, hi] at hu
          subst hu; subst hb'; exact .sc _)
      simpa using this)
end
end Go.AL

namespace Go.AL
structure Eqv (s s' : AS) : Prop where
  regs : ∀ t, look s.regs t = look s'.regs t
  heap : s.heap = s'.heap
  marks : s.marks = s'.marks
theorem Eqv.refl (s : AS) : Eqv s s := ⟨fun _ => rfl, rfl, rfl⟩
theorem Eqv.symm {s s' : AS} (h : Eqv s s') : Eqv s' s := ⟨fun t => (h.regs t).symm, h.heap.symm, h.marks.symm⟩
theorem Eqv.trans {a b c : AS} (h : Eqv a b) (h' : Eqv b c) : Eqv a c := ⟨fun t => (h.regs t).trans (h'.regs t), h.heap.trans h'.heap, h.marks.trans h'.marks⟩
theorem Eqv.put {s s' : AS} (h : Eqv s s') (d : Nat) (v : AV) : Eqv (s.put d v) (s'.put d v) := ⟨fun t => by simp only [AS.put, look]; cases Nat.beq d t; exact h.regs t; rfl, h.heap, h.marks⟩
theorem Eqv.evO {s s' : AS} (h : Eqv s s') : s.evO = s'.evO := funext fun x => by
  rw [evO_some, evO_some]; cases x <;> simp only [AS.ev]; rw [h.regs]
theorem Eqv.R {P : Program} [GlobF P] {s s' : AS} (h : Eqv s s') {B : Base P} {N : Nat} {G : Gh} {a : Act} {w : World} (hr : R B N G s a w) : R B N G s' a w :=
  ⟨h.heap ▸ hr.heap, hr.size, fun t => h.regs t ▸ hr.regs t, h.marks ▸ hr.defers, h.marks ▸ hr.own⟩
section
variable {P : Program} [GlobF P] {fr : Option Nat} {N : Nat} {ops : Array Oper}
abbrev Sl := List Nat × Option Nat
def appU (u : Option (Nat × AObj)) (h : List AObj) : List AObj := match u with
  | none => h
  | some (r, o) => h.set r o
def AS.eff (s : AS) (d : Option Nat) (v : AV) (u : Option (Nat × AObj)) : AS := match d with
  | none => { s with heap := appU u s.heap }
  | some d => (({ s with heap := appU u s.heap } : AS)).put d v
theorem appU_length (u : Option (Nat × AObj)) (h : List AObj) : (appU u h).length = h.length := by
  cases u <;> simp [appU]
def POpS (P : Program) [GlobF P] (o : Oper) (ρ : Operand → Option AV) (hp : List AObj) (rs : List Nat) (v : AV) (u : Option (Nat × AObj)) : Prop :=
  ∀ (fr : Option Nat) (B : Base P) (G : Gh) (a : Act) (w : World) (h : List AObj), h.length = hp.length → (∀ r, r ∈ rs → h[r]? = hp[r]?) → RH B G h w → (∀ x, x ∈ o.op.operands.toList → ∀ u, ρ x = some u → Conc G (a.eval x) u) →
    o.wpIn (fence fr) 0 P a w (fun a' w' => ∃ r G', a' = a.put o.dst r ∧ G.le G' ∧ RH B G' (appU u h) w' ∧ Conc G' r v) (fun _ _ _ => False)
theorem POpS.of {o : Oper} {ρ : Operand → Option AV} {hp : List AObj} {v : AV} (h : ∀ hp', POp P o ρ hp' v) : POpS P o ρ hp [] v none :=
  fun fr B G a w h' _ _ hr hE => h h' fr B G a w hr hE
def OpOK (P : Program) [GlobF P] (ops : Array Oper) (o : Oper) (s : AS) (rs : List Nat) (v : AV) (u : Option (Nat × AObj)) : Prop :=
  (o.guard = none ∧ POpS P o s.evO s.heap rs v u) ∨
  (∃ j want t b, o.guard = some (j, want) ∧ gdst ops j = some t ∧ look s.regs t = .sc (.bool b) ∧ ((b = want ∧ POpS P o s.evO s.heap rs v u) ∨ (b ≠ want ∧ v = .sc undef ∧ u = none))) ∨
  (∃ j want t, o.guard = some (j, want) ∧ gdst ops j = some t ∧ look s.regs t = .sc undef ∧ v = .sc undef ∧ u = none)
def SlOK (s : AS) (rs : List Nat) (u : Option (Nat × AObj)) : Prop := match u with
  | none => True
  | some (r, _) => r ∈ rs ∧ r < s.heap.length
def masks : List Oper → List Nat → List Nat
  | [], acc => acc
  | o :: l, acc => masks l (acc ++ [o.after.foldl (fun m e => if Region.binds .any e then m ||| 2 ^ e.on ||| acc.getD e.on 0 else m) 0])
def temps (xs : Array Operand) : List Nat := xs.toList.filterMap fun | .tmp t => some t | _ => none
def looks (ops : Array Oper) (o : Oper) : List Nat := temps o.op.operands ++ (match o.guard with | some (j, _) => (gdst ops j).toList | none => [])
def confl (l : List Oper) (sl : List Sl) (i j : Nat) : Bool := match l[i]?, l[j]? with
  | some o, some p => (match p.dst with
      | some d => (looks l.toArray o).contains d || o.dst == some d
      | none => false) ||
    (match sl[j]? with
      | some (_, some r) => (match sl[i]? with
        | some (rs, _) => rs.contains r
        | none => true)
      | _ => false)
  | _, _ => false
def ordOK (ms : List Nat) (l : List Oper) (sl : List Sl) : Bool :=
  Nat.beq sl.length l.length && (List.range l.length).all fun i => match l[i]? with
    | some o => o.after.all (fun e => !Region.binds .any e || Nat.blt e.on i) &&
      (List.range l.length).all fun j => (i == j) || (if confl l sl i j then (ms.getD i 0).testBit j || (ms.getD j 0).testBit i else true)
    | none => true
def drawOK (l : List Oper) (sl : List Sl) : Bool := ordOK (masks l []) l sl
def WD (P : Program) [GlobF P] (N : Nat) (ops : Array Oper) : List Oper → List Sl → (AS → Prop) → AS → Prop
  | [], acc, K, s => drawOK ops.toList acc.reverse = true ∧ ∃ s', Eqv s s' ∧ K s'
  | o :: l, acc, K, s => ∃ d rs v u, o.dst = d ∧ (∀ d', d = some d' → d' < N) ∧ SlOK s rs u ∧ OpOK P ops o s rs v u ∧ WD P N ops l ((rs, u.map (·.1)) :: acc) K (s.eff d v u)
theorem Eqv.eff {s s' : AS} (h : Eqv s s') (d : Option Nat) (v : AV) (u : Option (Nat × AObj)) : Eqv (s.eff d v u) (s'.eff d v u) := by
  cases d with
  | none => exact ⟨h.regs, by simp only [AS.eff]; rw [h.heap], h.marks⟩
  | some d => exact Eqv.put (s := { s with heap := appU u s.heap }) (s' := { s' with heap := appU u s'.heap }) ⟨h.regs, by show appU u s.heap = appU u s'.heap; rw [h.heap], h.marks⟩ d v
theorem OpOK.congr {o : Oper} {s s' : AS} {rs : List Nat} {v : AV} {u : Option (Nat × AObj)} (he : Eqv s s') (h : OpOK P ops o s rs v u) : OpOK P ops o s' rs v u := by
  rcases h with ⟨h1, h2⟩ | ⟨j, want, t, b, h1, h2, h3, h4⟩ | ⟨j, want, t, h1, h2, h3, h4⟩
  · exact .inl ⟨h1, he.evO ▸ he.heap ▸ h2⟩
  · exact .inr (.inl ⟨j, want, t, b, h1, h2, (he.regs t) ▸ h3, h4.imp (fun h => ⟨h.1, he.evO ▸ he.heap ▸ h.2⟩) id⟩)
  · exact .inr (.inr ⟨j, want, t, h1, h2, (he.regs t) ▸ h3, h4⟩)
theorem WD.congr : ∀ {l : List Oper} {acc : List Sl} {K : AS → Prop} {s s' : AS}, Eqv s s' → WD P N ops l acc K s → WD P N ops l acc K s'
  | [], _, _, _, _, he, ⟨h0, s1, h1, h2⟩ => ⟨h0, s1, he.symm.trans h1, h2⟩
  | _ :: _, _, _, _, _, he, ⟨d, rs, v, u, h1, h2, hs, h3, h4⟩ => ⟨d, rs, v, u, h1, h2, by
      revert hs; unfold SlOK; cases u <;> simp only [he.heap]; exact id; exact id, h3.congr he, h4.congr (he.eff d v u)⟩
variable {K : AS → Prop} {s : AS} {rest : List Oper} {op : Op} {ty : TypeId} {pos : String} {af : Array Edge} {d : Nat} {v : AV} {acc : List Sl}
theorem WD_nil (hok : drawOK ops.toList acc.reverse = true) (h : K s) : WD P N ops [] acc K s := ⟨hok, s, .refl s, h⟩
theorem WD_s {dst : Option Nat} {gd : Option (Nat × Bool)} {rs : List Nat} {u : Option (Nat × AObj)} (hok : OpOK P ops { dst := dst, op := op, type := ty, pos := pos, after := af, guard := gd } s rs v u) (hd : ∀ d', dst = some d' → d' < N) (hs : SlOK s rs u)
    (h : WD P N ops rest ((rs, u.map (·.1)) :: acc) K (s.eff dst v u)) : WD P N ops ({ dst := dst, op := op, type := ty, pos := pos, after := af, guard := gd } :: rest) acc K s := ⟨dst, rs, v, u, rfl, hd, hs, hok, h⟩
theorem WD_skip {j t : Nat} {want b : Bool} (hj : gdst ops j = some t) (hb : look s.regs t = .sc (.bool b)) (hne : (b == want) = false) (hd : Nat.blt d N = true) (h : WD P N ops rest (([], none) :: acc) K (s.put d (.sc undef))) :
    WD P N ops ({ dst := some d, op := op, type := ty, pos := pos, after := af, guard := some (j, want) } :: rest) acc K s := ⟨some d, [], .sc undef, none, rfl, fun d' e => by cases e; simpa [Nat.blt_eq] using hd, trivial, .inr (.inl ⟨j, want, t, b, rfl, hj, hb, .inr ⟨by simpa using hne, rfl, rfl⟩⟩), h⟩
theorem WD_undef {j t : Nat} {want : Bool} (hj : gdst ops j = some t) (hb : look s.regs t = .sc undef) (hd : Nat.blt d N = true) (h : WD P N ops rest (([], none) :: acc) K (s.put d (.sc undef))) :
    WD P N ops ({ dst := some d, op := op, type := ty, pos := pos, after := af, guard := some (j, want) } :: rest) acc K s := ⟨some d, [], .sc undef, none, rfl, fun d' e => by cases e; simpa [Nat.blt_eq] using hd, trivial, .inr (.inr ⟨j, want, t, rfl, hj, hb, rfl, rfl⟩), h⟩
theorem WD_split {t : Nat} {b : Bool} {l : List Oper} (hb : look s.regs t = .sc (.bool b)) (ht : b = true → WD P N ops l acc K (s.put t (.sc (.bool true)))) (hf : b = false → WD P N ops l acc K (s.put t (.sc (.bool false)))) : WD P N ops l acc K s := by
  have key : ∀ c, b = c → Eqv (s.put t (.sc (.bool c))) s := fun c hc => ⟨fun u => by
    simp only [AS.put, look]
    cases hq : Nat.beq t u with
    | true => have : t = u := Nat.eq_of_beq_eq_true hq; subst this; rw [hb, hc]
    | false => rfl, rfl, rfl⟩
  cases b with
  | true => exact (ht rfl).congr (key _ rfl)
  | false => exact (hf rfl).congr (key _ rfl)
theorem WD_gsplit {o : Oper} {j t : Nat} {want b : Bool} (_ho : o.guard = some (j, want)) (_hj : gdst ops j = some t) (hb : look s.regs t = .sc (.bool b)) (ht : b = true → WD P N ops (o :: rest) acc K (s.put t (.sc (.bool true))))
    (hf : b = false → WD P N ops (o :: rest) acc K (s.put t (.sc (.bool false)))) : WD P N ops (o :: rest) acc K s := WD_split hb ht hf
def stS (ds : Nat → Option Nat) (vs : Nat → AV) (us : Nat → Option (Nat × AObj)) (S : Nat → Bool) (s : AS) : Nat → AS
  | 0 => s
  | n + 1 => if S n then (stS ds vs us S s n).eff (ds n) (vs n) (us n) else stS ds vs us S s n
def lastW (ds : Nat → Option Nat) (S : Nat → Bool) (t : Nat) : Nat → Option Nat
  | 0 => none
  | n + 1 => if S n && ds n == some t then some n else lastW ds S t n
theorem look_eff (s : AS) (d : Option Nat) (v : AV) (u : Option (Nat × AObj)) (t : Nat) : look (s.eff d v u).regs t = if d == some t then v else look s.regs t := by
  cases d with
  | none => simp [AS.eff]
  | some d =>
    simp only [AS.eff, AS.put, look]
    cases hq : Nat.beq d t with
    | true => have : d = t := Nat.eq_of_beq_eq_true hq; simp [this]
    | false =>
      have : ¬ d = t := fun e => by rw [e] at hq; simp at hq
      simp [this]
theorem heap_eff (s : AS) (d : Option Nat) (v : AV) (u : Option (Nat × AObj)) : (s.eff d v u).heap = appU u s.heap ∧ (s.eff d v u).marks = s.marks := by
  cases d <;> exact ⟨rfl, rfl⟩
theorem look_stS (ds : Nat → Option Nat) (vs : Nat → AV) (us : Nat → Option (Nat × AObj)) (S : Nat → Bool) (s : AS) (t : Nat) : ∀ n, look (stS ds vs us S s n).regs t = match lastW ds S t n with
    | none => look s.regs t
    | some i => vs i
  | 0 => rfl
  | n + 1 => by
    simp only [stS, lastW]
    by_cases hS : S n = true
    · simp only [hS, if_true, Bool.true_and]
      rw [look_eff]
      by_cases hd : (ds n == some t) = true
      · rw [if_pos hd, if_pos hd]
      · rw [if_neg hd, if_neg hd]; exact look_stS ds vs us S s t n
    · simp only [hS, Bool.false_and, Bool.false_eq_true, if_false]; exact look_stS ds vs us S s t n
def uAt (us : Nat → Option (Nat × AObj)) (i : Nat) : Option AObj := (us i).map (·.2)
theorem slot_appU (u : Option (Nat × AObj)) (h : List AObj) (r : Nat) (hr : r < h.length) : (appU u h)[r]? = if u.map (·.1) == some r then u.map (·.2) else h[r]? := by
  cases u with
  | none => simp [appU]
  | some p =>
    obtain ⟨q, o⟩ := p
    simp only [appU, Option.map_some]
    by_cases e : q = r
    · subst e; simp [hr]
    · simp [e]
theorem stS_len (ds : Nat → Option Nat) (vs : Nat → AV) (us : Nat → Option (Nat × AObj)) (S : Nat → Bool) (s : AS) : ∀ n, (stS ds vs us S s n).heap.length = s.heap.length ∧ (stS ds vs us S s n).marks = s.marks
  | 0 => ⟨rfl, rfl⟩
  | n + 1 => by
    simp only [stS]; split
    · rw [(heap_eff _ _ _ _).1, (heap_eff _ _ _ _).2, appU_length]; exact stS_len ds vs us S s n
    · exact stS_len ds vs us S s n
theorem slot_stS (ds : Nat → Option Nat) (vs : Nat → AV) (us : Nat → Option (Nat × AObj)) (S : Nat → Bool) (s : AS) (r : Nat) (hr : r < s.heap.length) : ∀ n, (stS ds vs us S s n).heap[r]? = match lastW (fun i => (us i).map (·.1)) S r n with
    | none => s.heap[r]?
    | some i => uAt us i
  | 0 => rfl
  | n + 1 => by
    simp only [stS, lastW]
    by_cases hS : S n = true
    · simp only [hS, if_true, Bool.true_and]
      rw [(heap_eff _ _ _ _).1, slot_appU _ _ _ (by rw [(stS_len ds vs us S s n).1]; exact hr)]
      by_cases hd : ((us n).map (·.1) == some r) = true
      · rw [if_pos hd, if_pos hd]; rfl
      · rw [if_neg hd, if_neg hd]; exact slot_stS ds vs us S s r hr n
    · simp only [hS, Bool.false_and, Bool.false_eq_true, if_false]; exact slot_stS ds vs us S s r hr n
theorem lastW_congr {ds : Nat → Option Nat} {S S' : Nat → Bool} {t : Nat} : ∀ {n : Nat}, (∀ j, j < n → ds j = some t → S j = S' j) → lastW ds S t n = lastW ds S' t n
  | 0, _ => rfl
  | n + 1, h => by
    have ih := lastW_congr (n := n) fun j hj => h j (by omega)
    simp only [lastW, ih]
    by_cases hd : ds n = some t
    · rw [h n (by omega) hd]
    · have hb : (ds n == some t) = false := by simpa using hd
      simp [hb]
theorem lastW_lt {ds : Nat → Option Nat} {S : Nat → Bool} {t : Nat} : ∀ {n m : Nat}, n ≤ m → (∀ j, n ≤ j → j < m → S j = false ∨ ds j ≠ some t) → lastW ds S t m = lastW ds S t n
  | n, 0, h, _ => by have : n = 0 := by omega
                     subst this; rfl
  | n, m + 1, h, hj => by
    by_cases e : n = m + 1
    · subst e; rfl
    · simp only [lastW]
      have : (S m && ds m == some t) = false := by
        rcases hj m (by omega) (by omega) with h1 | h1
        · simp [h1]
        · have : (ds m == some t) = false := by simpa using h1
          simp [this]
      rw [this]; exact lastW_lt (by omega) fun j h1 h2 => hj j h1 (by omega)
theorem lastW_hit {ds : Nat → Option Nat} {S : Nat → Bool} {t i n : Nat} (hi : i < n) (hS : S i = true) (hd : ds i = some t) (hj : ∀ j, i < j → j < n → S j = false ∨ ds j ≠ some t) : lastW ds S t n = some i := by
  rw [lastW_lt (n := i + 1) hi fun j h1 h2 => hj j h1 h2]
  simp [lastW, hS]
  exact fun h => absurd hd h
def Closed (l : List Oper) (S : Nat → Prop) : Prop := ∀ i o, l[i]? = some o → S i → ∀ e, e ∈ o.after.toList → Region.binds .any e = true → S e.on
theorem mask_bit (acc : List Nat) (j : Nat) : ∀ (es : List Edge) (m0 : Nat), (es.foldl (fun m e => if Region.binds .any e then m ||| 2 ^ e.on ||| acc.getD e.on 0 else m) m0).testBit j = true →
    m0.testBit j = true ∨ ∃ e, e ∈ es ∧ Region.binds .any e = true ∧ (e.on = j ∨ (acc.getD e.on 0).testBit j = true)
  | [], m0, h => .inl h
  | e :: es, m0, h => by
    rw [List.foldl_cons] at h
    rcases mask_bit acc j es _ h with h | ⟨e', h1, h2, h3⟩
    · by_cases hb : Region.binds .any e = true
      · rw [if_pos hb] at h
        simp only [Nat.testBit_or, Nat.testBit_two_pow, Bool.or_eq_true, decide_eq_true_eq] at h
        rcases h with (h | h) | h
        · exact .inl h
        · exact .inr ⟨e, .head _, hb, .inl h⟩
        · exact .inr ⟨e, .head _, hb, .inr h⟩
      · rw [if_neg hb] at h; exact .inl h
    · exact .inr ⟨e', .tail _ h1, h2, h3⟩
theorem masks_ok {L : List Oper} {S : Nat → Prop} (hS : Closed L S) : ∀ (l : List Oper) (acc : List Nat), (∀ k, l[k]? = L[acc.length + k]?) → (∀ i j, (acc.getD i 0).testBit j = true → S i → S j) →
    ∀ i j, ((masks l acc).getD i 0).testBit j = true → S i → S j
  | [], acc, _, h => h
  | o :: l, acc, hl, h => by
    refine masks_ok hS l _ (fun k => by have := hl (k + 1); simpa [Nat.add_assoc, Nat.add_comm 1 k] using this) fun i j hb hi => ?_
    have ho : L[acc.length]? = some o := by simpa using (hl 0).symm
    rcases Nat.lt_trichotomy i acc.length with hlt | heq | hgt
    · rw [List.getD_eq_getElem?_getD, List.getElem?_append_left hlt, ← List.getD_eq_getElem?_getD] at hb
      exact h i j hb hi
    · subst heq
      rw [List.getD_eq_getElem?_getD, List.getElem?_append_right (Nat.le_refl _)] at hb
      simp only [Nat.sub_self, List.getElem?_cons_zero, Option.getD_some] at hb
      rw [← Array.foldl_toList] at hb
      rcases mask_bit acc j _ 0 hb with hz | ⟨e, h1, h2, h3⟩
      · simp at hz
      · have he := hS _ o ho hi e h1 h2
        rcases h3 with rfl | h3
        · exact he
        · exact h e.on j h3 he
    · rw [List.getD_eq_getElem?_getD, List.getElem?_eq_none (by simp; omega)] at hb
      simp at hb
theorem reach {l : List Oper} {S : Nat → Prop} (hS : Closed l S) {i j : Nat} (h : ((masks l []).getD i 0).testBit j = true) (hi : S i) : S j :=
  masks_ok hS l [] (fun k => by simp) (fun i j h => by simp at h) i j h hi
theorem WD_facts : ∀ {l : List Oper} {acc : List Sl} {K : AS → Prop} {s : AS}, WD P N ops l acc K s → ∃ (ds : Nat → Option Nat) (rs : Nat → List Nat) (vs : Nat → AV) (us : Nat → Option (Nat × AObj)),
    (∀ i o, l[i]? = some o → o.dst = ds i ∧ (∀ d', ds i = some d' → d' < N) ∧ SlOK (stS ds vs us (fun _ => true) s i) (rs i) (us i) ∧ OpOK P ops o (stS ds vs us (fun _ => true) s i) (rs i) (vs i) (us i)) ∧
    drawOK ops.toList (acc.reverse ++ (List.range l.length).map fun i => (rs i, (us i).map (·.1))) = true ∧ ∃ s', Eqv (stS ds vs us (fun _ => true) s l.length) s' ∧ K s'
  | [], acc, K, s, ⟨h0, s', h1, h2⟩ => ⟨fun _ => none, fun _ => [], fun _ => .any, fun _ => none, fun i o h => by simp at h, by simpa using h0, s', h1, h2⟩
  | o :: l, acc, K, s, ⟨d, r, v, u, h1, h2, hs, h3, h4⟩ => by
    obtain ⟨ds, rs, vs, us, hf, hok, s', he, hk⟩ := WD_facts h4
    let ds' : Nat → Option Nat := fun | 0 => d | i + 1 => ds i
    let rs' : Nat → List Nat := fun | 0 => r | i + 1 => rs i
    let vs' : Nat → AV := fun | 0 => v | i + 1 => vs i
    let us' : Nat → Option (Nat × AObj) := fun | 0 => u | i + 1 => us i
    have hst : ∀ i, stS ds' vs' us' (fun _ => true) s (i + 1) = stS ds vs us (fun _ => true) (s.eff d v u) i := fun i => by
      induction i with
      | zero => rfl
      | succ i ih => show (if true = true then (stS ds' vs' us' (fun _ => true) s (i + 1)).eff (ds i) (vs i) (us i) else _) = (if true = true then (stS ds vs us (fun _ => true) (s.eff d v u) i).eff (ds i) (vs i) (us i) else _); simp only [if_true]; rw [ih]
    refine ⟨ds', rs', vs', us', fun i o' hi => ?_, ?_, s', by rw [List.length_cons, hst]; exact he, hk⟩
    · cases i with
      | zero => simp at hi; subst hi; exact ⟨h1, h2, hs, h3⟩
      | succ i => have := hf i o' (by simpa using hi); rw [hst]; exact this
    · rw [List.length_cons, List.range_succ_eq_map, List.map_cons, List.map_map]
      rw [List.reverse_cons, List.append_assoc] at hok
      exact hok
theorem POpS.congr {o : Oper} {ρ ρ' : Operand → Option AV} {hp hp' : List AObj} {rs : List Nat} {v : AV} {u : Option (Nat × AObj)} (h : POpS P o ρ hp rs v u) (he : ∀ x, x ∈ o.op.operands.toList → ρ' x = ρ x) (hl : hp'.length = hp.length) (hs : ∀ r, r ∈ rs → hp'[r]? = hp[r]?) : POpS P o ρ' hp' rs v u :=
  fun fr B G a w g hg hgs hr hE => h fr B G a w g (hg.trans hl) (fun r hr => (hgs r hr).trans (hs r hr)) hr fun x hx u hu => hE x hx u ((he x hx).trans hu)
theorem temps_mem {xs : Array Operand} {t : Nat} (h : Operand.tmp t ∈ xs.toList) : t ∈ temps xs := List.mem_filterMap.2 ⟨_, h, rfl⟩
theorem evO_eq_of {s s' : AS} {x : Operand} (h : ∀ t, x = .tmp t → look s.regs t = look s'.regs t) : s.evO x = s'.evO x := by
  rw [evO_some, evO_some]
  cases x with
  | tmp t => simp only [AS.ev]; rw [h t rfl]
  | _ => rfl
theorem OpOK.looks {o : Oper} {s s' : AS} {rs : List Nat} {v : AV} {u : Option (Nat × AObj)} (h : OpOK P ops o s rs v u) (hl : ∀ t, t ∈ looks ops o → look s'.regs t = look s.regs t) (hh : s'.heap.length = s.heap.length) (hs : ∀ r, r ∈ rs → s'.heap[r]? = s.heap[r]?) : OpOK P ops o s' rs v u := by
  have he : ∀ x, x ∈ o.op.operands.toList → s'.evO x = s.evO x := fun x hx => evO_eq_of fun t ht => hl t (List.mem_append_left _ (temps_mem (ht ▸ hx)))
  rcases h with ⟨h1, h2⟩ | ⟨j, want, t, b, h1, h2, h3, h4⟩ | ⟨j, want, t, h1, h2, h3, h4⟩
  · exact .inl ⟨h1, h2.congr he hh hs⟩
  · have ht : look s'.regs t = look s.regs t := hl t (List.mem_append_right _ (by simp [h1, h2]))
    exact .inr (.inl ⟨j, want, t, b, h1, h2, ht ▸ h3, h4.imp (fun h => ⟨h.1, h.2.congr he hh hs⟩) id⟩)
  · have ht : look s'.regs t = look s.regs t := hl t (List.mem_append_right _ (by simp [h1, h2]))
    exact .inr (.inr ⟨j, want, t, h1, h2, ht ▸ h3, h4⟩)
class Mix (P : Program) : Prop where
  h : P.follows .mixedOrders = true
theorem heap_ext {h h' : List AObj} (hl : h.length = h'.length) (hs : ∀ r, r < h.length → h[r]? = h'[r]?) : h = h' := by
  apply List.ext_getElem? 
  intro r
  rcases Nat.lt_or_ge r h.length with hr | hr
  · exact hs r hr
  · rw [List.getElem?_eq_none hr, List.getElem?_eq_none (by omega)]
def resv : Nat → List AObj → List AObj
  | 0, h => h
  | n + 1, h => resv n (h ++ [.free])
theorem R.resv {B : Base P} {G : Gh} {rg : List (Nat × AV)} {mk : Mk} {a : Act} {w : World} : ∀ (n : Nat) (h : List AObj), R B N G ⟨rg, h, mk⟩ a w → R B N G ⟨rg, resv n h, mk⟩ a w
  | 0, _, hr => hr
  | n + 1, h, hr => R.resv n _ (by
    have hh := hr.heap
    have hcase : ∀ r x, (h ++ [AObj.free])[r]? = some x → (h[r]? = some x) ∨ (r = h.length ∧ x = .free) := fun r x hx => by
      rcases Nat.lt_or_ge r h.length with hrl | hrl
      · rw [List.getElem?_append_left hrl] at hx; exact .inl hx
      · have : r = h.length := by
          have := (List.getElem?_eq_some_iff.1 hx).1
          simp at this; omega
        subst this
        rw [List.getElem?_append_right (by omega)] at hx
        simp at hx; exact .inr ⟨rfl, hx.symm⟩
    refine ⟨⟨hh.base, hh.tape, hh.os, hh.output, hh.drawn, hh.size, hh.out, hh.imm, hh.low, fun r o ho => ?_, fun r r' o o' b h1 h2 h3 h4 => ?_, fun r hrl => hh.fresh r (by simp at hrl; show h.length ≤ r; omega)⟩, hr.size, hr.regs, hr.defers, hr.own⟩
    · rcases hcase r o ho with h1 | ⟨rfl, rfl⟩
      · exact hh.obj r o h1
      · exact hh.fresh _ (Nat.le_refl _)
    · rcases hcase r o h1 with k1 | ⟨rfl, rfl⟩
      · rcases hcase r' o' h2 with k2 | ⟨rfl, rfl⟩
        · exact hh.inj r r' o o' b k1 k2 h3 h4
        · cases h4
      · cases h3)
def laysN : List Oper → Nat
  | [] => 0
  | { op := .alloc _, .. } :: l => laysN l + 1
  | _ :: l => laysN l
theorem W_draw {Q : Exit → AS → Prop} {rg : List (Nat × AV)} {hp0 : List AObj} {mk : Mk} [hm : Mix P] {id : Nat} {l : List Oper} (h : WD P N l.toArray l [] (fun s' => Q .normal s') ⟨rg, resv (laysN l) hp0, mk⟩) : W P fr N (.region id l.toArray true) Q ⟨rg, hp0, mk⟩ := by
  intro B G00 a w hr00
  have hr0 := hr00.resv (laysN l)
  generalize hsdef : (⟨rg, resv (laysN l) hp0, mk⟩ : AS) = s at h hr0
  obtain ⟨ds, rs, vs, us, hf, hok, sn, hsn, hk⟩ := WD_facts h
  simp only [List.reverse_nil, List.nil_append] at hok
  have hsl : ∀ i, i < l.length → ((List.range l.length).map fun i => (rs i, (us i).map (·.1)))[i]? = some (rs i, (us i).map (·.1)) := fun i hi => by simp [hi]
  have hnone : ∀ i, l.length ≤ i → l[i]? = none := fun i h => List.getElem?_eq_none h
  have hok2 := (Bool.and_eq_true _ _ ▸ hok : _ = true ∧ _ = true).2
  have hedge : ∀ i o, l[i]? = some o → ∀ e, e ∈ o.after.toList → Region.binds .any e = true → e.on < i := by
    intro i o hi e he hb
    have hlt : i < l.length := (List.getElem?_eq_some_iff.1 hi).1
    have := List.all_eq_true.1 hok2 i (List.mem_range.2 hlt)
    simp only [hi, Bool.and_eq_true] at this
    have h1 := Array.all_eq_true_iff_forall_mem.1 this.1 e (Array.mem_toList_iff.1 he)
    simpa [hb, Nat.blt_eq] using h1
  have hord : ∀ i o j p, l[i]? = some o → l[j]? = some p → i ≠ j → ((∃ d, ds j = some d ∧ (d ∈ looks l.toArray o ∨ ds i = some d)) ∨ (∃ r, (us j).map (·.1) = some r ∧ r ∈ rs i)) → ((masks l []).getD i 0).testBit j = true ∨ ((masks l []).getD j 0).testBit i = true := by
    intro i o j p hi hj hne hd
    have hlt : i < l.length := (List.getElem?_eq_some_iff.1 hi).1
    have hltj : j < l.length := (List.getElem?_eq_some_iff.1 hj).1
    have h0 := List.all_eq_true.1 hok2 i (List.mem_range.2 hlt)
    simp only [hi, Bool.and_eq_true] at h0
    have h1 := List.all_eq_true.1 h0.2 j (List.mem_range.2 hltj)
    have hb : (i == j) = false := by simpa using hne
    simp only [hb, Bool.false_or] at h1
    have hc : confl l ((List.range l.length).map fun i => (rs i, (us i).map (·.1))) i j = true := by
      simp only [confl, hi, hj, hsl i hlt, hsl j hltj, (hf j p hj).1, (hf i o hi).1]
      rcases hd with ⟨d, e1, e2⟩ | ⟨r, e1, e2⟩
      · rw [e1]
        rcases e2 with e2 | e2
        · simp [e2]
        · simp [e2]
      · rw [e1]; simp [e2]
    rw [if_pos hc] at h1
    simpa using h1
  have hle : ∀ k, Closed l (fun j => j ≤ k) := fun k i o hi hik e he hb => by have := hedge i o hi e he hb; omega
  refine wpIn_region_any hm.h ?_
  have hfin : ∀ (listed : Array Bool), (∀ j, j < l.length → listed.getD j false = true) → Eqv (stS ds vs us (fun j => listed.getD j false) s l.length) sn := fun listed hall => by
    refine Eqv.trans ⟨fun t => ?_, ?_, ?_⟩ hsn
    · rw [look_stS, look_stS, lastW_congr fun j hj _ => by rw [hall j hj]]
    · refine heap_ext (by rw [(stS_len ds vs us _ s _).1, (stS_len ds vs us _ s _).1]) fun r hrl => ?_
      rw [(stS_len ds vs us _ s _).1] at hrl
      rw [slot_stS _ _ _ _ _ _ hrl, slot_stS _ _ _ _ _ _ hrl, lastW_congr fun j hj _ => by rw [hall j hj]]
    · rw [(stS_len ds vs us _ s _).2, (stS_len ds vs us _ s _).2]
  have key : ∀ (fuel : Nat) (listed : Array Bool) (G : Gh) (a : Act) (w : World), listed.size = l.length → Closed l (fun j => listed.getD j false = true) → (∀ j, l.length ≤ j → listed.getD j false = false) → R B N G (stS ds vs us (fun j => listed.getD j false) s l.length) a w →
      ((listed.toList.filter (fun b => !b)).length ≤ fuel) → wpAnyIn (fence fr) 0 P .any l.toArray (Post B N Q) fuel listed a w := by
    intro fuel
    induction fuel with
    | zero =>
      intro listed G a w hsz hcl hout hr hfu
      have hall : ∀ j, j < l.length → listed.getD j false = true := fun j hj => by
        have hz : listed.toList.filter (fun b => !b) = [] := List.length_eq_zero_iff.1 (Nat.le_zero.1 hfu)
        have := List.filter_eq_nil_iff.1 hz (listed.getD j false) (by rw [Array.getD_eq_getD_getElem?, Array.getElem?_eq_getElem (by omega)]; simp)
        simpa using this
      refine ⟨?_, G, sn, (hfin listed hall).R hr, hk⟩
      apply List.eq_nil_iff_forall_not_mem.2
      intro j hj
      obtain ⟨h1, o, h2, _⟩ := mem_ready.1 hj
      have hj' : j < l.length := by simpa using (Array.getElem?_eq_some_iff.1 h2).1
      have := hall j hj'
      rw [Array.getD_eq_getD_getElem?, Array.getElem?_eq_getElem (by omega)] at h1 this
      simp at h1 this; rw [h1] at this; cases this
    | succ fuel ih =>
      intro listed G a w hsz hcl hout hr hfu
      refine ⟨fun hnil => ?_, fun i hi => ?_⟩
      · -- nothing is ready: all are listed
        have hall : ∀ j, j < l.length → listed.getD j false = true := fun j => by
          induction j using Nat.strongRecOn with
          | _ j ihj =>
            intro hj
            cases hb : listed.getD j false with
            | true => rfl
            | false =>
              exfalso
              have : j ∈ Region.ready .any l.toArray listed := mem_ready.2 ⟨by
                rw [Array.getD_eq_getD_getElem?, Array.getElem?_eq_getElem (by omega)] at hb ⊢; simpa using hb, l[j], by simp [hj], fun e he hbd => by
                have hlt := hedge j l[j] (List.getElem?_eq_getElem hj) e (Array.mem_toList_iff.2 he) hbd
                exact ihj e.on hlt (by omega)⟩
              rw [hnil] at this; cases this
        exact ⟨G, sn, (hfin listed hall).R hr, hk⟩
      · obtain ⟨h1, o, h2, hed⟩ := mem_ready.1 hi
        have hio : l[i]? = some o := by simpa using h2
        have hilt : i < l.length := (List.getElem?_eq_some_iff.1 hio).1
        have hi0 : listed.getD i false = false := by
          rw [Array.getD_eq_getD_getElem?, Array.getElem?_eq_getElem (by omega)] at h1 ⊢; simpa using h1
        obtain ⟨hdst, hdN, hso, hop⟩ := hf i o hio
        have hcl' : Closed l (fun j => j = i ∨ listed.getD j false = true) := fun j p hj hs e he hb => by
          rcases hs with rfl | hs
          · rw [hio] at hj; cases hj; exact .inr (hed e (Array.mem_toList_iff.1 he) hb)
          · exact .inr (hcl j p hj hs e he hb)
        have hwr : ∀ j, j < l.length → j ≠ i → ((∃ d, ds j = some d ∧ (d ∈ looks l.toArray o ∨ ds i = some d)) ∨ (∃ r, (us j).map (·.1) = some r ∧ r ∈ rs i)) → listed.getD j false = decide (j < i) := fun j hj hne hd => by
          rcases hord i o j l[j] hio (List.getElem?_eq_getElem hj) (Ne.symm hne) hd with hb | hb
          · have r1 := reach hcl' hb (.inl rfl)
            have r2 : j ≤ i := reach (hle i) hb (Nat.le_refl i)
            rcases r1 with r1 | r1
            · exact absurd r1 hne
            · rw [r1]; symm; simp; omega
          · have r2 : i ≤ j := reach (hle j) hb (Nat.le_refl j)
            have : listed.getD j false = false := by
              cases hbj : listed.getD j false with
              | false => rfl
              | true => have := reach hcl hb hbj; rw [hi0] at this; cases this
            rw [this]; symm; simp; omega
        have hlook : ∀ t, t ∈ looks l.toArray o → look (stS ds vs us (fun j => listed.getD j false) s l.length).regs t = look (stS ds vs us (fun _ => true) s i).regs t := fun t ht => by
          rw [look_stS, look_stS]
          have e1 : lastW ds (fun j => listed.getD j false) t l.length = lastW ds (fun j => decide (j < i)) t l.length := lastW_congr fun j hj hdj => by
            by_cases e : j = i
            · subst e; rw [hi0]; symm; simp
            · exact hwr j hj e (.inl ⟨t, hdj, .inl ht⟩)
          rw [e1, lastW_lt (n := i) (by omega) fun j hj _ => .inl (by simp; omega), lastW_congr (S' := fun _ => true) fun j hj _ => by simp; omega]
        have hslot : ∀ r, r ∈ rs i → (stS ds vs us (fun j => listed.getD j false) s l.length).heap[r]? = (stS ds vs us (fun _ => true) s i).heap[r]? := fun r hr => by
          rcases Nat.lt_or_ge r s.heap.length with hrl | hrl
          · rw [slot_stS _ _ _ _ _ _ hrl, slot_stS _ _ _ _ _ _ hrl]
            have e1 : lastW (fun i => (us i).map (·.1)) (fun j => listed.getD j false) r l.length = lastW (fun i => (us i).map (·.1)) (fun j => decide (j < i)) r l.length := lastW_congr fun j hj hdj => by
              by_cases e : j = i
              · subst e; rw [hi0]; symm; simp
              · exact hwr j hj e (.inr ⟨r, hdj, hr⟩)
            rw [e1, lastW_lt (n := i) (by omega) fun j hj _ => .inl (by simp; omega), lastW_congr (S' := fun _ => true) fun j hj _ => by simp; omega]
          · rw [List.getElem?_eq_none (by rw [(stS_len ds vs us _ s _).1]; exact hrl), List.getElem?_eq_none (by rw [(stS_len ds vs us _ s _).1]; exact hrl)]
        have hop' : OpOK P l.toArray o (stS ds vs us (fun j => listed.getD j false) s l.length) (rs i) (vs i) (us i) := hop.looks hlook (by rw [(stS_len ds vs us _ s _).1, (stS_len ds vs us _ s _).1]) hslot
        have hset : ∀ j, (listed.setIfInBounds i true).getD j false = if j = i then true else listed.getD j false := fun j => by
          simp only [Array.getD_eq_getD_getElem?, Array.getElem?_setIfInBounds]
          by_cases e : j = i
          · subst e; have : j < listed.size := by omega
            simp [this]
          · rw [if_neg e, if_neg (Ne.symm e)]
        have heqv : Eqv ((stS ds vs us (fun j => listed.getD j false) s l.length).eff (ds i) (vs i) (us i)) (stS ds vs us (fun j => (listed.setIfInBounds i true).getD j false) s l.length) := by
          refine ⟨fun t => ?_, ?_, ?_⟩
          · rw [look_eff]
            by_cases e : ds i = some t
            · rw [if_pos (by simp [e]), look_stS, lastW_hit (i := i) hilt (by rw [hset]; simp) e fun j h1 h2 => ?_]
              by_cases e2 : ds j = some t
              · left
                rw [hset, if_neg (by omega), hwr j h2 (by omega) (.inl ⟨t, e2, .inr e⟩)]; simp; omega
              · exact .inr e2
            · rw [if_neg (by simpa using e), look_stS, look_stS, lastW_congr (S' := fun j => (listed.setIfInBounds i true).getD j false) fun j hj hdj => by
                have hji : j ≠ i := fun e' => by subst e'; exact e hdj
                show listed.getD j false = (listed.setIfInBounds i true).getD j false
                rw [hset, if_neg hji]]
          · rw [(heap_eff _ _ _ _).1]
            refine heap_ext (by rw [appU_length, (stS_len ds vs us _ s _).1, (stS_len ds vs us _ s _).1]) fun r hrl => ?_
            rw [appU_length, (stS_len ds vs us _ s _).1] at hrl
            rw [slot_appU _ _ _ (by rw [(stS_len ds vs us _ s _).1]; exact hrl), slot_stS _ _ _ _ _ _ hrl]
            by_cases e : (us i).map (·.1) = some r
            · have hri : r ∈ rs i := by
                revert hso; unfold SlOK
                cases hu : us i with
                | none => rw [hu] at e; cases e
                | some p => rw [hu] at e; simp at e; subst e; exact fun h => h.1
              rw [if_pos (by simp [e]), slot_stS _ _ _ _ _ _ hrl, lastW_hit (i := i) hilt (by rw [hset]; simp) e fun j h1 h2 => ?_]
              · rfl
              by_cases e2 : (us j).map (·.1) = some r
              · left
                rw [hset, if_neg (by omega), hwr j h2 (by omega) (.inr ⟨r, e2, hri⟩)]; simp; omega
              · exact .inr e2
            · rw [if_neg (by simpa using e), slot_stS _ _ _ _ _ _ hrl, lastW_congr (S' := fun j => (listed.setIfInBounds i true).getD j false) fun j hj hdj => by
                have hji : j ≠ i := fun e' => by subst e'; exact e hdj
                show listed.getD j false = (listed.setIfInBounds i true).getD j false
                rw [hset, if_neg hji]]
          · rw [(heap_eff _ _ _ _).2, (stS_len ds vs us _ s _).2, (stS_len ds vs us _ s _).2]
        have hnext : ∀ (G' : Gh) (a' : Act) (w' : World), R B N G' ((stS ds vs us (fun j => listed.getD j false) s l.length).eff (ds i) (vs i) (us i)) a' w' →
            wpAnyIn (fence fr) 0 P .any l.toArray (Post B N Q) fuel (listed.setIfInBounds i true) a' w' := fun G' a' w' hr' => by
          refine ih (listed.setIfInBounds i true) G' a' w' (by simpa using hsz) (fun j p hj hs e he hb => ?_) (fun j hj => ?_) (heqv.R hr') ?_
          · have := hcl' j p hj (by
              dsimp only at hs; rw [hset] at hs
              by_cases e' : j = i
              · exact .inl e'
              · rw [if_neg e'] at hs; exact .inr hs) e he hb
            dsimp only; rw [hset]
            rcases this with h | h
            · simp [h]
            · split
              · rfl
              · exact h
          · rw [hset, if_neg (by omega)]; exact hout j hj
          · have hlen : (listed.setIfInBounds i true).toList = listed.toList.set i true := by simp
            rw [hlen]
            have : ∀ (xs : List Bool) (k : Nat), xs[k]? = some false → ((xs.set k true).filter (fun b => !b)).length + 1 = (xs.filter (fun b => !b)).length := fun xs => by
              induction xs with
              | nil => intro k h; simp at h
              | cons b xs ih =>
                intro k h
                cases k with
                | zero => simp at h; subst h; simp
                | succ k => simp at h; have := ih k h; cases b <;> simp at this ⊢ <;> omega
            have := this listed.toList i (by
              rw [Array.getD_eq_getD_getElem?, Array.getElem?_eq_getElem (by omega)] at hi0
              simp at hi0
              rw [Array.getElem?_toList, Array.getElem?_eq_getElem (by omega), hi0])
            omega
        have hput : ∀ (G' : Gh) (h' : List AObj) (a : Act) (w' : World) (r : Value) (st : AS) (v : AV) (u : Option (Nat × AObj)), R B N G' { st with heap := appU u st.heap } a w' → Conc G' r v → R B N G' (st.eff (ds i) v u) (a.put (ds i) r) w' := fun G' h' a w' r st v u hR hv => by
          cases hd : ds i with
          | none => exact hR
          | some d => exact hR.put (hdN d hd) hv
        simp only [wpOpIn, h2]
        have run : POpS P o (stS ds vs us (fun j => listed.getD j false) s l.length).evO (stS ds vs us (fun j => listed.getD j false) s l.length).heap (rs i) (vs i) (us i) →
            o.wpIn (fence fr) 0 P a w (wpAnyIn (fence fr) 0 P .any l.toArray (Post B N Q) fuel (listed.setIfInBounds i true)) (Post B N Q) := fun hp => by
          refine wpIn_false ?_ (hp fr B G a w _ rfl (fun _ _ => rfl) hr.heap fun x _ u hu => by rw [evO_some] at hu; cases hu; exact hr.ev x)
          rintro a' w' ⟨r, G', rfl, hg', hh, hv⟩
          rw [hdst]
          exact hnext G' _ w' (hput G' [] a w' r _ (vs i) (us i) (hr.step hg' hh) hv)
        rcases hop' with ⟨g1, g2⟩ | ⟨j, want, t, b, g1, g2, g3, g4⟩ | ⟨j, want, t, g1, g2, g3, g4⟩
        · rw [if_pos (by simp [Region.wanted, g1])]; exact run g2
        · have hy := yielded_of g2 hr g3
          rcases g4 with ⟨rfl, g4⟩ | ⟨hne, g4, g5⟩
          · rw [if_pos (by simp [Region.wanted, g1, hy])]; exact run g4
          · rw [if_neg (by simp [Region.wanted, g1, hy, hne])]
            refine ⟨fun f _ => fence_fn fr f, ?_⟩
            rw [hdst]
            refine hnext G _ w (hput G [] a w undef _ (vs i) (us i) ?_ (by rw [g4]; exact .sc _))
            rw [g5]; exact hr
        · have hy := yielded_undef g2 hr g3
          rw [if_neg (by simp [Region.wanted, g1, hy])]
          refine ⟨fun f _ => fence_fn fr f, ?_⟩
          rw [hdst]
          refine hnext G _ w (hput G [] a w undef _ (vs i) (us i) ?_ (by rw [g4.1]; exact .sc _))
          rw [g4.2]; exact hr
  refine key _ _ G00 a _ (by simp) (fun j p hj hs => ?_) (fun j hj => ?_) ?_ ?_
  · dsimp only at hs
    rw [Array.getD_eq_getD_getElem?, Array.getElem?_replicate] at hs
    split at hs <;> simp at hs
  · rw [Array.getD_eq_getD_getElem?, Array.getElem?_replicate]; split <;> simp
  · have e : Eqv s (stS ds vs us (fun j => (Array.replicate l.toArray.size false).getD j false) s l.length) := by
      have : ∀ n, stS ds vs us (fun j => (Array.replicate l.toArray.size false).getD j false) s n = s := fun n => by
        induction n with
        | zero => rfl
        | succ n ih =>
          simp only [stS, ih]
          rw [if_neg]
          rw [Array.getD_eq_getD_getElem?, Array.getElem?_replicate]; split <;> simp
      rw [this]; exact .refl s
    refine e.R ⟨?_, hr0.size, hr0.regs, hr0.defers, hr0.own⟩
    have := hr0.heap
    exact ⟨this.base, this.tape, this.os, this.output, Nat.le_succ_of_le this.drawn, this.size, this.out, this.imm, this.low, this.obj, this.inj, this.fresh⟩
  · have := List.length_filter_le (fun b : Bool => !b) (Array.replicate l.toArray.size false).toList
    refine Nat.le_trans this ?_
    simp
end
end Go.AL
