/- An abstract logic over the kit's fenced walk: abstract values, the relation between them and the machine's, the judgement on code, and its structural rules. No condition. -/
import Derived.CallsIn
import Derived.RangeFuncLeaves
import Derived.RangeFuncRecord
import Derived.OrdersIn
import Derived.Laws.World
import Derived.Laws.Cells
import Derived.Laws.Sem
namespace Go.AL

/-- Abstract values: scalars as they are; slices by value (their elements' cells; a token where the tail may be appended to); pointers to memory that stays; pointers and slices into boxes; functions; aggregates; tuples. -/
inductive AV where
  | any
  | sc (v : Value)
  | sl (tok : Option Nat) (k : Nat) (els : List (List AV))
  | ep (cells : List AV)
  | bp (r off : Nat)
  | ms (r off len cap : Nat)
  | fn (f : Fn) (first caps : List AV)
  | ag (cells : List AV)
  | tu (vs : List AV)

instance : Inhabited AV := ⟨.any⟩

/-- What is known of memory beside the world: the cells that stay, the block of each box, the slices that owned a tail. -/
structure Gh where
  imm : Nat → Nat → Option Value
  blk : Nat → Option Nat
  tl : Nat → Nat → Option Value

inductive Conc (G : Gh) : Value → AV → Prop
  | any (v : Value) : Conc G v .any
  | sc (v : Value) : Conc G v (.sc v)
  | sl {b o cap k : Nat} {tok : Option Nat} {els : List (List AV)} (us : Nat → Nat → Value) (hk : ∀ e, e ∈ els → e.length = k) (hcap : els.length ≤ cap)
      (him : ∀ i j, i < els.length → j < k → G.imm b (o + i * k + j) = some (us i j))
      (hc : ∀ (i : Nat) (e : List AV) (j : Nat) (x : AV), els[i]? = some e → e[j]? = some x → Conc G (us i j) x)
      (ht : ∀ t, tok = some t → G.tl t els.length = some (.slice (some ⟨b, o, none⟩) els.length cap)) :
      Conc G (.slice (some ⟨b, o, none⟩) els.length cap) (.sl tok k els)
  | slnil {k : Nat} {tok : Option Nat} (ht : ∀ t, tok = some t → G.tl t 0 = some (.slice none 0 0)) : Conc G (.slice none 0 0) (.sl tok k [])
  | ep {b o : Nat} {cells : List AV} (us : Nat → Value) (him : ∀ j, j < cells.length → G.imm b (o + j) = some (us j))
      (hc : ∀ (j : Nat) (x : AV), cells[j]? = some x → Conc G (us j) x) : Conc G (.pointer (some ⟨b, o, none⟩)) (.ep cells)
  | bp {r off b : Nat} (h : G.blk r = some b) : Conc G (.pointer (some ⟨b, off, none⟩)) (.bp r off)
  | ms {r off len cap b : Nat} (h : G.blk r = some b) (hl : len ≤ cap) : Conc G (.slice (some ⟨b, off, none⟩) len cap) (.ms r off len cap)
  | fn {f : Fn} {fs cs : List Value} {xs ys : List AV} (l1 : fs.length = xs.length) (l2 : cs.length = ys.length)
      (h1 : ∀ (i : Nat) (v : Value) (x : AV), fs[i]? = some v → xs[i]? = some x → Conc G v x)
      (h2 : ∀ (i : Nat) (v : Value) (x : AV), cs[i]? = some v → ys[i]? = some x → Conc G v x) : Conc G (.func f fs.toArray cs.toArray) (.fn f xs ys)
  | ag {cs : List Value} {xs : List AV} (l : cs.length = xs.length)
      (h : ∀ (i : Nat) (v : Value) (x : AV), cs[i]? = some v → xs[i]? = some x → Conc G v x) : Conc G (.agg cs.toArray) (.ag xs)
  | tu {cs : List Value} {xs : List AV} (l : cs.length = xs.length)
      (h : ∀ (i : Nat) (v : Value) (x : AV), cs[i]? = some v → xs[i]? = some x → Conc G v x) : Conc G (.tuple cs.toArray) (.tu xs)

/-- Pointwise. -/
def ConcL (G : Gh) (vs : List Value) (xs : List AV) : Prop :=
  vs.length = xs.length ∧ ∀ (i : Nat) (v : Value) (x : AV), vs[i]? = some v → xs[i]? = some x → Conc G v x

structure Gh.le (G G' : Gh) : Prop where
  imm : ∀ b o v, G.imm b o = some v → G'.imm b o = some v
  blk : ∀ r b, G.blk r = some b → G'.blk r = some b
  tl : ∀ r n v, G.tl r n = some v → G'.tl r n = some v

theorem Gh.le.refl (G : Gh) : G.le G := ⟨fun _ _ _ h => h, fun _ _ h => h, fun _ _ _ h => h⟩
theorem Gh.le.trans {A B C : Gh} (h : A.le B) (h' : B.le C) : A.le C :=
  ⟨fun b o v e => h'.imm b o v (h.imm b o v e), fun r b e => h'.blk r b (h.blk r b e), fun r n v e => h'.tl r n v (h.tl r n v e)⟩

theorem Conc.mono {G G' : Gh} (hg : G.le G') {v : Value} {x : AV} (h : Conc G v x) : Conc G' v x := by
  induction h with
  | any v => exact .any v
  | sc v => exact .sc v
  | sl us hk hcap him hc ht ih => exact .sl us hk hcap (fun i j hi hj => hg.imm _ _ _ (him i j hi hj)) ih (fun t e => hg.tl _ _ _ (ht t e))
  | slnil ht => exact .slnil (fun t e => hg.tl _ _ _ (ht t e))
  | ep us him hc ih => exact .ep us (fun j hj => hg.imm _ _ _ (him j hj)) ih
  | bp h => exact .bp (hg.blk _ _ h)
  | ms h hl => exact .ms (hg.blk _ _ h) hl
  | fn l1 l2 h1 h2 ih1 ih2 => exact .fn l1 l2 ih1 ih2
  | ag l h ih => exact .ag l ih
  | tu l h ih => exact .tu l ih

theorem ConcL.mono {G G' : Gh} (hg : G.le G') {vs : List Value} {xs : List AV} (h : ConcL G vs xs) : ConcL G' vs xs :=
  ⟨h.1, fun i v x a b => (h.2 i v x a b).mono hg⟩

theorem ConcL.nil (G : Gh) : ConcL G [] [] := ⟨rfl, fun _ _ _ h => by simp at h⟩
theorem ConcL.cons {G : Gh} {v : Value} {x : AV} {vs : List Value} {xs : List AV} (h : Conc G v x) (hs : ConcL G vs xs) : ConcL G (v :: vs) (x :: xs) :=
  ⟨by simp [hs.1], fun i u y a b => by
    cases i with
    | zero => simp at a b; subst a; subst b; exact h
    | succ i => simp at a b; exact hs.2 i u y a b⟩
theorem ConcL.append {G : Gh} {vs vs' : List Value} {xs xs' : List AV} (h : ConcL G vs xs) (h' : ConcL G vs' xs') : ConcL G (vs ++ vs') (xs ++ xs') :=
  ⟨by simp [h.1, h'.1], fun i u y a b => by
    rcases Nat.lt_or_ge i vs.length with hi | hi
    · rw [List.getElem?_append_left hi] at a
      rw [List.getElem?_append_left (h.1 ▸ hi)] at b
      exact h.2 i u y a b
    · rw [List.getElem?_append_right hi] at a
      rw [List.getElem?_append_right (h.1 ▸ hi)] at b
      rw [← h.1] at b
      exact h'.2 _ u y a b⟩
theorem ConcL.split {G : Gh} : ∀ {xs : List AV} {v : Value} {vs : List Value} {x : AV}, ConcL G (v :: vs) (x :: xs) → Conc G v x ∧ ConcL G vs xs
  | xs, v, vs, x, h => ⟨h.2 0 v x rfl rfl, by have := h.1; simp at this; exact this, fun i u y a b => h.2 (i + 1) u y (by simpa using a) (by simpa using b)⟩
theorem ConcL.inv_nil {G : Gh} {vs : List Value} (h : ConcL G vs []) : vs = [] := by
  have := h.1; simp at this; exact this
theorem ConcL.inv_cons {G : Gh} {vs : List Value} {x : AV} {xs : List AV} (h : ConcL G vs (x :: xs)) : ∃ v vs', vs = v :: vs' ∧ Conc G v x ∧ ConcL G vs' xs := by
  cases vs with
  | nil => have := h.1; simp at this
  | cons v vs' => exact ⟨v, vs', rfl, h.split⟩

/-- Abstract heap objects: dead, a box's cells, a tail that may be appended to (n elements of k cells), another object of the model's as it lies. -/
inductive AObj where
  | dead
  | cells (xs : List AV)
  | tail (n k : Nat)
  | raw (o : Obj)

/-- The base of an activation: the world in which it began, and what of it was known to stay. -/
structure Base where
  w : World
  imm : Nat → Nat → Option Value

def slBlock : Option Value → Option Nat
  | some (.slice (some a) _ _) => some a.block
  | _ => none

/-- The block that an abstract object owns. -/
def ownBlk (G : Gh) (r : Nat) : AObj → Option Nat
  | .dead => none
  | .cells _ => G.blk r
  | .raw _ => G.blk r
  | .tail n _ => slBlock (G.tl r n)

def ObjOK (B : Base) (G : Gh) (w : World) (r : Nat) : AObj → Prop
  | .dead => True
  | .cells xs => ∃ (b : Nat) (c : List Value) (ty : TypeId), G.blk r = some b ∧ B.w.heap.size ≤ b ∧ w.heap[b]? = some (.cells c.toArray ty (0, 0)) ∧ ConcL G c xs ∧ ∀ o, G.imm b o = none
  | .raw o => ∃ b, G.blk r = some b ∧ B.w.heap.size ≤ b ∧ w.heap[b]? = some o ∧ ∀ i, G.imm b i = none
  | .tail n k => (∀ j, n < j → G.tl r j = none) ∧ ((n = 0 ∧ G.tl r 0 = some (.slice none 0 0)) ∨
      ∃ (b o cap : Nat) (c : Array Value) (ty : TypeId) (lo hi : Nat), G.tl r n = some (.slice (some ⟨b, o, none⟩) n cap) ∧ B.w.heap.size ≤ b ∧ w.heap[b]? = some (.cells c ty (lo, hi)) ∧
        hi ≤ o + n * k ∧ n ≤ cap ∧ o + cap * k ≤ c.size ∧ ∀ j, o + n * k ≤ j → G.imm b j = none)

structure RH (B : Base) (G : Gh) (h : List AObj) (w : World) : Prop where
  tape : w.tape = B.w.tape
  os : w.os = B.w.os
  output : w.output = B.w.output
  drawn : B.w.drawn ≤ w.drawn
  size : B.w.heap.size ≤ w.heap.size
  out : ∀ b, b < B.w.heap.size → w.heap[b]? = B.w.heap[b]?
  imm : ∀ b o v, G.imm b o = some v → w.cell? ⟨b, o, none⟩ = some v
  low : ∀ b o, b < B.w.heap.size → G.imm b o = B.imm b o
  obj : ∀ (r : Nat) (o : AObj), h[r]? = some o → ObjOK B G w r o
  inj : ∀ (r r' : Nat) (o o' : AObj) (b : Nat), h[r]? = some o → h[r']? = some o' → ownBlk G r o = some b → ownBlk G r' o' = some b → r = r'
  fresh : ∀ r, h.length ≤ r → G.blk r = none ∧ ∀ n, G.tl r n = none

/-- Abstract states: temporaries (newest first), heap, marks of the ranges over functions. -/
structure AS where
  regs : List (Nat × AV)
  heap : List AObj
  marks : List Nat

def look : List (Nat × AV) → Nat → AV
  | [], _ => .any
  | (u, v) :: l, t => match Nat.beq u t with
    | true => v
    | false => look l t

def AS.get (s : AS) (t : Nat) : AV := look s.regs t
def AS.put (s : AS) (t : Nat) (v : AV) : AS := { s with regs := (t, v) :: s.regs }

def AS.ev (s : AS) : Operand → AV
  | .tmp t => look s.regs t
  | .const v => .sc v
  | .global g => .sc (.pointer (some ⟨g, 0, none⟩))
  | .func f => .sc (.func (.func f) #[] #[])

/-- The same, under 'some': a walk reads it off by computing. -/
def lookO : List (Nat × AV) → Nat → Option AV
  | [], _ => some .any
  | (u, v) :: l, t => match Nat.beq u t with
    | true => some v
    | false => lookO l t

theorem lookO_eq : ∀ {l : List (Nat × AV)} {t : Nat} {v : AV}, lookO l t = some v → look l t = v
  | [], t, v, h => by simp [lookO] at h; simp [look, h]
  | (u, x) :: l, t, v, h => by
    simp only [lookO] at h
    simp only [look]
    cases hb : Nat.beq u t with
    | true => rw [hb] at h; simp at h; exact h
    | false => rw [hb] at h; exact lookO_eq h

def AS.evO (s : AS) : Operand → Option AV
  | .tmp t => lookO s.regs t
  | .const v => some (.sc v)
  | .global g => some (.sc (.pointer (some ⟨g, 0, none⟩)))
  | .func f => some (.sc (.func (.func f) #[] #[]))

theorem AS.evO_eq {s : AS} {x : Operand} {v : AV} (h : s.evO x = some v) : s.ev x = v := by
  cases x with
  | tmp t => exact lookO_eq h
  | const c => simp [AS.evO] at h; exact h
  | global g => simp [AS.evO] at h; exact h
  | func f => simp [AS.evO] at h; exact h

structure R (B : Base) (N : Nat) (G : Gh) (s : AS) (a : Act) (w : World) : Prop where
  heap : RH B G s.heap w
  size : a.tmps.size = N
  regs : ∀ t, Conc G (a.tmps.getD t undef) (look s.regs t)
  defers : a.defers.length = s.marks.length ∧ ∀ (i : Nat) (d : Deferred) (r : Nat), a.defers[i]? = some d → s.marks[i]? = some r → ∃ b, G.blk r = some b ∧ d = { target := .collected b, args := #[] }

theorem R.ev {B : Base} {N : Nat} {G : Gh} {s : AS} {a : Act} {w : World} (h : R B N G s a w) (x : Operand) : Conc G (a.eval x) (s.ev x) := by
  cases x with
  | tmp t => exact h.regs t
  | const v => exact .sc v
  | global g => exact .sc _
  | func f => exact .sc _

theorem R.put {B : Base} {N : Nat} {G : Gh} {s : AS} {a : Act} {w : World} (h : R B N G s a w) {d : Nat} (hd : d < N) {v : Value} {x : AV} (hv : Conc G v x) :
    R B N G (s.put d x) (a.put (some d) v) w := by
  refine ⟨h.heap, by simp [Act.put, h.size], fun t => ?_, h.defers⟩
  simp only [AS.put, look, Act.put]
  cases hb : Nat.beq d t with
  | true =>
    have : d = t := Nat.eq_of_beq_eq_true hb
    subst this
    simp [Array.getD_eq_getD_getElem?, h.size, hd, hv]
  | false =>
    have hne : d ≠ t := fun e => by subst e; simp at hb
    have := h.regs t
    simp only [Array.getD_eq_getD_getElem?, Array.getElem?_setIfInBounds_ne hne] at this ⊢
    exact this

/-- More is known; the world and the heap may have turned. -/
theorem R.step {B : Base} {N : Nat} {G G' : Gh} {s : AS} {a : Act} {w w' : World} {h' : List AObj} (h : R B N G s a w) (hg : G.le G') (hh : RH B G' h' w') :
    R B N G' { s with heap := h' } a w' :=
  ⟨hh, h.size, fun t => (h.regs t).mono hg, h.defers.1, fun i d r hd hr => let ⟨b, e, f⟩ := h.defers.2 i d r hd hr; ⟨b, hg.blk _ _ e, f⟩⟩

def fence : Option Nat → Fence
  | none => Fence.wide
  | some l => Fence.wide.inRound l

/-- What a walk of code ends in. -/
def Post (B : Base) (N : Nat) (G : Gh) (Q : Exit → AS → Prop) : Exit → Act → World → Prop :=
  fun e a w => ∃ G' s, G.le G' ∧ R B N G' s a w ∧ Q e s

/-- **The judgement on code.** -/
def W (P : Program) (fr : Option Nat) (N : Nat) (c : Code) (Q : Exit → AS → Prop) (s : AS) : Prop :=
  ∀ (B : Base) (G : Gh) (a : Act) (w : World), R B N G s a w → c.wpIn (fence fr) 0 P (Post B N G Q) a w

section
variable {P : Program} {fr : Option Nat} {N : Nat} {Q : Exit → AS → Prop} {s : AS}

theorem Post.le {B : Base} {G G' : Gh} (hg : G.le G') {e : Exit} {a : Act} {w : World} (h : Post B N G' Q e a w) : Post B N G Q e a w :=
  let ⟨G'', s, h1, h2, h3⟩ := h; ⟨G'', s, hg.trans h1, h2, h3⟩

theorem W_mono {c : Code} {Q' : Exit → AS → Prop} (h : W P fr N c Q s) (hq : ∀ e s, Q e s → Q' e s) : W P fr N c Q' s :=
  fun B G a w hr => wpIn_mono (h B G a w hr) fun _ _ _ ⟨G', s', h1, h2, h3⟩ => ⟨G', s', h1, h2, hq _ _ h3⟩

theorem W_skip (h : Q .normal s) : W P fr N .skip Q s := fun _ G _ _ hr => wpIn_skip ⟨G, s, .refl G, hr, h⟩
theorem W_label {l : Nat} (h : Q .normal s) : W P fr N (.label l) Q s := fun _ G _ _ hr => wpIn_label ⟨G, s, .refl G, hr, h⟩
theorem W_exit {id : Nat} (h : Q (.exit id) s) : W P fr N (.exit id) Q s := fun _ G _ _ hr => wpIn_exit ⟨G, s, .refl G, hr, h⟩
theorem W_goto {id : Nat} (h : Q (.goto id) s) : W P fr N (.goto id) Q s := fun _ G _ _ hr => wpIn_goto ⟨G, s, .refl G, hr, h⟩
theorem W_ret (h : Q .ret s) : W P fr N .ret Q s := fun _ G _ _ hr => wpIn_ret ⟨G, s, .refl G, hr, h⟩

/-- What follows normally; else the jump goes on. -/
def thn (next : AS → Prop) (Q : Exit → AS → Prop) : Exit → AS → Prop
  | .normal, s => next s
  | e, s => Q e s

theorem W_seq {x y : Code} (h : W P fr N x (thn (W P fr N y Q) Q) s) : W P fr N (.seq x y) Q s := by
  intro B G a w hr
  refine wpIn_seq (wpIn_mono (h B G a w hr) ?_)
  rintro e a' w' ⟨G', s', hg, hr', hq⟩
  cases e <;> simp only [thn, Exit.then] at hq ⊢ <;> first | exact wpIn_mono (hq B G' a' w' hr') (fun _ _ _ hp => hp.le hg) | exact ⟨G', s', hg, hr', hq⟩

def inBlk (id : Nat) (Q : Exit → AS → Prop) : Exit → AS → Prop
  | .exit i, s => match Nat.beq i id with
    | true => Q .normal s
    | false => Q (.exit i) s
  | e, s => Q e s

theorem W_block {id : Nat} {c : Code} (h : W P fr N c (inBlk id Q) s) : W P fr N (.block id c) Q s := by
  intro B G a w hr
  refine wpIn_block (wpIn_mono (h B G a w hr) ?_)
  rintro e a' w' ⟨G', s', hg, hr', hq⟩
  cases e with
  | exit i =>
    simp only [inBlk, Exit.inBlock] at hq ⊢
    cases hb : Nat.beq i id with
    | true =>
      rw [hb] at hq
      rw [if_pos (Nat.eq_of_beq_eq_true hb)]; exact ⟨G', s', hg, hr', hq⟩
    | false =>
      rw [hb] at hq
      have hne : i ≠ id := fun e => by subst e; simp at hb
      rw [if_neg hne]; exact ⟨G', s', hg, hr', hq⟩
  | _ => exact ⟨G', s', hg, hr', hq⟩

theorem conc_bool {G : Gh} {v : Value} {b : Bool} (h : Conc G v (.sc (.bool b))) : v = .bool b := by cases h; rfl
theorem conc_sc {G : Gh} {v u : Value} (h : Conc G v (.sc u)) : v = u := by cases h; rfl

theorem W_condT {c : Operand} {x y : Code} (hc : s.ev c = .sc (.bool true)) (h : W P fr N x Q s) : W P fr N (.cond c x y) Q s :=
  fun B G a w hr => wpIn_cond_true (conc_sc (hc ▸ hr.ev c)) (h B G a w hr)
theorem W_condF {c : Operand} {x y : Code} (hc : s.ev c = .sc (.bool false)) (h : W P fr N y Q s) : W P fr N (.cond c x y) Q s :=
  fun B G a w hr => wpIn_cond_false (conc_sc (hc ▸ hr.ev c)) (h B G a w hr)
theorem W_cond {c : Operand} {x y : Code} {b : Bool} (hc : s.ev c = .sc (.bool b)) (ht : b = true → W P fr N x Q s) (hf : b = false → W P fr N y Q s) : W P fr N (.cond c x y) Q s :=
  fun B G a w hr => wpIn_cond_split (conc_sc (hc ▸ hr.ev c)) (fun e => ht e B G a w hr) (fun e => hf e B G a w hr)

theorem least (p : Nat → Prop) (h : ∃ n, p n) : ∃ n, p n ∧ ∀ m, p m → n ≤ m := by
  obtain ⟨n, hn⟩ := h
  induction n using Nat.strongRecOn with
  | _ n ih =>
    by_cases hex : ∃ m, m < n ∧ p m
    · obtain ⟨m, hlt, hm⟩ := hex; exact ih m hlt hm
    · exact ⟨n, hn, fun m hm => by
        rcases Nat.lt_or_ge m n with hl | hl
        · exact absurd ⟨m, hl, hm⟩ hex
        · exact hl⟩

/-- A loop: the states at its head are given by a datum x. -/
theorem W_loop {X : Type} {c : Code} (st : X → AS) (I : X → Prop) (μ : X → Nat) (x0 : X) (h0 : I x0) (hs : st x0 = s)
    (h : ∀ x, I x → W P fr N c (thn (fun s' => ∃ x', I x' ∧ μ x' < μ x ∧ s' = st x') Q) (st x)) : W P fr N (.loop c) Q s := by
  subst hs
  intro B G a w hr
  let p : Act → World → Nat → Prop := fun a w n => ∃ x G', G.le G' ∧ I x ∧ R B N G' (st x) a w ∧ μ x = n
  have hmin : ∀ a w, (∃ n, p a w n) → ∃ n, p a w n ∧ ∀ m, p a w m → n ≤ m := fun a w => least (p a w)
  refine wpIn_loop (fun a w => ∃ n, p a w n) (fun a w => Classical.epsilon fun n => p a w n ∧ ∀ m, p a w m → n ≤ m) ⟨μ x0, x0, G, .refl G, h0, hr, rfl⟩ ?_
  intro a w hI
  have he := Classical.epsilon_spec (hmin a w hI)
  generalize (Classical.epsilon fun n => p a w n ∧ ∀ m, p a w m → n ≤ m) = k at he
  obtain ⟨⟨x, G1, hg, hx, hr1, rfl⟩, -⟩ := he
  refine wpIn_mono (h x hx B G1 a w hr1) ?_
  rintro e a' w' ⟨G2, s', hg2, hr2, hq⟩
  cases e <;> simp only [thn, Exit.then] at hq ⊢
  case normal =>
    obtain ⟨x', hx', hlt, rfl⟩ := hq
    have hp : p a' w' (μ x') := ⟨x', G2, hg.trans hg2, hx', hr2, rfl⟩
    refine ⟨⟨_, hp⟩, ?_⟩
    exact Nat.lt_of_le_of_lt ((Classical.epsilon_spec (hmin a' w' ⟨_, hp⟩)).2 _ hp) hlt
  all_goals exact ⟨G2, s', hg.trans hg2, hr2, hq⟩
end
end Go.AL
