/- An abstract logic over the kit's fenced walk: abstract values, the relation between them and the machine's, the judgement on code, and its structural rules. No condition. -/
import Derived.CallsIn
import Derived.RangeFuncLeaves
import Derived.RangeFuncRecord
import Derived.OrdersIn
import Derived.Laws.World
import Derived.Laws.Cells
import Derived.Laws.Sem
import GoSem.ClaimData
namespace Go.AL
inductive AV where
  | any
  | sc (v : Value)
  | sl (tok : Option Nat) (k : Nat) (els : List (List AV))
  | ep (cells : List AV)
  | bp (r off : Nat)
  | mr (r o n : Nat)
  | fn (f : Fn) (first caps : List AV)
  | ag (cells : List AV)
  | tu (vs : List AV)
instance : Inhabited AV := ⟨.any⟩
structure Gh where
  imm : Nat → Nat → Option Value
  blk : Nat → Option Nat
  tl : Nat → Nat → Option Value
inductive Conc (G : Gh) : Value → AV → Prop
  | any (v : Value) : Conc G v .any
  | sc (v : Value) : Conc G v (.sc v)
  | sl {b o cap k : Nat} {tok : Option Nat} {els : List (List AV)} (us : Nat → Nat → Value) (hk : ∀ e, e ∈ els → e.length = k) (hcap : els.length ≤ cap)
      (him : ∀ i j, i < els.length → j < k → G.imm b (o + i * k + j) = some (us i j))
      (hc : ∀ (i : Nat) (e : List AV) (j : Nat) (x : AV), els[i]? = some e → e[j]? = some x → Conc G (us i j) x)
      (ht : ∀ t, tok = some t → G.tl t els.length = some (.slice (some ⟨b, o, none⟩) els.length cap)) :
      Conc G (.slice (some ⟨b, o, none⟩) els.length cap) (.sl tok k els)
  | slnil {k : Nat} {tok : Option Nat} (ht : ∀ t, tok = some t → G.tl t 0 = some (.slice none 0 0)) : Conc G (.slice none 0 0) (.sl tok k [])
  | slz {a : Addr} {k : Nat} : Conc G (.slice (some a) 0 0) (.sl none k [])
  | ep {b o : Nat} {cells : List AV} (us : Nat → Value) (him : ∀ j, j < cells.length → G.imm b (o + j) = some (us j))
      (hc : ∀ (j : Nat) (x : AV), cells[j]? = some x → Conc G (us j) x) : Conc G (.pointer (some ⟨b, o, none⟩)) (.ep cells)
  | bp {r off b : Nat} (h : G.blk r = some b) : Conc G (.pointer (some ⟨b, off, none⟩)) (.bp r off)
  | mr {r o n cap b o' : Nat} (h : G.blk r = some b) (hc : n ≤ cap) (ho : 0 < n → o' = o) : Conc G (.slice (some ⟨b, o', none⟩) n cap) (.mr r o n)
  | fn {f : Fn} {fs cs : List Value} {xs ys : List AV} (l1 : fs.length = xs.length) (l2 : cs.length = ys.length)
      (h1 : ∀ (i : Nat) (v : Value) (x : AV), fs[i]? = some v → xs[i]? = some x → Conc G v x)
      (h2 : ∀ (i : Nat) (v : Value) (x : AV), cs[i]? = some v → ys[i]? = some x → Conc G v x) : Conc G (.func f fs.toArray cs.toArray) (.fn f xs ys)
  | ag {cs : List Value} {xs : List AV} (l : cs.length = xs.length)
      (h : ∀ (i : Nat) (v : Value) (x : AV), cs[i]? = some v → xs[i]? = some x → Conc G v x) : Conc G (.agg cs.toArray) (.ag xs)
  | tu {cs : List Value} {xs : List AV} (l : cs.length = xs.length)
      (h : ∀ (i : Nat) (v : Value) (x : AV), cs[i]? = some v → xs[i]? = some x → Conc G v x) : Conc G (.tuple cs.toArray) (.tu xs)
def ConcL (G : Gh) (vs : List Value) (xs : List AV) : Prop :=
  vs.length = xs.length ∧ ∀ (i : Nat) (v : Value) (x : AV), vs[i]? = some v → xs[i]? = some x → Conc G v x
structure Gh.le (G G' : Gh) : Prop where
  imm : ∀ b o v, G.imm b o = some v → G'.imm b o = some v
  blk : ∀ r b, G.blk r = some b → G'.blk r = some b
  tl : ∀ r n v, G.tl r n = some v → G'.tl r n = some v
theorem Gh.le.refl (G : Gh) : G.le G := ⟨fun _ _ _ h => h, fun _ _ h => h, fun _ _ _ h => h⟩
theorem Gh.le.trans {A B C : Gh} (h : A.le B) (h' : B.le C) : A.le C :=
  ⟨fun b o v e => h'.imm b o v (h.imm b o v e), fun r b e => h'.blk r b (h.blk r b e), fun r n v e => h'.tl r n v (h.tl r n v e)⟩
theorem Conc.mono {G G' : Gh} (hg : G.le G') {v : Value} {x : AV} (h : Conc G v x) : Conc G' v x := by
  induction h with
  | any v => exact .any v
  | sc v => exact .sc v
  | sl us hk hcap him hc ht ih => exact .sl us hk hcap (fun i j hi hj => hg.imm _ _ _ (him i j hi hj)) ih (fun t e => hg.tl _ _ _ (ht t e))
  | slnil ht => exact .slnil (fun t e => hg.tl _ _ _ (ht t e))
  | slz => exact .slz
  | ep us him hc ih => exact .ep us (fun j hj => hg.imm _ _ _ (him j hj)) ih
  | bp h => exact .bp (hg.blk _ _ h)
  | mr h hc ho => exact .mr (hg.blk _ _ h) hc ho
  | fn l1 l2 h1 h2 ih1 ih2 => exact .fn l1 l2 ih1 ih2
  | ag l h ih => exact .ag l ih
  | tu l h ih => exact .tu l ih
theorem ConcL.mono {G G' : Gh} (hg : G.le G') {vs : List Value} {xs : List AV} (h : ConcL G vs xs) : ConcL G' vs xs :=
  ⟨h.1, fun i v x a b => (h.2 i v x a b).mono hg⟩
theorem ConcL.nil (G : Gh) : ConcL G [] [] := ⟨rfl, fun _ _ _ h => by simp at h⟩
theorem ConcL.cons {G : Gh} {v : Value} {x : AV} {vs : List Value} {xs : List AV} (h : Conc G v x) (hs : ConcL G vs xs) : ConcL G (v :: vs) (x :: xs) :=
  ⟨by simp [hs.1], fun i u y a b => by
    cases i with
    | zero => simp at a b; subst a; subst b; exact h
    | succ i => simp at a b; exact hs.2 i u y a b⟩
theorem ConcL.append {G : Gh} {vs vs' : List Value} {xs xs' : List AV} (h : ConcL G vs xs) (h' : ConcL G vs' xs') : ConcL G (vs ++ vs') (xs ++ xs') :=
  ⟨by simp [h.1, h'.1], fun i u y a b => by
    rcases Nat.lt_or_ge i vs.length with hi | hi
    · rw [List.getElem?_append_left hi] at a
      rw [List.getElem?_append_left (h.1 ▸ hi)] at b
      exact h.2 i u y a b
    · rw [List.getElem?_append_right hi] at a
      rw [List.getElem?_append_right (h.1 ▸ hi)] at b
      rw [← h.1] at b
      exact h'.2 _ u y a b⟩
theorem ConcL.split {G : Gh} : ∀ {xs : List AV} {v : Value} {vs : List Value} {x : AV}, ConcL G (v :: vs) (x :: xs) → Conc G v x ∧ ConcL G vs xs
  | xs, v, vs, x, h => ⟨h.2 0 v x rfl rfl, by have := h.1; simp at this; exact this, fun i u y a b => h.2 (i + 1) u y (by simpa using a) (by simpa using b)⟩
theorem ConcL.inv_nil {G : Gh} {vs : List Value} (h : ConcL G vs []) : vs = [] := by
  have := h.1; simp at this; exact this
theorem ConcL.inv_cons {G : Gh} {vs : List Value} {x : AV} {xs : List AV} (h : ConcL G vs (x :: xs)) : ∃ v vs', vs = v :: vs' ∧ Conc G v x ∧ ConcL G vs' xs := by
  cases vs with
  | nil => have := h.1; simp at this
  | cons v vs' => exact ⟨v, vs', rfl, h.split⟩
inductive AObj where
  | dead
  | free
  | cells (xs : List AV) (ty : Option TypeId := none)
  | tail (n k : Nat) (e : TypeId)
  | row (k : Nat) (e : TypeId) (els : List (List AV))
  | loopr (l N : Nat) (ps : Array Tmp) (assign body : Code) (rg : List (Nat × AV)) (st : LoopState) (pend : Option Code)
  | raw (o : Obj)
class GlobF (P : Program) where
  f : Nat → Nat → Option Value
  o : Nat → Option Obj := fun _ => none
structure GlobW (P : Program) [GlobF P] (w : World) (imm : Nat → Nat → Option Value) : Prop where
  f : ∀ b o u, GlobF.f P b o = some u → imm b o = some u
  o : ∀ b x, GlobF.o P b = some x → w.heap[b]? = some x
structure Base (P : Program) [GlobF P] where
  w : World
  imm : Nat → Nat → Option Value
  g0 : Gh
  ok : ∀ b o v, GlobF.f P b o = some v → imm b o = some v ∧ b < w.heap.size
  ok2 : ∀ b x, GlobF.o P b = some x → w.heap[b]? = some x
def slBlock : Option Value → Option Nat
  | some (.slice (some a) _ _) => some a.block
  | _ => none
abbrev BT (tp : Option TypeId) : Type := { t : TypeId // ∀ T, tp = some T → t = T }
def ownBlk (G : Gh) (r : Nat) : AObj → Option Nat
  | .dead => none
  | .free => none
  | .cells _ _ => G.blk r
  | .raw _ => G.blk r
  | .loopr _ _ _ _ _ _ _ _ => G.blk r
  | .tail n _ _ => slBlock (G.tl r n)
  | .row _ _ els => slBlock (G.tl r els.length)
def look : List (Nat × AV) → Nat → AV
  | [], _ => .any
  | (u, v) :: l, t => match Nat.beq u t with
    | true => v
    | false => look l t
section
variable {P : Program} [GlobF P]
def ObjOK (B : Base P) (G : Gh) (w : World) (r : Nat) : AObj → Prop
  | .dead => True
  | .free => G.blk r = none ∧ ∀ n, G.tl r n = none
  | .cells xs tp => ∃ (b : Nat) (c : List Value) (ty : BT tp), G.blk r = some b ∧ B.w.heap.size ≤ b ∧ w.heap[b]? = some (.cells c.toArray ty.1 (0, 0)) ∧ ConcL G c xs ∧ ∀ o, G.imm b o = none
  | .raw o => ∃ b, G.blk r = some b ∧ B.w.heap.size ≤ b ∧ w.heap[b]? = some o ∧ ∀ i, G.imm b i = none
  | .loopr l N ps assign body rg st pend => G.blk r = some l ∧ B.w.heap.size ≤ l ∧ (∀ i, G.imm l i = none) ∧
      ∃ (fn : FuncId) (tm : Array Value) (db : Nat), w.heap[l]? = some (.loop { state := st, pending := pend, fn := fn, tmps := tm, params := ps, assign := assign, body := body, defers := db }) ∧ tm.size = N ∧ ∀ t, Conc G (tm.getD t undef) (look rg t)
  | .tail n k e => (∀ j, n < j → G.tl r j = none) ∧ ((n = 0 ∧ G.tl r 0 = some (.slice none 0 0)) ∨
      ∃ (g cap : Nat) (c : Array Value), G.tl r n = some (.slice (some ⟨g, 0, none⟩) n cap) ∧ B.w.heap.size ≤ g ∧ w.heap[g]? = some (.cells c e (0, 0)) ∧
        n ≤ cap ∧ cap ≤ maxLen ∧ c.size = cap * k ∧ ∀ j, n * k ≤ j → G.imm g j = none)
  | .row k e els => (∀ j, els.length < j → G.tl r j = none) ∧ (∀ x, x ∈ els → x.length = k) ∧ ((els = [] ∧ G.tl r 0 = some (.slice none 0 0)) ∨
      ∃ (g cap : Nat) (c : List Value), G.tl r els.length = some (.slice (some ⟨g, 0, none⟩) els.length cap) ∧ B.w.heap.size ≤ g ∧ w.heap[g]? = some (.cells c.toArray e (0, 0)) ∧
        els.length ≤ cap ∧ cap ≤ maxLen ∧ c.length = cap * k ∧ ConcL G (c.take (els.length * k)) els.flatten ∧ (∀ j, G.imm g j = none) ∧ G.blk r = some g)
structure RH (B : Base P) (G : Gh) (h : List AObj) (w : World) : Prop where
  base : B.g0.le G
  tape : w.tape = B.w.tape
  os : w.os = B.w.os
  output : w.output = B.w.output
  drawn : B.w.drawn ≤ w.drawn
  size : B.w.heap.size ≤ w.heap.size
  out : ∀ b, b < B.w.heap.size → w.heap[b]? = B.w.heap[b]?
  imm : ∀ b o v, G.imm b o = some v → w.cell? ⟨b, o, none⟩ = some v
  low : ∀ b o, b < B.w.heap.size → G.imm b o = B.imm b o
  obj : ∀ (r : Nat) (o : AObj), h[r]? = some o → ObjOK B G w r o
  inj : ∀ (r r' : Nat) (o o' : AObj) (b : Nat), h[r]? = some o → h[r']? = some o' → ownBlk G r o = some b → ownBlk G r' o' = some b → r = r'
  fresh : ∀ r, h.length ≤ r → G.blk r = none ∧ ∀ n, G.tl r n = none
theorem ownBlk.congr {G G' : Gh} {r : Nat} (hb : G'.blk r = G.blk r) (ht : ∀ n, G'.tl r n = G.tl r n) (o : AObj) : ownBlk G' r o = ownBlk G r o := by
  cases o <;> simp only [ownBlk, hb, ht]
theorem ObjOK.keep {B : Base P} {G G' : Gh} {w w' : World} {r : Nat} {o : AObj} (hg : G.le G') (hb : G'.blk r = G.blk r) (ht : ∀ n, G'.tl r n = G.tl r n)
    (hh : ∀ b, ownBlk G r o = some b → b < w.heap.size → w'.heap[b]? = w.heap[b]? ∧ ∀ i, G.imm b i = none → G'.imm b i = none) (h : ObjOK B G w r o) : ObjOK B G' w' r o := by
  have hlt : ∀ {b : Nat} {x : Obj}, w.heap[b]? = some x → b < w.heap.size := fun e => (Array.getElem?_eq_some_iff.1 e).1
  cases o with
  | dead => trivial
  | free => exact ⟨hb.trans h.1, fun n => (ht n).trans (h.2 n)⟩
  | cells xs =>
    obtain ⟨b, c, ty, g1, g2, g3, g4, g5⟩ := h
    obtain ⟨k1, k2⟩ := hh b g1 (hlt g3)
    exact ⟨b, c, ty, hb.trans g1, g2, k1.trans g3, g4.mono hg, fun o => k2 o (g5 o)⟩
  | raw ob =>
    obtain ⟨b, g1, g2, g3, g4⟩ := h
    obtain ⟨k1, k2⟩ := hh b g1 (hlt g3)
    exact ⟨b, hb.trans g1, g2, k1.trans g3, fun o => k2 o (g4 o)⟩
  | loopr l N ps assign body rg st pend =>
    obtain ⟨g1, g2, g3, fn, tm, db, g4, g5, g6⟩ := h
    obtain ⟨k1, k2⟩ := hh l g1 (hlt g4)
    exact ⟨hb.trans g1, g2, fun i => k2 i (g3 i), fn, tm, db, k1.trans g4, g5, fun t => (g6 t).mono hg⟩
  | tail n k e =>
    obtain ⟨g0, g⟩ := h
    refine ⟨fun j hj => (ht j).trans (g0 j hj), ?_⟩
    rcases g with ⟨g1, g2⟩ | ⟨b, cap, c, g1, g2, g3, g4, g5, g6, g7⟩
    · exact .inl ⟨g1, (ht 0).trans g2⟩
    · obtain ⟨k1, k2⟩ := hh b (by simp [ownBlk, slBlock, g1]) (hlt g3)
      exact .inr ⟨b, cap, c, (ht n).trans g1, g2, k1.trans g3, g4, g5, g6, fun j hj => k2 j (g7 j hj)⟩
  | row k e els =>
    obtain ⟨g0, gk, g⟩ := h
    refine ⟨fun j hj => (ht j).trans (g0 j hj), gk, ?_⟩
    rcases g with ⟨g1, g2⟩ | ⟨b, cap, c, g1, g2, g3, g4, g5, g6, g7, g8⟩
    · exact .inl ⟨g1, (ht 0).trans g2⟩
    · obtain ⟨k1, k2⟩ := hh b (by simp [ownBlk, slBlock, g1]) (hlt g3)
      exact .inr ⟨b, cap, c, (ht els.length).trans g1, g2, k1.trans g3, g4, g5, g6, g7.mono hg, fun j => k2 j (g8.1 j), hb.trans g8.2⟩
theorem ObjOK.own {B : Base P} {G : Gh} {w : World} {r : Nat} {o : AObj} (h : ObjOK B G w r o) {b : Nat} (hb : ownBlk G r o = some b) : b < w.heap.size ∧ B.w.heap.size ≤ b := by
  have hlt : ∀ {b : Nat} {x : Obj}, w.heap[b]? = some x → b < w.heap.size := fun e => (Array.getElem?_eq_some_iff.1 e).1
  cases o with
  | dead => cases hb
  | free => cases hb
  | cells xs => obtain ⟨b', c, ty, g1, g2, g3, _⟩ := h; simp only [ownBlk] at hb; rw [g1] at hb; cases hb; exact ⟨hlt g3, g2⟩
  | raw ob => obtain ⟨b', g1, g2, g3, _⟩ := h; simp only [ownBlk] at hb; rw [g1] at hb; cases hb; exact ⟨hlt g3, g2⟩
  | loopr l N ps assign body rg st pend => obtain ⟨g1, g2, g3, fn, tm, db, g4, _⟩ := h; simp only [ownBlk] at hb; rw [g1] at hb; cases hb; exact ⟨hlt g4, g2⟩
  | tail n k e =>
    obtain ⟨_, h⟩ := h
    rcases h with ⟨hn, h0⟩ | ⟨b', cap, c, g1, g2, g3, _⟩
    · simp only [ownBlk, hn, h0, slBlock] at hb; cases hb
    · simp only [ownBlk, g1, slBlock] at hb; cases hb; exact ⟨hlt g3, g2⟩
  | row k e els =>
    obtain ⟨_, _, h⟩ := h
    rcases h with ⟨hn, h0⟩ | ⟨b', cap, c, g1, g2, g3, _⟩
    · subst hn; simp only [ownBlk, List.length_nil, h0, slBlock] at hb; cases hb
    · simp only [ownBlk, g1, slBlock] at hb; cases hb; exact ⟨hlt g3, g2⟩
theorem RH.lt {B : Base P} {G : Gh} {h : List AObj} {w : World} (hr : RH B G h w) {b o : Nat} {v : Value} (e : G.imm b o = some v) : b < w.heap.size := by
  have := hr.imm b o v e
  unfold World.cell? at this
  rcases Nat.lt_or_ge b w.heap.size with h | h
  · exact h
  · simp [Array.getElem?_eq_none h] at this
theorem RH.glob {B : Base P} {G : Gh} {h : List AObj} {w : World} (hr : RH B G h w) (b o : Nat) (u : Value) (e : GlobF.f P b o = some u) : G.imm b o = some u := by
  obtain ⟨h1, h2⟩ := B.ok b o u e
  rw [hr.low b o h2]; exact h1
theorem RH.globW {B : Base P} {G : Gh} {h : List AObj} {w : World} (hr : RH B G h w) : GlobW P w G.imm :=
  ⟨hr.glob, fun b x e => by
    have h1 := B.ok2 b x e
    rw [hr.out b (Array.getElem?_eq_some_iff.1 h1).1]; exact h1⟩
theorem RH.turn {B : Base P} {G G' : Gh} {h h' : List AObj} {w w' : World} (hr : RH B G h w) (hg : B.g0.le G') (ht : w'.tape = w.tape) (hos : w'.os = w.os) (hout : w'.output = w.output) (hdr : w.drawn ≤ w'.drawn)
    (hsz : w.heap.size ≤ w'.heap.size) (hold : ∀ b, b < B.w.heap.size → w'.heap[b]? = w.heap[b]?) (hlow : ∀ b o, b < B.w.heap.size → G'.imm b o = G.imm b o)
    (him : ∀ b o v, G'.imm b o = some v → w'.cell? ⟨b, o, none⟩ = some v)
    (hobj : ∀ r o, h'[r]? = some o → ObjOK B G' w' r o)
    (hown : ∀ r o b, h'[r]? = some o → ownBlk G' r o = some b → w.heap.size ≤ b ∨ ∃ o0, h[r]? = some o0 ∧ ownBlk G r o0 = some b)
    (hnew : ∀ r r' o o' b, h'[r]? = some o → h'[r']? = some o' → ownBlk G' r o = some b → ownBlk G' r' o' = some b → w.heap.size ≤ b → r = r')
    (hfr : ∀ r, h'.length ≤ r → G'.blk r = none ∧ ∀ n, G'.tl r n = none) : RH B G' h' w' := by
  refine ⟨hg, ht.trans hr.tape, hos.trans hr.os, hout.trans hr.output, Nat.le_trans hr.drawn hdr, Nat.le_trans hr.size hsz, fun b hb => (hold b hb).trans (hr.out b hb), him, fun b o hb => (hlow b o hb).trans (hr.low b o hb), hobj, ?_, hfr⟩
  intro r r' o o' b h1 h2 h3 h4
  rcases hown r o b h1 h3 with e | ⟨o0, k1, k2⟩
  · exact hnew r r' o o' b h1 h2 h3 h4 e
  · rcases hown r' o' b h2 h4 with e | ⟨o0', k1', k2'⟩
    · exact hnew r r' o o' b h1 h2 h3 h4 e
    · exact hr.inj r r' o0 o0' b k1 k1' k2 k2'
end
structure Mk where
  l : List Nat
  n0 : Nat
structure AS where
  regs : List (Nat × AV)
  heap : List AObj
  marks : Mk
def AS.get (s : AS) (t : Nat) : AV := look s.regs t
def AS.put (s : AS) (t : Nat) (v : AV) : AS := { s with regs := (t, v) :: s.regs }
def AS.ev (s : AS) : Operand → AV
  | .tmp t => look s.regs t
  | .const v => .sc v
  | .global g => .sc (.pointer (some ⟨g, 0, none⟩))
  | .func f => .sc (.func (.func f) #[] #[])
def lookO : List (Nat × AV) → Nat → Option AV
  | [], _ => some .any
  | (u, v) :: l, t => match Nat.beq u t with
    | true => some v
    | false => lookO l t
theorem lookO_eq : ∀ {l : List (Nat × AV)} {t : Nat} {v : AV}, lookO l t = some v → look l t = v
  | [], t, v, h => by simp [lookO] at h; simp [look, h]
  | (u, x) :: l, t, v, h => by
    simp only [lookO] at h
    simp only [look]
    cases hb : Nat.beq u t with
    | true => rw [hb] at h; simp at h; exact h
    | false => rw [hb] at h; exact lookO_eq h
def AS.evO (s : AS) : Operand → Option AV
  | .tmp t => lookO s.regs t
  | .const v => some (.sc v)
  | .global g => some (.sc (.pointer (some ⟨g, 0, none⟩)))
  | .func f => some (.sc (.func (.func f) #[] #[]))
theorem AS.evO_eq {s : AS} {x : Operand} {v : AV} (h : s.evO x = some v) : s.ev x = v := by
  cases x with
  | tmp t => exact lookO_eq h
  | const c => simp [AS.evO] at h; exact h
  | global g => simp [AS.evO] at h; exact h
  | func f => simp [AS.evO] at h; exact h
section
variable {P : Program} [GlobF P]
structure R (B : Base P) (N : Nat) (G : Gh) (s : AS) (a : Act) (w : World) : Prop where
  heap : RH B G s.heap w
  size : a.tmps.size = N
  regs : ∀ t, Conc G (a.tmps.getD t undef) (look s.regs t)
  defers : a.defers.length = s.marks.l.length ∧ ∀ (i : Nat) (d : Deferred) (r : Nat), a.defers[i]? = some d → s.marks.l[i]? = some r → ∃ b, G.blk r = some b ∧ d = { target := .collected b, args := #[] }
  own : ∀ r, s.marks.n0 ≤ r → B.g0.blk r = none ∧ ∀ n, B.g0.tl r n = none
theorem R.ev {B : Base P} {N : Nat} {G : Gh} {s : AS} {a : Act} {w : World} (h : R B N G s a w) (x : Operand) : Conc G (a.eval x) (s.ev x) := by
  cases x with
  | tmp t => exact h.regs t
  | const v => exact .sc v
  | global g => exact .sc _
  | func f => exact .sc _
theorem R.put {B : Base P} {N : Nat} {G : Gh} {s : AS} {a : Act} {w : World} (h : R B N G s a w) {d : Nat} (hd : d < N) {v : Value} {x : AV} (hv : Conc G v x) :
    R B N G (s.put d x) (a.put (some d) v) w := by
  refine ⟨h.heap, by simp [Act.put, h.size], fun t => ?_, h.defers, h.own⟩
  simp only [AS.put, look, Act.put]
  cases hb : Nat.beq d t with
  | true =>
    have : d = t := Nat.eq_of_beq_eq_true hb
    subst this
    simp [Array.getD_eq_getD_getElem?, h.size, hd, hv]
  | false =>
    have hne : d ≠ t := fun e => by subst e; simp at hb
    have := h.regs t
    simp only [Array.getD_eq_getD_getElem?, Array.getElem?_setIfInBounds_ne hne] at this ⊢
    exact this
theorem R.step {B : Base P} {N : Nat} {G G' : Gh} {s : AS} {a : Act} {w w' : World} {h' : List AObj} (h : R B N G s a w) (hg : G.le G') (hh : RH B G' h' w') :
    R B N G' { s with heap := h' } a w' :=
  ⟨hh, h.size, fun t => (h.regs t).mono hg, ⟨h.defers.1, fun i d r hd hr => let ⟨b, e, f⟩ := h.defers.2 i d r hd hr; ⟨b, hg.blk _ _ e, f⟩⟩, h.own⟩
end
def fence : Option Nat → Fence
  | none => Fence.wide
  | some l => Fence.wide.inRound l
def Post {P : Program} [GlobF P] (B : Base P) (N : Nat) (Q : Exit → AS → Prop) : Exit → Act → World → Prop :=
  fun e a w => ∃ G' s, R B N G' s a w ∧ Q e s
def W (P : Program) [GlobF P] (fr : Option Nat) (N : Nat) (c : Code) (Q : Exit → AS → Prop) (s : AS) : Prop :=
  ∀ (B : Base P) (G : Gh) (a : Act) (w : World), R B N G s a w → c.wpIn (fence fr) 0 P (Post B N Q) a w
section
variable {P : Program} [GlobF P] {fr : Option Nat} {N : Nat} {Q : Exit → AS → Prop} {s : AS}
theorem W_skip (h : Q .normal s) : W P fr N .skip Q s := fun _ G _ _ hr => wpIn_skip ⟨G, s, hr, h⟩
theorem W_label {l : Nat} (h : Q .normal s) : W P fr N (.label l) Q s := fun _ G _ _ hr => wpIn_label ⟨G, s, hr, h⟩
theorem W_exit {id : Nat} (h : Q (.exit id) s) : W P fr N (.exit id) Q s := fun _ G _ _ hr => wpIn_exit ⟨G, s, hr, h⟩
theorem W_ret (h : Q .ret s) : W P fr N .ret Q s := fun _ G _ _ hr => wpIn_ret ⟨G, s, hr, h⟩
def thn (next : AS → Prop) (Q : Exit → AS → Prop) : Exit → AS → Prop
  | .normal, s => next s
  | e, s => Q e s
theorem W_seq {x y : Code} (h : W P fr N x (thn (W P fr N y Q) Q) s) : W P fr N (.seq x y) Q s := by
  intro B G a w hr
  refine wpIn_seq (wpIn_mono (h B G a w hr) ?_)
  rintro e a' w' ⟨G', s', hr', hq⟩
  cases e <;> simp only [thn, Exit.then] at hq ⊢ <;> first | exact hq B G' a' w' hr' | exact ⟨G', s', hr', hq⟩
def inBlk (id : Nat) (Q : Exit → AS → Prop) : Exit → AS → Prop
  | .exit i, s => match Nat.beq i id with
    | true => Q .normal s
    | false => Q (.exit i) s
  | e, s => Q e s
theorem W_block {id : Nat} {c : Code} (h : W P fr N c (inBlk id Q) s) : W P fr N (.block id c) Q s := by
  intro B G a w hr
  refine wpIn_block (wpIn_mono (h B G a w hr) ?_)
  rintro e a' w' ⟨G', s', hr', hq⟩
  cases e with
  | exit i =>
    simp only [inBlk, Exit.inBlock] at hq ⊢
    cases hb : Nat.beq i id with
    | true =>
      rw [hb] at hq
      rw [if_pos (Nat.eq_of_beq_eq_true hb)]; exact ⟨G', s', hr', hq⟩
    | false =>
      rw [hb] at hq
      have hne : i ≠ id := fun e => by subst e; simp at hb
      rw [if_neg hne]; exact ⟨G', s', hr', hq⟩
  | _ => exact ⟨G', s', hr', hq⟩
theorem conc_sc {G : Gh} {v u : Value} (h : Conc G v (.sc u)) : v = u := by cases h; rfl
theorem W_condT {c : Operand} {x y : Code} (hc : s.ev c = .sc (.bool true)) (h : W P fr N x Q s) : W P fr N (.cond c x y) Q s :=
  fun B G a w hr => wpIn_cond_true (conc_sc (hc ▸ hr.ev c)) (h B G a w hr)
theorem W_condF {c : Operand} {x y : Code} (hc : s.ev c = .sc (.bool false)) (h : W P fr N y Q s) : W P fr N (.cond c x y) Q s :=
  fun B G a w hr => wpIn_cond_false (conc_sc (hc ▸ hr.ev c)) (h B G a w hr)
theorem W_cond {c : Operand} {x y : Code} {b : Bool} (hc : s.ev c = .sc (.bool b)) (ht : b = true → W P fr N x Q s) (hf : b = false → W P fr N y Q s) : W P fr N (.cond c x y) Q s :=
  fun B G a w hr => wpIn_cond_split (conc_sc (hc ▸ hr.ev c)) (fun e => ht e B G a w hr) (fun e => hf e B G a w hr)
theorem least (p : Nat → Prop) (h : ∃ n, p n) : ∃ n, p n ∧ ∀ m, p m → n ≤ m := by
  obtain ⟨n, hn⟩ := h
  induction n using Nat.strongRecOn with
  | _ n ih =>
    by_cases hex : ∃ m, m < n ∧ p m
    · obtain ⟨m, hlt, hm⟩ := hex; exact ih m hlt hm
    · exact ⟨n, hn, fun m hm => by
        rcases Nat.lt_or_ge m n with hl | hl
        · exact absurd ⟨m, hl, hm⟩ hex
        · exact hl⟩
end
end Go.AL

namespace Go.Proofs
structure Sp where
  f : Int
  t : Int
theorem Sp.ext' {a b : Sp} (h1 : a.f = b.f) (h2 : a.t = b.t) : a = b := by
  obtain ⟨a, b⟩ := a; simp only at h1 h2; subst h1; subst h2; rfl
def inS (l : List Sp) (x : Int) : Prop := ∃ s, s ∈ l ∧ s.f ≤ x ∧ x < s.t
def neS (l : List Sp) : Prop := ∀ s, s ∈ l → s.f < s.t
def SetP (l : List Sp) : Prop := neS l ∧ l.Pairwise (fun a b => a.t < b.f)
theorem inS_nil (x : Int) : ¬ inS [] x := fun ⟨_, h, _⟩ => by simp at h
theorem inS_cons (s : Sp) (l : List Sp) (x : Int) : inS (s :: l) x ↔ (s.f ≤ x ∧ x < s.t) ∨ inS l x := by
  constructor
  · rintro ⟨r, hr, h⟩
    rcases List.mem_cons.1 hr with rfl | hr
    · exact .inl h
    · exact .inr ⟨r, hr, h⟩
  · rintro (h | ⟨r, hr, h⟩)
    · exact ⟨s, List.mem_cons_self, h⟩
    · exact ⟨r, List.mem_cons_of_mem _ hr, h⟩
theorem inS_append (a b : List Sp) (x : Int) : inS (a ++ b) x ↔ inS a x ∨ inS b x := by
  induction a with
  | nil => simp [inS_nil]
  | cons s a ih => rw [List.cons_append, inS_cons, inS_cons, ih, or_assoc]
theorem inS_perm {a b : List Sp} (h : a.Perm b) (x : Int) : inS a x ↔ inS b x :=
  ⟨fun ⟨s, hs, e⟩ => ⟨s, h.mem_iff.1 hs, e⟩, fun ⟨s, hs, e⟩ => ⟨s, h.mem_iff.2 hs, e⟩⟩
theorem SetP.nil : SetP [] := ⟨fun _ h => by simp at h, List.Pairwise.nil⟩
theorem setP_cons {s : Sp} {l : List Sp} : SetP (s :: l) ↔ s.f < s.t ∧ (∀ r, r ∈ l → s.t < r.f) ∧ SetP l := by
  constructor
  · rintro ⟨h1, h2⟩
    exact ⟨h1 s List.mem_cons_self, (List.pairwise_cons.1 h2).1, fun r hr => h1 r (List.mem_cons_of_mem _ hr), (List.pairwise_cons.1 h2).2⟩
  · rintro ⟨h1, h2, h3, h4⟩
    refine ⟨fun r hr => ?_, List.pairwise_cons.2 ⟨h2, h4⟩⟩
    rcases List.mem_cons.1 hr with rfl | hr
    · exact h1
    · exact h3 r hr
theorem setP_append {a b : List Sp} (ha : SetP a) (hb : SetP b) (h : ∀ s, s ∈ a → ∀ r, r ∈ b → s.t < r.f) : SetP (a ++ b) :=
  ⟨fun s hs => by rcases List.mem_append.1 hs with h | h; exact ha.1 s h; exact hb.1 s h, List.pairwise_append.2 ⟨ha.2, hb.2, h⟩⟩
theorem setP_one {s : Sp} (h : s.f < s.t) : SetP [s] := setP_cons.2 ⟨h, fun _ h => by simp at h, .nil⟩
theorem set_ext : ∀ {a b : List Sp}, SetP a → SetP b → (∀ x, inS a x ↔ inS b x) → a = b
  | [], [], _, _, _ => rfl
  | [], r :: b, _, hb, h => absurd ((h r.f).2 ((inS_cons _ _ _).2 (.inl ⟨Int.le_refl _, (setP_cons.1 hb).1⟩))) (inS_nil _)
  | s :: a, [], ha, _, h => absurd ((h s.f).1 ((inS_cons _ _ _).2 (.inl ⟨Int.le_refl _, (setP_cons.1 ha).1⟩))) (inS_nil _)
  | s :: a, r :: b, ha, hb, h => by
    obtain ⟨a1, a2, a3⟩ := setP_cons.1 ha
    obtain ⟨b1, b2, b3⟩ := setP_cons.1 hb
    have lo1 : r.f ≤ s.f := by
      rcases (inS_cons _ _ _).1 ((h s.f).1 ((inS_cons _ _ _).2 (.inl ⟨Int.le_refl _, a1⟩))) with e | ⟨u, hu, e⟩
      · exact e.1
      · have := b2 u hu; omega
    have lo2 : s.f ≤ r.f := by
      rcases (inS_cons _ _ _).1 ((h r.f).2 ((inS_cons _ _ _).2 (.inl ⟨Int.le_refl _, b1⟩))) with e | ⟨u, hu, e⟩
      · exact e.1
      · have := a2 u hu; omega
    have hi1 : r.t ≤ s.t := by
      rcases Int.lt_or_le s.t r.t with g | g
      · rcases (inS_cons _ _ _).1 ((h s.t).2 ((inS_cons _ _ _).2 (.inl ⟨by omega, g⟩))) with e | ⟨u, hu, e⟩
        · omega
        · have := a2 u hu; omega
      · exact g
    have hi2 : s.t ≤ r.t := by
      rcases Int.lt_or_le r.t s.t with g | g
      · rcases (inS_cons _ _ _).1 ((h r.t).1 ((inS_cons _ _ _).2 (.inl ⟨by omega, g⟩))) with e | ⟨u, hu, e⟩
        · omega
        · have := b2 u hu; omega
      · exact g
    have e : s = r := Sp.ext' (by omega) (by omega)
    subst e
    congr 1
    refine set_ext a3 b3 fun x => ⟨fun hx => ?_, fun hx => ?_⟩
    · rcases (inS_cons _ _ _).1 ((h x).1 ((inS_cons _ _ _).2 (.inr hx))) with e | e
      · obtain ⟨u, hu, e2⟩ := hx; have := a2 u hu; omega
      · exact e
    · rcases (inS_cons _ _ _).1 ((h x).2 ((inS_cons _ _ _).2 (.inr hx))) with e | e
      · obtain ⟨u, hu, e2⟩ := hx; have := b2 u hu; omega
      · exact e
theorem set_empty {a : List Sp} (ha : SetP a) (h : ∀ x, ¬ inS a x) : a = [] := set_ext ha .nil fun x => ⟨fun e => absurd e (h x), fun e => absurd e (inS_nil x)⟩
def SetI (l : List Sp) : Prop := ∀ (i : Nat) (h : i < l.length), l[i].f < l[i].t ∧ ∀ h0 : 0 < i, (l[i - 1]'(by omega)).t < l[i].f
theorem setI_iff (l : List Sp) : SetI l ↔ SetP l := by
  constructor
  · intro h
    refine ⟨fun s hs => ?_, List.pairwise_iff_getElem.2 ?_⟩
    · obtain ⟨i, hi, rfl⟩ := List.getElem_of_mem hs
      exact (h i hi).1
    · intro i j hi hj hij
      induction j with
      | zero => omega
      | succ j ih =>
        have h1 := (h (j + 1) hj).2 (by omega)
        simp only [Nat.add_sub_cancel] at h1
        rcases Nat.lt_or_ge i j with g | g
        · have h2 := ih (by omega) g
          have h3 := (h j (by omega)).1
          omega
        · have e : i = j := by omega
          subst e; exact h1
  · rintro ⟨h1, h2⟩ i hi
    exact ⟨h1 _ (List.getElem_mem _), fun h0 => List.pairwise_iff_getElem.1 h2 (i - 1) i (by omega) hi (by omega)⟩
def jn (out : List Sp) (s : Sp) : List Sp :=
  match out.getLast? with
  | none => out ++ [s]
  | some p => if s.f ≤ p.t then out.dropLast ++ [⟨p.f, max p.t s.t⟩] else out ++ [s]
def J (m : List Sp) : List Sp := m.foldl jn []
theorem jn_nil (s : Sp) : jn [] s = [s] := rfl
theorem jn_snoc (o : List Sp) (p s : Sp) : jn (o ++ [p]) s = if s.f ≤ p.t then o ++ [⟨p.f, max p.t s.t⟩] else o ++ [p] ++ [s] := by
  unfold jn; rw [List.getLast?_concat]; simp only [List.dropLast_concat]
theorem J_snoc (m : List Sp) (s : Sp) : J (m ++ [s]) = jn (J m) s := by unfold J; rw [List.foldl_append]; rfl
theorem snoc_cases {α : Type} (l : List α) : l = [] ∨ ∃ m x, l = m ++ [x] := by
  rcases List.eq_nil_or_concat l with h | ⟨m, x, h⟩
  · exact .inl h
  · exact .inr ⟨m, x, by rw [h, List.concat_eq_append]⟩
theorem snoc_ind {α : Type} {p : List α → Prop} (h0 : p []) (h1 : ∀ m x, p m → p (m ++ [x])) : ∀ l, p l := fun l => by
  have : ∀ (n : Nat) (l : List α), l.length = n → p l := fun n => by
    induction n with
    | zero => intro l hl; rw [List.length_eq_zero_iff.1 hl]; exact h0
    | succ n ih =>
      intro l hl
      rcases snoc_cases l with rfl | ⟨m, x, rfl⟩
      · exact h0
      · exact h1 m x (ih m (by simpa using hl))
  exact this _ l rfl
theorem setP_snoc {o : List Sp} {p : Sp} : SetP (o ++ [p]) ↔ SetP o ∧ p.f < p.t ∧ ∀ s, s ∈ o → s.t < p.f := by
  constructor
  · rintro ⟨h1, h2⟩
    obtain ⟨g1, g2, g3⟩ := List.pairwise_append.1 h2
    exact ⟨⟨fun s hs => h1 s (List.mem_append_left _ hs), g1⟩, h1 p (by simp), fun s hs => g3 s hs p (by simp)⟩
  · rintro ⟨h1, h2, h3⟩
    exact setP_append h1 (setP_one h2) fun s hs r hr => by rw [List.mem_singleton.1 hr]; exact h3 s hs
theorem inS_one (p : Sp) (x : Int) : inS [p] x ↔ p.f ≤ x ∧ x < p.t := by
  rw [inS_cons]; exact ⟨fun h => by rcases h with h | h; exact h; exact absurd h (inS_nil x), .inl⟩
theorem J_ok : ∀ m : List Sp, neS m → m.Pairwise (fun a b => a.f ≤ b.f) → SetP (J m) ∧ (∀ x, inS (J m) x ↔ inS m x) ∧ ∀ p, (J m).getLast? = some p → ∃ s, s ∈ m ∧ p.f = s.f := by
  refine snoc_ind ?_ ?_
  · intro _ _; exact ⟨.nil, fun x => Iff.rfl, fun p h => by simp [J] at h⟩
  · intro m s ih hn hp
    obtain ⟨g1, _, g3⟩ := List.pairwise_append.1 hp
    obtain ⟨i1, i2, i3⟩ := ih (fun r hr => hn r (List.mem_append_left _ hr)) g1
    have hs : s.f < s.t := hn s (by simp)
    rw [J_snoc]
    rcases snoc_cases (J m) with e | ⟨o, p, e⟩
    · rw [e, jn_nil]
      refine ⟨setP_one hs, fun x => ?_, fun p h => ?_⟩
      · rw [inS_append, ← i2 x, e]; exact ⟨.inr, fun h => by rcases h with h | h; exact absurd h (inS_nil x); exact h⟩
      · simp at h; subst h; exact ⟨s, by simp, rfl⟩
    · rw [e] at i1 i2 i3
      obtain ⟨k1, k2, k3⟩ := setP_snoc.1 i1
      obtain ⟨q, hq, hqf⟩ := i3 p (by simp)
      have hle : p.f ≤ s.f := by rw [hqf]; exact g3 q hq s (by simp)
      rw [e, jn_snoc]
      by_cases h : s.f ≤ p.t
      · rw [if_pos h]
        refine ⟨setP_snoc.2 ⟨k1, by show p.f < max p.t s.t; omega, k3⟩, fun x => ?_, fun r hr => ?_⟩
        · rw [inS_append, inS_one, inS_append, inS_one, ← i2 x, inS_append, inS_one]
          simp only []
          constructor
          · rintro (h1 | h1)
            · exact .inl (.inl h1)
            · by_cases h2 : x < p.t
              · exact .inl (.inr ⟨h1.1, h2⟩)
              · exact .inr (by omega)
          · rintro ((h1 | h1) | h1)
            · exact .inl h1
            · exact .inr (by omega)
            · exact .inr (by omega)
        · simp at hr; subst hr; exact ⟨q, List.mem_append_left _ hq, hqf⟩
      · rw [if_neg h]
        refine ⟨setP_snoc.2 ⟨i1, hs, fun r hr => ?_⟩, fun x => ?_, fun r hr => ?_⟩
        · rcases List.mem_append.1 hr with h1 | h1
          · have := k3 r h1; omega
          · rw [List.mem_singleton.1 h1]; omega
        · rw [inS_append, inS_append m, ← i2 x]
        · simp at hr; subst hr; exact ⟨s, by simp, rfl⟩
def meetL (a b : List Sp) : List Sp :=
  match a, b with
  | s :: a, r :: b => (if max s.f r.f < min s.t r.t then [⟨max s.f r.f, min s.t r.t⟩] else []) ++ (if s.t < r.t then meetL a (r :: b) else meetL (s :: a) b)
  | [], _ => []
  | _ :: _, [] => []
termination_by a.length + b.length
decreasing_by all_goals (simp; try omega)
theorem meetL_nil (b : List Sp) : meetL [] b = [] := by unfold meetL; rfl
theorem meetL_nil2 (a : List Sp) : meetL a [] = [] := by cases a <;> (unfold meetL; rfl)
theorem meetL_cons (s r : Sp) (a b : List Sp) : meetL (s :: a) (r :: b) = (if max s.f r.f < min s.t r.t then [⟨max s.f r.f, min s.t r.t⟩] else []) ++ (if s.t < r.t then meetL a (r :: b) else meetL (s :: a) b) := by rw [meetL]
theorem meet_of : ∀ (n : Nat) (a b : List Sp), a.length + b.length ≤ n → ∀ u, u ∈ meetL a b → ∃ p, p ∈ a ∧ ∃ q, q ∈ b ∧ u.f = max p.f q.f ∧ u.t = min p.t q.t ∧ u.f < u.t
  | _, [], b, _, u, h => by rw [meetL_nil] at h; simp at h
  | _, _ :: _, [], _, u, h => by rw [meetL_nil2] at h; simp at h
  | 0, _ :: _, _ :: _, h, _, _ => by simp at h
  | n + 1, s :: a, r :: b, hn, u, h => by
    rw [meetL_cons] at h
    simp only [List.length_cons] at hn
    rcases List.mem_append.1 h with h | h
    · split at h
      · rw [List.mem_singleton.1 h]; exact ⟨s, List.mem_cons_self, r, List.mem_cons_self, rfl, rfl, by assumption⟩
      · simp at h
    · split at h
      · obtain ⟨p, hp, q, hq, e⟩ := meet_of n a (r :: b) (by simp; omega) u h
        exact ⟨p, List.mem_cons_of_mem _ hp, q, hq, e⟩
      · obtain ⟨p, hp, q, hq, e⟩ := meet_of n (s :: a) b (by simp; omega) u h
        exact ⟨p, hp, q, List.mem_cons_of_mem _ hq, e⟩
theorem meet_ok : ∀ (n : Nat) (a b : List Sp), a.length + b.length ≤ n → SetP a → SetP b → SetP (meetL a b) ∧ ∀ x, inS (meetL a b) x ↔ (inS a x ∧ inS b x)
  | _, [], b, _, _, _ => by rw [meetL_nil]; exact ⟨.nil, fun x => ⟨fun h => absurd h (inS_nil x), fun h => absurd h.1 (inS_nil x)⟩⟩
  | _, _ :: _, [], _, _, _ => by rw [meetL_nil2]; exact ⟨.nil, fun x => ⟨fun h => absurd h (inS_nil x), fun h => absurd h.2 (inS_nil x)⟩⟩
  | 0, _ :: _, _ :: _, h, _, _ => by simp at h
  | n + 1, s :: a, r :: b, hn, ha, hb => by
    simp only [List.length_cons] at hn
    obtain ⟨a1, a2, a3⟩ := setP_cons.1 ha
    obtain ⟨b1, b2, b3⟩ := setP_cons.1 hb
    rw [meetL_cons]
    have hone : SetP (if max s.f r.f < min s.t r.t then [(⟨max s.f r.f, min s.t r.t⟩ : Sp)] else []) := by
      split
      · exact setP_one (by assumption)
      · exact .nil
    have hone2 : ∀ x, inS (if max s.f r.f < min s.t r.t then [(⟨max s.f r.f, min s.t r.t⟩ : Sp)] else []) x ↔ ((s.f ≤ x ∧ x < s.t) ∧ (r.f ≤ x ∧ x < r.t)) := fun x => by
      split
      · rw [inS_one]; simp only []; omega
      · exact ⟨fun h => absurd h (inS_nil x), fun h => by omega⟩
    have hb1 : ∀ u, u ∈ (if max s.f r.f < min s.t r.t then [(⟨max s.f r.f, min s.t r.t⟩ : Sp)] else []) → u.t = min s.t r.t := fun u hu => by
      split at hu
      · rw [List.mem_singleton.1 hu]
      · simp at hu
    by_cases hc : s.t < r.t
    · rw [if_pos hc]
      obtain ⟨k1, k2⟩ := meet_ok n a (r :: b) (by simp; omega) a3 hb
      refine ⟨setP_append hone k1 fun u hu v hv => ?_, fun x => ?_⟩
      · obtain ⟨p, hp, q, hq, e1, _⟩ := meet_of _ _ _ (Nat.le_refl _) v hv
        have := a2 p hp; have := hb1 u hu; omega
      · rw [inS_append, hone2, k2, inS_cons, inS_cons]
        constructor
        · rintro (h | h)
          · exact ⟨.inl h.1, .inl h.2⟩
          · exact ⟨.inr h.1, h.2⟩
        · rintro ⟨h | h, h2⟩
          · rcases h2 with h2 | ⟨v, hv, h2⟩
            · exact .inl ⟨h, h2⟩
            · have := b2 v hv; omega
          · exact .inr ⟨h, h2⟩
    · rw [if_neg hc]
      obtain ⟨k1, k2⟩ := meet_ok n (s :: a) b (by simp; omega) ha b3
      refine ⟨setP_append hone k1 fun u hu v hv => ?_, fun x => ?_⟩
      · obtain ⟨p, hp, q, hq, e1, _⟩ := meet_of _ _ _ (Nat.le_refl _) v hv
        have := b2 q hq; have := hb1 u hu; omega
      · rw [inS_append, hone2, k2, inS_cons, inS_cons]
        constructor
        · rintro (h | h)
          · exact ⟨.inl h.1, .inl h.2⟩
          · exact ⟨h.1, .inr h.2⟩
        · rintro ⟨h, h2 | h2⟩
          · rcases h with h | ⟨v, hv, h⟩
            · exact .inl ⟨h, h2⟩
            · have := a2 v hv; omega
          · exact .inr ⟨h, h2⟩
abbrev loT : Int := -9223372036854775808
abbrev hiT : Int := 9223372036854775807
def restL (at_ : Int) : List Sp → List Sp
  | [] => if at_ < hiT then [⟨at_, hiT⟩] else []
  | s :: l => (if at_ < s.f then [⟨at_, s.f⟩] else []) ++ restL s.t l
def rngS (l : List Sp) : Prop := ∀ s, s ∈ l → (loT ≤ s.f ∧ s.f ≤ hiT) ∧ loT ≤ s.t ∧ s.t ≤ hiT
theorem rest_ge : ∀ (l : List Sp) (a : Int), SetP l → (∀ s, s ∈ l → a ≤ s.f) → ∀ u, u ∈ restL a l → a ≤ u.f
  | [], a, _, _, u, h => by
    unfold restL at h; split at h
    · rw [List.mem_singleton.1 h]; exact Int.le_refl _
    · simp at h
  | s :: l, a, hs, hl, u, h => by
    obtain ⟨h1, h2, h3⟩ := setP_cons.1 hs
    unfold restL at h
    rcases List.mem_append.1 h with h | h
    · split at h
      · rw [List.mem_singleton.1 h]; exact Int.le_refl _
      · simp at h
    · have := rest_ge l s.t h3 (fun r hr => Int.le_of_lt (h2 r hr)) u h
      have := hl s List.mem_cons_self
      omega
theorem rest_ok : ∀ (l : List Sp) (a : Int), SetP l → rngS l → (∀ s, s ∈ l → a ≤ s.f) → SetP (restL a l) ∧ ∀ x, inS (restL a l) x ↔ (a ≤ x ∧ x < hiT ∧ ¬ inS l x)
  | [], a, _, _, _ => by
    unfold restL; split
    · exact ⟨setP_one (by assumption), fun x => by rw [inS_one]; exact ⟨fun h => ⟨h.1, h.2, inS_nil x⟩, fun h => ⟨h.1, h.2.1⟩⟩⟩
    · exact ⟨.nil, fun x => ⟨fun h => absurd h (inS_nil x), fun h => by omega⟩⟩
  | s :: l, a, hs, hr, hl => by
    obtain ⟨h1, h2, h3⟩ := setP_cons.1 hs
    have hle := hl s List.mem_cons_self
    have hrs := hr s List.mem_cons_self
    obtain ⟨k1, k2⟩ := rest_ok l s.t h3 (fun r e => hr r (List.mem_cons_of_mem _ e)) (fun r e => Int.le_of_lt (h2 r e))
    have k3 := rest_ge l s.t h3 (fun r e => Int.le_of_lt (h2 r e))
    unfold restL
    constructor
    · refine setP_append (by split; exact setP_one (by assumption); exact .nil) k1 fun u hu v hv => ?_
      have := k3 v hv
      split at hu
      · rw [List.mem_singleton.1 hu]; simp only []; omega
      · simp at hu
    · intro x
      rw [inS_append, k2, inS_cons]
      have e1 : inS (if a < s.f then [(⟨a, s.f⟩ : Sp)] else []) x ↔ (a ≤ x ∧ x < s.f) := by
        split
        · rw [inS_one]
        · exact ⟨fun h => absurd h (inS_nil x), fun h => by omega⟩
      rw [e1]
      constructor
      · rintro (h | h)
        · refine ⟨h.1, by omega, ?_⟩
          rintro (g | ⟨u, hu, g⟩)
          · omega
          · have := h2 u hu; omega
        · refine ⟨by omega, h.2.1, ?_⟩
          rintro (g | g)
          · omega
          · exact h.2.2 g
      · rintro ⟨g1, g2, g3⟩
        by_cases h : x < s.f
        · exact .inl ⟨g1, h⟩
        · have : s.t ≤ x := by
            rcases Int.lt_or_le x s.t with e | e
            · exact absurd (.inl ⟨by omega, e⟩) g3
            · exact e
          exact .inr ⟨this, g2, fun e => g3 (.inr e)⟩
end Go.Proofs

namespace Go.Proofs
end Go.Proofs
