/- The rules of the abstract logic, third part: new memory that stays; elements; slices; conversions. No condition. -/
import Derived.Test.YtpfalehodcbnbaaCall
import Derived.Laws.BytesString
namespace Go.AL

/-- The cells of a value, where they are known. -/
def cellsO : AV → Option (List AV)
  | .ag cs => some cs
  | .sc (.agg _) => none
  | .sc (.tuple _) => none
  | .sc v => some [.sc v]
  | .any => none
  | .tu _ => none
  | x => some [x]

theorem cellsO_conc {G : Gh} {v : Value} {x : AV} {cs : List AV} (h : Conc G v x) (hc : cellsO x = some cs) : ConcL G v.cells.toList cs := by
  cases h with
  | any v => simp [cellsO] at hc
  | sc v => cases v <;> simp [cellsO] at hc <;> subst hc <;> exact .cons (.sc _) (.nil _)
  | sl us hk hcap him hc' ht => simp [cellsO] at hc; subst hc; exact .cons (.sl us hk hcap him hc' ht) (.nil _)
  | slnil ht => simp [cellsO] at hc; subst hc; exact .cons (.slnil ht) (.nil _)
  | slz => simp [cellsO] at hc; subst hc; exact .cons .slz (.nil _)
  | ep us him hc' => simp [cellsO] at hc; subst hc; exact .cons (.ep us him hc') (.nil _)
  | bp hb => simp [cellsO] at hc; subst hc; exact .cons (.bp hb) (.nil _)
  | mr hb => simp [cellsO] at hc; subst hc; exact .cons (.mr hb) (.nil _)
  | fn l1 l2 h1 h2 => simp [cellsO] at hc; subst hc; exact .cons (.fn l1 l2 h1 h2) (.nil _)
  | ag l h => simp [cellsO] at hc; subst hc; exact ⟨by simpa [Value.cells] using l, by simpa [Value.cells] using h⟩
  | tu l h => simp [cellsO] at hc

/-- New memory that stays. -/
theorem RH.allocImm {P : Program} [GlobF P] {B : Base P} {G : Gh} {h : List AObj} {w : World} (hr : RH B G h w) (c : List Value) (ty : TypeId) (fz : Nat × Nat) (n : Nat) :
    G.le ⟨fun b o => if b = w.heap.size then c[o]? else G.imm b o, G.blk, G.tl⟩ ∧
      RH B ⟨fun b o => if b = w.heap.size then c[o]? else G.imm b o, G.blk, G.tl⟩ h { w with heap := w.heap.push (.cells c.toArray ty fz), drawn := w.drawn + n } := by
  refine hr.grown ⟨rfl, rfl, rfl, by simp, by simp, fun b hb => ?_⟩ (fun b o hb => ?_) (fun b o u hu => ?_)
  · rw [Array.getElem?_push_lt hb]; exact (Array.getElem?_eq_getElem hb).symm
  · rw [if_neg (by omega)]
  · by_cases e : b = w.heap.size
    · subst e
      simpa [World.cell?] using hu
    · rw [if_neg e] at hu
      have := hr.imm b o u hu
      unfold World.cell? at this ⊢
      rw [Array.getElem?_push, if_neg e]; exact this

section
variable {P : Program} [GlobF P] {fr : Option Nat} {N : Nat} {Q : Exit → AS → Prop} {s : AS} {ops : Array Oper} {rest : List Oper} {ty : TypeId} {pos : String} {af : Array Edge} {dst : Option Nat} {gd : Option (Nat × Bool)} {ρ : Operand → Option AV} {hp : List AObj}

theorem run_newVar {P0 : Program} (t : TypeId) (v : Value) (w : World) : (newVar t v).run P0 w = .ok ⟨w.heap.size, 0, none⟩ (w.alloc (.cells v.cells t)) := rfl

/-- A variable that stays as it is laid. -/
theorem D_box {t : TypeId} {x : Operand} {v : AV} {cs : List AV} (hx : ρ x = some v) (hc : cellsO v = some cs) : PPOp P { dst := dst, op := .box t x, type := ty, pos := pos, after := af, guard := gd } ρ (.ep cs) :=
  PPOp.op (by simp) (fun B G a w hR E => by
    have hv := E _ (by first | exact List.Mem.head _ | exact List.Mem.tail _ (List.Mem.head _) | exact List.Mem.tail _ (List.Mem.tail _ (List.Mem.head _))) _ hx
    have hcs := cellsO_conc hv hc
    obtain ⟨hle, hr'⟩ := hR.allocImm (a.eval x).cells.toList t (0, 0) 0
    have e : (a.eval x).cells.toList.toArray = (a.eval x).cells := Array.toArray_toList
    rw [e] at hr'
    exact ⟨.pointer (some ⟨w.heap.size, 0, none⟩), _, _, rfl, hle, hr', ep_mk (hcs.mono hle) (fun j u hu => by simpa using hu)⟩)

/-- An element of a slice. -/
theorem sl_inv {G : Gh} {v : Value} {tok : Option Nat} {k : Nat} {els : List (List AV)} (h : Conc G v (.sl tok k els)) (i : Nat) (hi : i < els.length) :
    ∃ b o cap, v = .slice (some ⟨b, o, none⟩) els.length cap ∧ els.length ≤ cap ∧ Conc G (.pointer (some ⟨b, o + i * k, none⟩)) (.ep els[i]) := by
  cases h with
  | @sl b o cap _ _ _ us hk hcap him hc ht =>
    refine ⟨b, o, cap, rfl, hcap, .ep (fun j => us i j) (fun j hj => him i j hi (by rw [← hk _ (List.getElem_mem hi)]; exact hj)) (fun j x hx => hc i _ j x (List.getElem?_eq_getElem hi) hx)⟩
  | slnil => simp at hi
  | slz => simp at hi

theorem D_idxA0 {t e : TypeId} {x ix : Operand} {tok : Option Nat} {k : Nat} {els : List (List AV)} {kk : IntKind} {i : Int} [hu : Und P t (.slice e)] [hs : Siz P e k] (hx : ρ x = some (.sl tok k els)) (hi : ρ ix = some (.sc (.int kk i))) (h0 : 0 ≤ i) (h1 : i.toNat < els.length)
    : PPOp P { dst := dst, op := .indexAddr t x ix, type := ty, pos := pos, after := af, guard := gd } ρ (.ep els[i.toNat]) :=
  PPOp.val (by simp) (fun B G a w hR E => by
    obtain ⟨b, o, cap, hv, hcap, hp⟩ := sl_inv (E _ (by first | exact List.Mem.head _ | exact List.Mem.tail _ (List.Mem.head _) | exact List.Mem.tail _ (List.Mem.tail _ (List.Mem.head _))) _ hx) i.toNat h1
    have h2 : i < (els.length : Int) := by omega
    exact ⟨.pointer (some ⟨b, o + i.toNat * k, none⟩), by simp [execOp, Instr.indexAt, hv, conc_sc (E _ (by first | exact List.Mem.head _ | exact List.Mem.tail _ (List.Mem.head _) | exact List.Mem.tail _ (List.Mem.tail _ (List.Mem.head _))) _ hi), asIntOf, run_underlying hu.h, hs.h, h0, h2, add_none], hp⟩)

/-- .. of one that stands for a list. -/
theorem D_idxA {α : Type} {t e : TypeId} {x ix : Operand} {tok : Option Nat} {k : Nat} {l : List α} {f : α → List AV} {kk : IntKind} {i : Int} [hu : Und P t (.slice e)] [hs : Siz P e k] (hx : ρ x = some (.sl tok k (l.map f))) (hi : ρ ix = some (.sc (.int kk i))) (h0 : 0 ≤ i) (h1 : i.toNat < l.length) :
    PPOp P { dst := dst, op := .indexAddr t x ix, type := ty, pos := pos, after := af, guard := gd } ρ (.ep (f l[i.toNat])) := by
  have := D_idxA0 (P := P) (ty := ty) (pos := pos) (af := af) (dst := dst) (gd := gd) (t := t) hx hi h0 (by simpa using h1)
  simpa using this

theorem D_idxAn {α : Type} {t e : TypeId} {x ix : Operand} {tok : Option Nat} {k : Nat} {l : List α} {f : α → List AV} {kk : IntKind} {j : Nat} [hu : Und P t (.slice e)] [hs : Siz P e k] (hx : ρ x = some (.sl tok k (l.map f))) (hi : ρ ix = some (.sc (.int kk (j : Int)))) (h1 : j < l.length) :
    PPOp P { dst := dst, op := .indexAddr t x ix, type := ty, pos := pos, after := af, guard := gd } ρ (.ep (f l[j])) := D_idxA hx hi (Int.natCast_nonneg j) h1

theorem bytes_get (l : List UInt8) (i : Nat) (h : i < l.length) : (ByteArray.mk l.toArray)[i]? = some l[i] := by
  rw [ByteArray.getElem?_lt' _ _ (by simpa [ByteArray.size] using h)]
  rfl

/-- A byte of a string. -/
theorem D_idxS {t : TypeId} {x ix : Operand} {l : List UInt8} {kk : IntKind} {i : Int} [hu : Und P t .string] (hx : ρ x = some (str l)) (hi : ρ ix = some (.sc (.int kk i))) (h0 : 0 ≤ i) (h1 : i.toNat < l.length)
    : PPOp P { dst := dst, op := .index t x ix, type := ty, pos := pos, after := af, guard := gd } ρ (.sc (.int .u8 (l[i.toNat].toNat : Int))) :=
  PPOp.val (by simp) (fun B G a w hR E => ⟨.int .u8 (l[i.toNat].toNat : Int), by
    simp [execOp, Instr.index, conc_sc (E _ (by first | exact List.Mem.head _ | exact List.Mem.tail _ (List.Mem.head _) | exact List.Mem.tail _ (List.Mem.tail _ (List.Mem.head _))) _ hx), conc_sc (E _ (by first | exact List.Mem.head _ | exact List.Mem.tail _ (List.Mem.head _) | exact List.Mem.tail _ (List.Mem.tail _ (List.Mem.head _))) _ hi), asIntOf, run_underlying hu.h, h0, bytes_get l _ h1], .sc _⟩)

theorem D_idxSn {t : TypeId} {x ix : Operand} {l : List UInt8} {kk : IntKind} {j : Nat} [hu : Und P t .string] (hx : ρ x = some (str l)) (hi : ρ ix = some (.sc (.int kk (j : Int)))) (h1 : j < l.length) :
    PPOp P { dst := dst, op := .index t x ix, type := ty, pos := pos, after := af, guard := gd } ρ (.sc (.int .u8 (l[j].toNat : Int))) := D_idxS hx hi (Int.natCast_nonneg j) h1

theorem D_ext {x : Operand} {i : Nat} {vs : List AV} {v : AV} (hx : ρ x = some (.tu vs)) (hv : vs[i]? = some v) : PPOp P { dst := dst, op := .extract x i, type := ty, pos := pos, after := af, guard := gd } ρ v :=
  PPOp.val (by simp) (fun B G a w hR E => by
    have e := E _ (by first | exact List.Mem.head _ | exact List.Mem.tail _ (List.Mem.head _) | exact List.Mem.tail _ (List.Mem.tail _ (List.Mem.head _))) _ hx
    generalize he : a.eval x = u at e
    cases e with
    | @tu cs xs l hcs =>
      have hi : i < cs.length := by rw [l]; exact (List.getElem?_eq_some_iff.1 hv).1
      exact ⟨cs[i], by simp [execOp, he, Instr.extract, hi], hcs i _ v (List.getElem?_eq_getElem hi) hv⟩)

/-- Bytes, each a cell. -/
abbrev byteC (b : UInt8) : List AV := [.sc (.int .u8 (b.toNat : Int))]
abbrev bytesAV (l : List UInt8) : AV := .sl none 1 (l.map byteC)

/-- New memory of elements of k cells that stays, as a slice. -/
theorem sl_new {G : Gh} {b cap k : Nat} {els : List (List AV)} {c : List Value} (hk : ∀ e, e ∈ els → e.length = k) (hcap : els.length ≤ cap)
    (hi : ∀ (j : Nat) (u : Value), c[j]? = some u → G.imm b j = some u) (hlen : els.length * k ≤ c.length)
    (hc : ∀ (i : Nat) (e : List AV) (j : Nat) (x : AV) (u : Value), els[i]? = some e → e[j]? = some x → c[i * k + j]? = some u → Conc G u x) : Conc G (.slice (some ⟨b, 0, none⟩) els.length cap) (.sl none k els) := by
  have hin : ∀ i j, i < els.length → j < k → i * k + j < c.length := fun i j h1 h2 => by
    have : (i + 1) * k ≤ els.length * k := Nat.mul_le_mul_right k h1
    rw [Nat.succ_mul] at this
    omega
  refine .sl (fun i j => (c[i * k + j]?).getD undef) hk hcap (fun i j h1 h2 => ?_) (fun i e j x he hx => ?_) (fun t e => by cases e)
  · have h3 := hin i j h1 h2
    rw [List.getElem?_eq_getElem h3]
    have := hi (i * k + j) _ (List.getElem?_eq_getElem h3)
    simpa [Nat.add_assoc] using this
  · have h1 : i < els.length := (List.getElem?_eq_some_iff.1 he).1
    have h2 : j < k := by rw [← hk e (List.mem_of_getElem? he)]; exact (List.getElem?_eq_some_iff.1 hx).1
    have h3 := hin i j h1 h2
    rw [List.getElem?_eq_getElem h3]
    exact hc i e j x _ he hx (List.getElem?_eq_getElem h3)

theorem run_choose {P0 : Program} (q : Question) (hq : q.forced = false) (w : World) : (choose q).run P0 w = .ok (q.cut (w.tape w.drawn q)) { w with drawn := w.drawn + 1 } := by
  simp [choose, Sem.run, hq]

theorem push_modify {α : Type} (a : Array α) (x : α) (f : α → α) : (a.push x).modify a.size f = a.push (f x) := by
  apply Array.ext (by simp)
  intro i h1 h2
  simp only [Array.getElem_modify, Array.getElem_push]
  split <;> split <;> first | rfl | omega | (simp_all; done) | skip
  all_goals (simp at h2; omega)

theorem D_s2b {t t' e : TypeId} {x : Operand} {l : List UInt8} [hs : Und P t .string] [hu : Und P t' (.slice e)] [he : Und P e (.int .u8)] (hx : ρ x = some (str l)) : PPOp P { dst := dst, op := .convert t t' x, type := ty, pos := pos, after := af, guard := gd } ρ (bytesAV l) :=
  PPOp.op (by simp) (fun B G a w hR E => by
    let q : Question := .appendCap l.length 0 e
    let cap := q.cut (w.tape w.drawn q)
    have hcap : l.length ≤ cap := by simp [cap, q, Question.cut]
    let c : List Value := l.map (fun b => Value.int .u8 (b.toNat : Int)) ++ List.replicate (cap - l.length) (.int .u8 0)
    obtain ⟨hle, hr'⟩ := hR.allocImm c e (c.length, c.length + 1) 1
    refine ⟨.slice (some ⟨w.heap.size, 0, none⟩) l.length cap, _, _, ?_, hle, hr', ?_⟩
    · have e1 : (ByteArray.mk l.toArray).size = l.length := rfl
      have e2 : (Array.map (fun b : UInt8 => Value.int .u8 (b.toNat : Int)) l.toArray ++ Array.replicate (cap - l.length) (Value.int .u8 0)) = c.toArray := by simp [c]
      have hsz : c.length = l.length + (cap - l.length) := by simp [c]
      simp only [execOp, conc_sc (E _ (by first | exact List.Mem.head _ | exact List.Mem.tail _ (List.Mem.head _) | exact List.Mem.tail _ (List.Mem.tail _ (List.Mem.head _))) _ hx), convert, Sem.run_bind, run_underlying hs.h, run_underlying hu.h, run_underlying he.h, Result.andThen, Conv.stringToBytes, e1, run_choose (P0 := P) (.appendCap l.length 0 e) rfl]
      simp only [newRow, Sem.run_bind, newObj, Sem.run, Result.andThen, Sem.run_pure]
      rw [show (Array.map (fun b : UInt8 => Value.int .u8 (b.toNat : Int)) (ByteArray.mk l.toArray).data ++ Array.replicate (Question.cut (.appendCap l.length 0 e) (w.tape w.drawn (.appendCap l.length 0 e)) - l.length) (Value.int .u8 0)) = c.toArray from e2]
      simp [markStringish, shape, Sem.run, Sem.run_bind, Result.andThen, World.shape?, freeze, World.freeze, c, hsz]
      rw [show List.replicate (cap - l.length) (Value.int .u8 0) = List.replicate (cap - l.length) (Value.int .u8 0) from rfl]
      simp [push_modify]
      rfl
    · refine (show (bytesAV l) = .sl none 1 (l.map byteC) from rfl) ▸ ?_
      have := sl_new (G := ⟨fun b o => if b = w.heap.size then c[o]? else G.imm b o, G.blk, G.tl⟩) (b := w.heap.size) (cap := cap) (k := 1) (els := l.map byteC) (c := c)
        (fun e he => by obtain ⟨b, _, rfl⟩ := List.mem_map.1 he; rfl) (by simpa using hcap) (fun j u hu => by simpa using hu) (by simp [c]) (fun i e j x u he hx hu => by
          simp only [List.getElem?_map, Option.map_eq_some_iff] at he
          obtain ⟨b, hb, rfl⟩ := he
          have hj : j = 0 := by
            have := (List.getElem?_eq_some_iff.1 hx).1
            simpa using this
          subst hj
          have hi : i < l.length := (List.getElem?_eq_some_iff.1 hb).1
          simp at hx; subst hx
          have hb' : b = l[i] := by rw [List.getElem?_eq_getElem hi] at hb; cases hb; rfl
          simp [c, List.getElem?_append_left, hi] at hu
          subst hu; subst hb'; exact .sc _)
      simpa using this)
end
end Go.AL
