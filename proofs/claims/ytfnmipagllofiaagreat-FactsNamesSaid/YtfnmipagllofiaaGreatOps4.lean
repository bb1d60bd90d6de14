/- The rules of the abstract logic, sixth part: literals of slices and structs; slice expressions; library entries without a body. No condition. -/
import Derived.Test.YtfnmipagllofiaaGreatWalk
import Derived.Lib.Bytealg
import Derived.Laws.Externs
namespace Go.AL
def over (cs : Array Value) (off : Nat) (vs : Array Value) : Array Value := vs.zipIdx.foldl (fun cs (c, j) => cs.setIfInBounds (off + j) c) cs
theorem over_go (off : Nat) : ∀ (vs : List Value) (k : Nat) (cs : Array Value), ((vs.zipIdx k).foldl (fun cs (p : Value × Nat) => cs.setIfInBounds (off + p.2) p.1) cs).size = cs.size ∧
    ∀ q, ((vs.zipIdx k).foldl (fun cs (p : Value × Nat) => cs.setIfInBounds (off + p.2) p.1) cs)[q]? = if off + k ≤ q ∧ q < off + k + vs.length ∧ q < cs.size then vs[q - (off + k)]? else cs[q]?
  | [], k, cs => ⟨rfl, fun q => by
    have : ¬ (off + k ≤ q ∧ q < off + k + ([] : List Value).length ∧ q < cs.size) := by simp; omega
    rw [if_neg this]; rfl⟩
  | v :: vs, k, cs => by
    obtain ⟨h1, h2⟩ := over_go off vs (k + 1) (cs.setIfInBounds (off + k) v)
    simp only [List.zipIdx_cons, List.foldl_cons]
    refine ⟨by rw [h1]; simp, fun q => ?_⟩
    rw [h2]
    simp only [Array.size_setIfInBounds, List.length_cons]
    by_cases hq : q = off + k
    · subst hq
      rw [if_neg (by omega)]
      by_cases hs : off + k < cs.size
      · rw [if_pos (by omega)]; simp [hs]
      · rw [if_neg (by omega), Array.getElem?_setIfInBounds]; simp [hs]
    · by_cases hc : off + (k + 1) ≤ q ∧ q < off + (k + 1) + vs.length ∧ q < cs.size
      · rw [if_pos hc, if_pos (by omega)]
        have : q - (off + k) = (q - (off + (k + 1))) + 1 := by omega
        rw [this, List.getElem?_cons_succ]
      · rw [if_neg hc, if_neg (by omega), Array.getElem?_setIfInBounds_ne (Ne.symm hq)]
theorem over_spec (cs : Array Value) (off : Nat) (vs : Array Value) : (over cs off vs).size = cs.size ∧ ∀ q, (over cs off vs)[q]? = if off ≤ q ∧ q < off + vs.size ∧ q < cs.size then vs[q - off]? else cs[q]? := by
  have := over_go off vs.toList 0 cs
  unfold over
  rw [← Array.foldl_toList, Array.toList_zipIdx]
  simpa using this
theorem fill_seq (k : Nat) : ∀ (vs : List Value) (i : Nat) (cs : Array Value), (∀ v, v ∈ vs → v.cells.size = k) → (i + vs.length) * k ≤ cs.size →
    ∃ cs', Instr.fill (fun i => some (i * k, k)) cs ((List.range' i vs.length).zip vs) = some cs' ∧ cs'.size = cs.size ∧ (∀ q, q < i * k → cs'[q]? = cs[q]?) ∧
      ∀ m v j, vs[m]? = some v → j < k → cs'[(i + m) * k + j]? = v.cells[j]?
  | [], i, cs, _, _ => ⟨cs, rfl, rfl, fun _ _ => rfl, fun m v j h => by simp at h⟩
  | v :: vs, i, cs, hk, hs => by
    have hv := hk v (.head _)
    have hs' : (i + 1 + vs.length) * k ≤ cs.size := by simp only [List.length_cons] at hs; rwa [show i + 1 + vs.length = i + (vs.length + 1) by omega]
    have hik : (i + 1) * k ≤ cs.size := Nat.le_trans (Nat.mul_le_mul_right k (by omega)) hs'
    have hik' : i * k + k ≤ cs.size := by rw [Nat.succ_mul] at hik; exact hik
    obtain ⟨hsz, hget⟩ := over_spec cs (i * k) v.cells
    obtain ⟨cs', h1, h2, h3, h4⟩ := fill_seq k vs (i + 1) (over cs (i * k) v.cells) (fun u hu => hk u (.tail _ hu)) (by rw [hsz]; exact hs')
    refine ⟨cs', ?_, h2.trans hsz, fun q hq => ?_, fun m u j hm hj => ?_⟩
    · simp only [List.length_cons, List.range'_succ, List.zip_cons_cons, Instr.fill]
      rw [if_neg (by simp [hv]; omega)]
      exact h1
    · rw [h3 q (by rw [Nat.succ_mul]; omega), hget, if_neg (by omega)]
    · cases m with
      | zero =>
        simp at hm; subst hm
        rw [Nat.add_zero, h3 _ (by rw [Nat.succ_mul]; omega), hget, if_pos (by omega)]
        congr 1; omega
      | succ m =>
        have := h4 m u j (by simpa using hm) hj
        rw [show i + (m + 1) = i + 1 + m by omega]; exact this
def partsO (ρ : Operand → Option AV) : Nat → List (Nat × Operand) → Option (List (List AV))
  | _, [] => some []
  | i, (j, x) :: ps => match Nat.beq i j, ρ x with
    | true, some v => match cellsO v, partsO ρ (i + 1) ps with
      | some cs, some els => some (cs :: els)
      | _, _ => none
    | _, _ => none
theorem partsO_spec {ρ : Operand → Option AV} : ∀ {ps : List (Nat × Operand)} {i : Nat} {els : List (List AV)}, partsO ρ i ps = some els →
    ps.map (·.1) = List.range' i ps.length ∧ els.length = ps.length ∧ ∀ (m : Nat) (p : Nat × Operand) (e : List AV), ps[m]? = some p → els[m]? = some e → ∃ v, ρ p.2 = some v ∧ cellsO v = some e
  | [], i, els, h => by simp [partsO] at h; subst h; exact ⟨rfl, rfl, fun m p e h => by simp at h⟩
  | (j, x) :: ps, i, els, h => by
    simp only [partsO] at h
    cases hb : Nat.beq i j with
    | false => rw [hb] at h; simp at h
    | true =>
      cases hx : ρ x with
      | none => rw [hb, hx] at h; simp at h
      | some v =>
        rw [hb, hx] at h
        simp only at h
        cases hc : cellsO v with
        | none => rw [hc] at h; simp at h
        | some cs =>
          cases hp : partsO ρ (i + 1) ps with
          | none => rw [hc, hp] at h; simp at h
          | some es =>
            rw [hc, hp] at h
            simp only [Option.some.injEq] at h
            subst h
            obtain ⟨g1, g2, g3⟩ := partsO_spec hp
            have hij : i = j := Nat.eq_of_beq_eq_true hb
            refine ⟨by simp [List.range'_succ, g1, hij], by simp [g2], fun m p e hm he => ?_⟩
            cases m with
            | zero => simp at hm he; subst hm; subst he; exact ⟨v, hx, hc⟩
            | succ m => exact g3 m p e (by simpa using hm) (by simpa using he)
theorem zip_map_map (ps : List (Nat × Operand)) (a : Act) : (ps.map (·.1)).zip (ps.map (fun p => a.eval p.2)) = ps.map (fun p => (p.1, a.eval p.2)) := by
  induction ps with
  | nil => rfl
  | cons p ps ih => simp [ih]
section
variable {P : Program} [GlobF P] {ty : TypeId} {pos : String} {af : Array Edge} {dst : Option Nat} {gd : Option (Nat × Bool)} {ρ : Operand → Option AV} {hp : List AObj}
theorem D_lit {t e n k : Nat} {ps : List (Nat × Operand)} {els : List (List AV)} {z : Value} [hu : Und P t (.slice e)] [hs : Siz P e k] [hz : Zer P e z] (hps : partsO ρ 0 ps = some els) (hn : Nat.beq n ps.length = true) (hk : els.all (fun e => Nat.beq e.length k) = true) (hm : Nat.ble (n * k) 1000 = true) :
    PPOp P { dst := dst, op := .buildSlice t n ps.toArray, type := ty, pos := pos, after := af, guard := gd } ρ (.sl none k els) :=
  PPOp.op (by simp) (fun B G a w hR E => by
    obtain ⟨g1, g2, g3⟩ := partsO_spec hps
    have hn' : n = ps.length := Nat.eq_of_beq_eq_true hn
    have hk' : ∀ e, e ∈ els → e.length = k := fun e he => Nat.eq_of_beq_eq_true (List.all_eq_true.1 hk e he)
    have hm' : n * k ≤ 1000 := by simpa using hm
    let vs : List Value := ps.map (fun p => a.eval p.2)
    have hvl : vs.length = n := by simp [vs, hn']
    have hmem : ∀ p, p ∈ ps → p.2 ∈ (Op.buildSlice t n ps.toArray).operands.toList := fun p hp => by
      simp only [Op.operands, List.mem_map]; exact ⟨p, hp, rfl⟩
    have hcon : ∀ (m : Nat) (v : Value) (e : List AV), vs[m]? = some v → els[m]? = some e → ConcL G v.cells.toList e := fun m v e hv he => by
      simp only [vs, List.getElem?_map, Option.map_eq_some_iff] at hv
      obtain ⟨p, hp, rfl⟩ := hv
      obtain ⟨u, h1, h2⟩ := g3 m p e hp he
      exact cellsO_conc (E p.2 (hmem p (List.mem_of_getElem? hp)) u h1) h2
    have hvk : ∀ v, v ∈ vs → v.cells.size = k := fun v hv => by
      obtain ⟨m, hm, rfl⟩ := List.getElem_of_mem hv
      have hm2 : m < els.length := by rw [g2, ← hn', ← hvl]; exact hm
      have := hcon m _ _ (List.getElem?_eq_getElem hm) (List.getElem?_eq_getElem hm2)
      rw [← hk' _ (List.getElem_mem hm2), ← this.1]; simp
    let cs0 : Array Value := (Array.range (n * k)).map ((if n * k = 0 then #[] else z.cells)[· % (if n * k = 0 then #[] else z.cells).size]!)
    have hcs0 : cs0.size = n * k := by simp [cs0]
    obtain ⟨cs', f1, f2, _, f4⟩ := fill_seq k vs 0 cs0 hvk (by rw [hvl, hcs0]; simp)
    have hzip : (List.range' 0 vs.length).zip vs = ps.map (fun p => (p.1, a.eval p.2)) := by
      rw [show vs.length = ps.length by simp [vs], ← g1]; exact zip_map_map ps a
    rw [hzip] at f1
    obtain ⟨hle, hr'⟩ := hR.allocImm cs'.toList e (0, 0) 0
    rw [Array.toArray_toList] at hr'
    have hel : els.length = n := by rw [g2, hn']
    refine ⟨.slice (some ⟨w.heap.size, 0, none⟩) n n, _, _, ?_, hle, hr', ?_⟩
    · simp only [execOp, Instr.buildSlice, Sem.run_bind, run_underlying hu.h, Result.andThen, hs.h]
      rw [if_neg (by omega)]
      have f1' : Instr.fill (fun i => some (i * k, k)) ((Array.range (n * k)).map ((if n * k = 0 then #[] else z.cells)[· % (if n * k = 0 then #[] else z.cells).size]!)) (ps.map (fun p => (p.1, a.eval p.2))) = some cs' := f1
      clear f1
      by_cases h0 : n * k = 0
      · simp only [h0, if_true, Sem.run_bind, Sem.run_pure, Result.andThen, List.map_toArray] at f1' ⊢
        rw [f1']; rfl
      · simp only [h0, if_false, Sem.run_bind, Sem.run_pure, Result.andThen, List.map_toArray, hz.h] at f1' ⊢
        rw [f1']; rfl
    · rw [← hel]
      refine sl_new (c := cs'.toList) hk' (Nat.le_refl _) (fun j u hu => by simpa using hu) (by simp [f2, hcs0, hel]) (fun i e j x u he hx hu => ?_)
      have hi : i < els.length := (List.getElem?_eq_some_iff.1 he).1
      have hj : j < k := by rw [← hk' e (List.mem_of_getElem? he)]; exact (List.getElem?_eq_some_iff.1 hx).1
      have hiv : i < vs.length := by rw [hvl, ← hel]; exact hi
      have h5 := f4 i vs[i] j (List.getElem?_eq_getElem hiv) hj
      rw [Nat.zero_add, ← Array.getElem?_toList, hu] at h5
      exact (hcon i _ e (List.getElem?_eq_getElem hiv) he).2 j u x (by rw [Array.getElem?_toList, ← h5]) hx |>.mono hle)
class Xt (P : Program) (f : FuncId) (e : outParam (Array Value → Sem Value)) : Prop where
  h : ∀ (args : Array Value) (w : World), (callFunc f args).run P w = ((e args).run P w).andThen fun v w' => .ok (.value v) w'
theorem D_xcmp {x y z : Operand} {ts : Array TypeId} {f : FuncId} {a b : List UInt8} [hx : Xt P f Extern.BytealgCompare.compare] (hz : ρ z = some (.sc (.func (.func f) #[] #[]))) (h1 : ρ x = some (str a)) (h2 : ρ y = some (str b)) :
    PPOp P { dst := dst, op := .call { callee := .value z, args := #[x, y], argTypes := ts }, type := ty, pos := pos, after := af, guard := gd } ρ (.sc (.int .i64 (Lib.compareBytes a b))) :=
  PPOp.val (by simp) (fun B G act w hR E => ⟨.int .i64 (Lib.compareBytes a b), by
    have e0 := conc_sc (E z (by simp [Op.operands, Call.operands]) _ hz)
    have e1 := conc_sc (E x (by simp [Op.operands, Call.operands]) _ h1)
    have e2 := conc_sc (E y (by simp [Op.operands, Call.operands]) _ h2)
    have := exec_call (P0 := P) (ty := ty) (pos := pos) (af := af) (args := [x, y]) (ts := ts) (dst := dst) (g := gd) (fs := []) (cs := []) (w := w) act.eval e0
    rw [show (#[x, y] : Array Operand) = [x, y].toArray from rfl, this, hx.h]
    simp only [List.map_cons, List.map_nil, e1, e2, List.nil_append, List.append_nil]
    rw [Lib.run_compareString]; rfl, .sc _⟩)
end
end Go.AL

namespace Go.AL
def opsO (ρ : Operand → Option AV) : List Operand → Option (List AV)
  | [] => some []
  | x :: l => match ρ x, opsO ρ l with
    | some u, some us => some (u :: us)
    | _, _ => none
theorem opsO_conc {G : Gh} {a : Act} {ρ : Operand → Option AV} : ∀ {l : List Operand} {ys : List AV}, opsO ρ l = some ys → (∀ x, x ∈ l → ∀ u, ρ x = some u → Conc G (a.eval x) u) → ConcL G (l.map a.eval) ys
  | [], ys, h, _ => by simp only [opsO, Option.some.injEq] at h; subst h; exact .nil _
  | x :: l, ys, h, hE => by
    simp only [opsO] at h
    split at h
    · rename_i u us hu hus
      simp only [Option.some.injEq] at h; subst h
      exact .cons (hE x (.head _) u hu) (opsO_conc hus fun z hz => hE z (.tail _ hz))
    · cases h
section
variable {P : Program} [GlobF P] {ty : TypeId} {pos : String} {af : Array Edge} {dst : Option Nat} {gd : Option (Nat × Bool)} {ρ : Operand → Option AV} {hp : List AObj}
theorem D_mkfn {f : FuncId} {caps : List Operand} {ys : List AV} (h : opsO ρ caps = some ys) : PPOp P { dst := dst, op := .makeFunc (.func f) #[] caps.toArray, type := ty, pos := pos, after := af, guard := gd } ρ (.fn (.func f) [] ys) :=
  PPOp.val (by simp) (fun B G a w hR E => by
    have hc := opsO_conc h (a := a) (G := G) fun x hx => E x (by simp [Op.operands]; exact hx)
    refine ⟨.func (.func f) #[] (caps.map a.eval).toArray, by simp [execOp, Instr.makeFunc], ?_⟩
    exact .fn (fs := []) rfl hc.1 (fun i v x h => by simp at h) hc.2)
end
end Go.AL
