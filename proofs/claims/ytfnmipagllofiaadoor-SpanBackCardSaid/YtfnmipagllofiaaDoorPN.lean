/- The plain law of numerals: what a number's numeral says is the number. No program in sight. -/
import Derived.Lib.ParseIntBTie
import Derived.Lib.ItoaLen
import Derived.Test.YtfnmipagllofiaaDoorOps17
import Derived.Test.YtfnmipagllofiaaDoorApp2
import Derived.Lib.AppendStr
import Derived.Test.YtfnmipagllofiaaDoorOps5
namespace Go.Proofs
open Go.Lib
def dval (a : Nat) (l : List UInt8) : Nat := l.foldl (fun a c => a * 10 + (c.toNat - 48)) a
theorem dval_cons (a : Nat) (c : UInt8) (l : List UInt8) : dval a (c :: l) = dval (a * 10 + (c.toNat - 48)) l := by unfold dval; rw [List.foldl_cons]
theorem dval_snoc (a : Nat) (c : UInt8) (l : List UInt8) : dval a (l ++ [c]) = dval a l * 10 + (c.toNat - 48) := by unfold dval; rw [List.foldl_append, List.foldl_cons, List.foldl_nil]
theorem dval_ge (l : List UInt8) : ∀ a, a ≤ dval a l := by
  induction l with
  | nil => exact fun a => Nat.le_refl _
  | cons c l ih => intro a; rw [dval_cons]; have := ih (a * 10 + (c.toNat - 48)); omega
def isD (c : UInt8) : Prop := 48 ≤ c.toNat ∧ c.toNat ≤ 57
theorem dgt_toNat {m : Nat} (h : m < 10) : (UInt8.ofNat (48 + m)).toNat = 48 + m := by
  rw [UInt8.toNat_ofNat']; omega
theorem dec_digs (u : Nat) : ∀ c ∈ decDigits u, isD c := by
  induction u using Nat.strongRecOn with
  | _ u ih =>
    intro c hc
    rw [decDigits] at hc
    split at hc
    · rename_i h
      simp only [List.mem_cons, List.not_mem_nil, or_false] at hc
      subst hc; unfold isD; rw [dgt_toNat h]; omega
    · rename_i h
      simp only [List.mem_append, List.mem_cons, List.not_mem_nil, or_false] at hc
      rcases hc with hc | rfl
      · exact ih (u / 10) (by omega) c hc
      · unfold isD; rw [dgt_toNat (by omega)]; omega
theorem dec_val (u : Nat) : dval 0 (decDigits u) = u := by
  induction u using Nat.strongRecOn with
  | _ u ih =>
    rw [decDigits]
    split
    · rename_i h
      show 0 * 10 + ((UInt8.ofNat (48 + u)).toNat - 48) = u
      rw [dgt_toNat h]; omega
    · rename_i h
      rw [dval_snoc, ih (u / 10) (by omega), dgt_toNat (by omega)]; omega
theorem dec_ne (u : Nat) : decDigits u ≠ [] := fun h => by
  have := decDigits_length u
  have := nDigits_pos u
  rw [h] at *; simp at *; omega
theorem parse10 : ∀ (l : List UInt8) (a : Nat), (∀ c ∈ l, isD c) → dval a l < 18446744073709551616 → parseUint10 a l = .ok (dval a l)
  | [], a, _, _ => rfl
  | c :: l, a, h, hd => by
    have hc := h c (.head _)
    rw [dval_cons] at hd
    have := dval_ge l (a * 10 + (c.toNat - 48))
    unfold isD at hc
    rw [parseUint10, if_pos hc, if_neg (by omega), if_neg (by omega), dval_cons]
    exact parse10 l _ (fun c hc => h c (.tail _ hc)) hd
theorem mag_dec {u : Nat} (h : u < 18446744073709551616) : parseMag (decDigits u) = .ok u := by
  unfold parseMag
  rw [if_neg (dec_ne u), parse10 _ _ (dec_digs u) (by rw [dec_val]; exact h), dec_val]
theorem parse_itoa {n : Int} (h0 : -9223372036854775808 ≤ n) (h1 : n ≤ 9223372036854775807) : parseIntB 64 (itoa n) = .ok n := by
  rw [parseIntB_64]
  by_cases hneg : n < 0
  · obtain ⟨u, rfl⟩ : ∃ u : Nat, n = -(u : Int) := ⟨n.natAbs, by omega⟩
    rw [itoa_neg u (by omega), atoiAll_minus, mag_dec (by omega), signed, if_neg (by omega)]
  · obtain ⟨u, rfl⟩ : ∃ u : Nat, n = u := ⟨n.toNat, by omega⟩
    rw [itoa_nonneg]
    have hm := mag_dec (u := u) (by omega)
    cases hd : decDigits u with
    | nil => exact absurd hd (dec_ne u)
    | cons c r =>
      have hc := dec_digs u c (by rw [hd]; exact .head _)
      unfold isD at hc
      rw [atoiAll_plain c r (by omega) (by omega), ← hd, hm, signless, if_neg (by omega)]
theorem itoa_inj {n m : Int} (h0 : -9223372036854775808 ≤ n) (h1 : n ≤ 9223372036854775807) (g0 : -9223372036854775808 ≤ m) (g1 : m ≤ 9223372036854775807) (e : itoa n = itoa m) : n = m := by
  have a := parse_itoa h0 h1
  have b := parse_itoa g0 g1
  rw [e, b] at a; injection a with a; exact a.symm
def NumP (s : List UInt8) (n : Int) : Prop := -9223372036854775808 ≤ n ∧ n ≤ 9223372036854775807 ∧ itoa n = s
theorem NumP.inj {s : List UInt8} {n m : Int} (h : NumP s n) (h' : NumP s m) : n = m := itoa_inj h.1 h.2.1 h'.1 h'.2.1 (h.2.2.trans h'.2.2.symm)
end Go.Proofs

namespace Go.AL
section
variable {P : Program} [GlobF P] {ty : TypeId} {pos : String} {af : Array Edge} {d : Nat} {gd : Option (Nat × Bool)} {ρ : Operand → Option AV} {h : List AObj}
theorem S_appS0 {t u e tk k n by_ : Nat} {x y : Operand} {els els' : List (List AV)} {l : List UInt8} {z : Value} [hu : Und P t (.slice e)] [hus : Und P u .string] [hi : Inf P e k by_ z] (hk1 : k = 1) (hby : by_ = 1) (hz0 : z = .int .u8 0) (hel : els' = l.map byteC) (hx : ρ x = some (.sl (some tk) k els)) (hy : ρ y = some (str l))
    (ht : h[tk]? = some (.tail n k e)) (hn : n = els.length) (hb : els.length + els'.length ≤ 140737488355328) :
    POpS P { dst := some d, op := .call { callee := .builtin .append, args := #[x, y], argTypes := #[t, u] }, type := ty, pos := pos, after := af, guard := gd } ρ h [tk] (.sl (some tk) k (els ++ els')) (some (tk, .tail (els.length + els'.length) k e)) := by
  intro fr B G a w h' hl hsl hR E
  have hk0 : 0 < k := by omega
  have hzk' : z.cells.size = k := by rw [hz0, hk1]; rfl
  have h63 : els.length + els'.length < 4611686018427387904 := by omega
  have hll : els'.length = l.length := by rw [hel, List.length_map]
  have hsz0 : (⟨l.toArray⟩ : ByteArray).size = l.length := by simp [ByteArray.size]
  obtain ⟨i, i1, i2, i3, i4⟩ := hi.h
  have ex := E x (by simp [Op.operands, Call.operands]) _ hx
  have ey := E y (by simp [Op.operands, Call.operands]) _ hy
  have ht' : h'[tk]? = some (.tail n k e) := (hsl tk (.head _)).trans ht
  have htl : tk < h'.length := (List.getElem?_eq_some_iff.1 ht').1
  obtain ⟨o0, o1⟩ := hR.obj tk _ ht'
  refine ⟨fun f _ => fence_fn fr f, ?_⟩
  rw [Oper.semAt_eq _ _ _ (by simp)]
  have hold : ∃ base cap, a.eval x = .slice base els.length cap ∧ els.length ≤ cap ∧ G.tl tk els.length = some (.slice base els.length cap) ∧ (∀ e, e ∈ els → e.length = k) ∧
      ((base = none ∧ els = []) ∨ ∃ b o vs, base = some ⟨b, o, none⟩ ∧ vs.length = els.length * k ∧ ConcL G vs els.flatten ∧ ∀ j u, vs[j]? = some u → G.imm b (o + j) = some u) := by
    generalize a.eval x = v at ex
    cases ex with
    | @sl b o cap _ _ _ us hk hcap him hc ht =>
      obtain ⟨vs, g1, g2, g3⟩ := sl_flat us hk him hc
      exact ⟨_, cap, rfl, hcap, ht tk rfl, hk, .inr ⟨b, o, vs, rfl, g1, g2, g3⟩⟩
    | slnil ht =>
      refine ⟨none, 0, rfl, Nat.le_refl _, ht tk rfl, ?_, .inl ⟨rfl, rfl⟩⟩
      intro e he; cases he
  obtain ⟨base, cap, vx, hcap, htok, hkx, hbase⟩ := hold
  have vy : a.eval y = .string ⟨l.toArray⟩ := conc_sc ey
  by_cases hm : els' = []
  · -- nothing
    have hl0 : l = [] := List.length_eq_zero_iff.1 (by rw [← hll, hm]; rfl)
    have hr0 : (Builtin.append_ #[t, u] ty #[.slice base els.length cap, .string ⟨l.toArray⟩]).run P w = .ok (.slice base els.length cap) w := by
      subst hl0
      have hf := Lib.run_firstCells_string (P := P) w i.size ⟨#[]⟩
      have e0 : (⟨#[]⟩ : ByteArray).size = 0 := rfl
      rw [e0] at hf
      cases base <;> simp [Builtin.append_, run_underlying hu.h, run_underlying hus.h, sizeOf, typeInfo, i1, Builtin.lenOf, hcap, storeCells, e0, hf, Lib.strCells]
    rw [exec_append a (by rw [vx, vy]; exact hr0)]
    refine ⟨_, G, rfl, .refl G, ?_, ?_⟩
    · have : appU (some (tk, .tail (els.length + els'.length) k e)) h' = h' := by
        simp only [appU, hm, List.length_nil, Nat.add_zero, ← hn]
        exact heap_ext (by simp) fun r hr => by
          by_cases e : tk = r
          · subst e; rw [List.getElem?_set_self htl, ht']
          · rw [List.getElem?_set_ne e]
      rw [this]; exact hR
    · rw [hm, List.append_nil, ← vx]; exact ex
  obtain ⟨news, hnews⟩ : ∃ news, news = Lib.strCells ⟨l.toArray⟩ := ⟨_, rfl⟩
  have hky : ∀ e, e ∈ els' → e.length = k := fun e he => by
    rw [hel] at he; obtain ⟨c, _, rfl⟩ := List.mem_map.1 he; rw [hk1]; rfl
  have hnl1 : news.length = l.length := by rw [hnews, Lib.strCells_length, hsz0]
  have hnl : news.length = els'.length * k := by rw [hnl1, hk1, hll, Nat.mul_one]
  have hnc : ConcL G news els'.flatten := by
    have e1 : els'.flatten = news.map .sc := by
      rw [hel, hnews]
      have key : ∀ m : List UInt8, (m.map byteC).flatten = (m.map fun b => Value.int .u8 (b.toNat : Int)).map .sc := fun m => by
        induction m with
        | nil => rfl
        | cons c m ih => rw [List.map_cons, List.flatten_cons, ih]; rfl
      rw [key]; simp [Lib.strCells]
    rw [e1]
    exact ⟨by simp, fun i v x hv hx => by
      rw [List.getElem?_map, hv] at hx; simp at hx; subst hx; exact .sc v⟩
  have hmp : 0 < els'.length := List.length_pos_iff.2 hm
  have hone' : ∀ u, u ∈ news → u.oneCell' = true := by rw [hnews]; exact Lib.strCells_oneCell _
  have hkk : ∀ e, e ∈ els ++ els' → e.length = k := fun e he => by
    rcases List.mem_append.1 he with h | h
    · exact hkx e h
    · exact hky e h
  have htl0 : G.tl tk (els.length + els'.length) = none := o0 _ (by omega)
  have hleT : ∀ (imm' : Nat → Nat → Option Value) (v' : Value), (∀ b o v, G.imm b o = some v → imm' b o = some v) → G.le ⟨imm', G.blk, fun r j => if r = tk ∧ j = els.length + els'.length then some v' else G.tl r j⟩ := fun imm' v' him =>
    ⟨him, fun _ _ e => e, fun r j v e => by
      show (if r = tk ∧ j = els.length + els'.length then some v' else G.tl r j) = some v
      rw [if_neg fun ⟨h1, h2⟩ => by subst h1; subst h2; rw [htl0] at e; cases e]; exact e⟩
  have hset : ∀ (q : Nat) (ob x : AObj), (h'.set tk ob)[q]? = some x → (q = tk ∧ x = ob) ∨ (q ≠ tk ∧ h'[q]? = some x) := fun q ob x hx => by
    by_cases e : q = tk
    · subst e; rw [List.getElem?_set_self htl] at hx; exact .inl ⟨rfl, (Option.some.inj hx).symm⟩
    · rw [List.getElem?_set_ne (Ne.symm e)] at hx; exact .inr ⟨e, hx⟩
  by_cases hroom : els.length + els'.length ≤ cap
  · -- in place
    rcases o1 with ⟨hn0, htl1⟩ | ⟨g, cap1, cur, q1, q2, q3, q4, q5, q6, q7⟩
    · rw [hn] at hn0
      have : els = [] := List.length_eq_zero_iff.1 hn0
      subst this
      simp only [List.length_nil] at htok
      rw [htl1] at htok; cases htok
      simp only [List.length_nil] at hroom; omega
    rw [hn, htok] at q1
    simp only [Option.some.injEq, Value.slice.injEq, true_and] at q1
    obtain ⟨rfl, rfl⟩ := q1
    obtain ⟨b0, o0', vs, hb0, hvl, hvc, hvi⟩ : ∃ b o vs, (some (⟨g, 0, none⟩ : Addr)) = some ⟨b, o, none⟩ ∧ vs.length = els.length * k ∧ ConcL G vs els.flatten ∧ ∀ j u, vs[j]? = some u → G.imm b (o + j) = some u := by
      rcases hbase with ⟨h, _⟩ | h
      · cases h
      · exact h
    simp only [Option.some.injEq, Addr.mk.injEq, and_true] at hb0
    obtain ⟨rfl, rfl⟩ := hb0
    rw [hn] at q7
    have hfit : els.length * i.size + news.length ≤ cur.size := by rw [i2, hnl, q6, ← Nat.add_mul]; exact Nat.mul_le_mul_right _ hroom
    rw [i2] at hfit
    have hrun : (Builtin.append_ #[t, u] ty #[.slice (some ⟨g, 0, none⟩) els.length cap, .string ⟨l.toArray⟩]).run P w = .ok (.slice (some ⟨g, 0, none⟩) (els.length + els'.length) cap) (w.setRow g (cur.toList.take (els.length * k) ++ news ++ cur.toList.drop (els.length * k + news.length)).toArray) := by
      have h0 := Lib.run_append_room_string (P := P) w t u ty e i hu.h hus.h i1 (by rw [i2, hk1]) g els.length cap cur q3 ⟨l.toArray⟩ (by rw [hsz0]; omega) (by rw [hsz0]; rw [hk1, hnl1] at hfit; omega)
      rw [hsz0] at h0
      rw [h0, hk1, Nat.mul_one, hnl1, hll, hnews]
    rw [exec_append a (by rw [vx, vy]; exact hrun)]
    let G' : Gh := ⟨fun b' o' => if b' = g ∧ els.length * k ≤ o' ∧ o' < els.length * k + news.length then news[o' - els.length * k]? else G.imm b' o', G.blk, fun r j => if r = tk ∧ j = els.length + els'.length then some (.slice (some ⟨g, 0, none⟩) (els.length + els'.length) cap) else G.tl r j⟩
    have hle : G.le G' := hleT _ _ fun b' o' v e => by
      show (if b' = g ∧ els.length * k ≤ o' ∧ o' < els.length * k + news.length then news[o' - els.length * k]? else G.imm b' o') = some v
      rw [if_neg fun ⟨h1, h2, _⟩ => by subst h1; rw [q7 _ h2] at e; cases e]; exact e
    have hblk : ∀ b', b' ≠ g → (w.setRow g (cur.toList.take (els.length * k) ++ news ++ cur.toList.drop (els.length * k + news.length)).toArray).heap[b']? = w.heap[b']? := fun b' hb' => setRow_other _ _ _ _ hb'
    have hrow := setRow_heap w g cur (cur.toList.take (els.length * k) ++ news ++ cur.toList.drop (els.length * k + news.length)).toArray e (0, 0) q3
    refine ⟨_, G', rfl, hle, ?_, ?_⟩
    · refine hR.turn (hR.base.trans hle) rfl rfl rfl (Nat.le_refl _) (by simp) (fun b' hb' => hblk b' (by omega)) (fun b' o' hb' => if_neg fun h => by omega) (fun b' o' v hv => ?_) (fun q x hx => ?_) (fun q x b' hx hb' => ?_) (fun q q' x x' b' hx hx' hb1 hb2 hlt => ?_) (fun q hq => ?_)
      · by_cases hbg : b' = g
        · subst hbg
          simp only [World.cell?, hrow]
          have hcl : (cur.toList.take (els.length * k)).length = els.length * k := by simp; omega
          by_cases hin : els.length * k ≤ o' ∧ o' < els.length * k + news.length
          · have hv' : (if b' = b' ∧ els.length * k ≤ o' ∧ o' < els.length * k + news.length then news[o' - els.length * k]? else G.imm b' o') = some v := hv
            rw [if_pos ⟨rfl, hin⟩] at hv'
            simp only [List.getElem?_toArray, List.append_assoc]
            rw [if_neg (by simp), List.getElem?_append_right (by omega), hcl, List.getElem?_append_left (by omega)]; exact hv'
          · have hv' : (if b' = b' ∧ els.length * k ≤ o' ∧ o' < els.length * k + news.length then news[o' - els.length * k]? else G.imm b' o') = some v := hv
            rw [if_neg fun h => hin h.2] at hv'
            have ho : o' < els.length * k := by
              rcases Nat.lt_or_ge o' (els.length * k) with h | h
              · exact h
              · rw [q7 _ h] at hv'; cases hv'
            have hcell := hR.imm _ _ _ hv'
            simp only [World.cell?, q3] at hcell
            simp only [List.getElem?_toArray, List.append_assoc]
            rw [if_neg (by simp), List.getElem?_append_left (by omega), List.getElem?_take, if_pos ho]
            rw [if_neg (by simp)] at hcell
            simpa using hcell
        · have hv' : (if b' = g ∧ els.length * k ≤ o' ∧ o' < els.length * k + news.length then news[o' - els.length * k]? else G.imm b' o') = some v := hv
          rw [if_neg fun h => hbg h.1] at hv'
          have := hR.imm _ _ _ hv'
          simp only [World.cell?, hblk b' hbg] at this ⊢
          exact this
      · rcases hset q _ x hx with ⟨rfl, rfl⟩ | ⟨hne, hx⟩
        · refine ⟨fun j hj => ?_, .inr ⟨g, cap, (cur.toList.take (els.length * k) ++ news ++ cur.toList.drop (els.length * k + news.length)).toArray, if_pos ⟨rfl, rfl⟩, q2, hrow, hroom, q5, ?_, fun j hj => ?_⟩⟩
          · show (if q = q ∧ j = els.length + els'.length then _ else G.tl q j) = none
            rw [if_neg fun h => by omega]; exact o0 j (by omega)
          · simp only [List.size_toArray, List.length_append, List.length_take, List.length_drop, Array.length_toList]; omega
          · show (if g = g ∧ els.length * k ≤ j ∧ j < els.length * k + news.length then news[j - els.length * k]? else G.imm g j) = none
            rw [Nat.add_mul] at hj
            rw [if_neg fun h => by omega]; exact q7 j (by omega)
        · refine (hR.obj q x hx).keep hle rfl (fun j => if_neg fun h => hne h.1) fun b' hb' _ => ?_
          have hne' : b' ≠ g := fun hbg => hne (hR.inj q tk x _ b' hx ht' hb' (by simp only [ownBlk, hn, htok, slBlock]; rw [hbg]))
          exact ⟨hblk b' hne', fun j hj => by show (if b' = g ∧ _ then _ else _) = none; rw [if_neg fun h => hne' h.1]; exact hj⟩
      · rcases hset q _ x hx with ⟨rfl, rfl⟩ | ⟨hne, hx⟩
        · simp only [ownBlk] at hb'
          have e1 : G'.tl q (els.length + els'.length) = some (.slice (some ⟨g, 0, none⟩) (els.length + els'.length) cap) := if_pos ⟨rfl, rfl⟩
          rw [e1] at hb'; simp only [slBlock, Option.some.injEq] at hb'; subst hb'
          exact .inr ⟨_, ht', by simp only [ownBlk, hn, htok, slBlock]⟩
        · rw [ownBlk.congr (G := G) (G' := G') rfl (fun j => if_neg fun h => hne h.1)] at hb'; exact .inr ⟨x, hx, hb'⟩
      · exfalso
        rcases hset q _ x hx with ⟨rfl, rfl⟩ | ⟨hne, hx⟩
        · simp only [ownBlk] at hb1
          have e1 : G'.tl q (els.length + els'.length) = some (.slice (some ⟨g, 0, none⟩) (els.length + els'.length) cap) := if_pos ⟨rfl, rfl⟩
          rw [e1] at hb1; simp only [slBlock, Option.some.injEq] at hb1; subst hb1
          have := (Array.getElem?_eq_some_iff.1 q3).1; omega
        · rw [ownBlk.congr (G := G) (G' := G') rfl (fun j => if_neg fun h => hne h.1)] at hb1
          exact absurd ((hR.obj q x hx).own hb1).1 (by omega)
      · have hq' : h'.length ≤ q := by simpa [appU] using hq
        obtain ⟨k1, k2⟩ := hR.fresh q hq'
        exact ⟨k1, fun j => by show (if q = tk ∧ _ then _ else _) = none; rw [if_neg fun h => by omega]; exact k2 j⟩
    · have := sl_of_flat (G := G') (b := g) (o := 0) (cap := cap) (k := k) (els := els ++ els') (vs := vs ++ news) (tok := some tk) hkk (by simpa using hroom) (by rw [List.flatten_append]; exact (hvc.mono hle).append (hnc.mono hle))
        (fun j u hu => by
          rcases Nat.lt_or_ge j vs.length with hj | hj
          · rw [List.getElem?_append_left hj] at hu; exact hle.imm _ _ _ (hvi j u hu)
          · rw [List.getElem?_append_right hj] at hu
            have hjl := (List.getElem?_eq_some_iff.1 hu).1
            show (if g = g ∧ els.length * k ≤ 0 + j ∧ 0 + j < els.length * k + news.length then news[0 + j - els.length * k]? else G.imm g (0 + j)) = some u
            rw [if_pos ⟨rfl, by omega, by omega⟩, ← hu]; congr 1; omega) (fun t e => by cases e; simp only [List.length_append]; exact if_pos ⟨rfl, rfl⟩)
      simpa using this
  · -- in a new block
    have hrun : ∃ vs : List Value, ∃ ocap, vs.length = els.length * k ∧ ConcL G vs els.flatten ∧ (Builtin.append_ #[t, u] ty #[a.eval x, a.eval y]).run P w = .ok (.slice (some ⟨w.heap.size, 0, none⟩) (els.length + els'.length) (grownCap w (els.length + els'.length) ocap e))
        (w.drew.alloc (.cells (vs.toArray ++ news.toArray ++ Builtin.zeroCells z.cells (grownCap w (els.length + els'.length) ocap e - (els.length + els'.length))) e)) := by
      rcases hbase with ⟨rfl, rfl⟩ | ⟨b0, o0', vs, rfl, hvl, hvc, hvi⟩
      · rcases o1 with ⟨hn0, htl1⟩ | ⟨g, cap1, cur, q1, _⟩
        · simp only [List.length_nil] at htok
          rw [htl1] at htok; cases htok
          have hr := run_append_nil_string (P := P) w t u ty e i z hu.h hus.h i1 i4 ⟨l.toArray⟩ (by rw [hsz0]; omega) (by rw [hsz0]; omega) (by rw [hsz0, i3, hby]; omega)
          rw [hsz0] at hr
          have e1 : ((⟨l.toArray⟩ : ByteArray).data.map fun b => Value.int .u8 b.toNat) = news.toArray := by
            rw [hnews]; simp [Lib.strCells]
          rw [e1] at hr
          refine ⟨[], 0, by simp, .nil _, ?_⟩
          rw [vx, vy, hll]; simpa using hr
        · rw [hn, htok] at q1; cases q1
      · have hr := Lib.run_append_grow_string (P := P) w t u ty e i z hu.h hus.h i1 i4 ⟨b0, o0', none⟩ els.length cap vs (by rw [i2]; exact hvl) (fun j u hu => by rw [add_none]; exact hR.imm _ _ _ (hvi j u hu)) ⟨l.toArray⟩ (by rw [hsz0]; omega) (by rw [hsz0]; omega) (by rw [hsz0, i3, hby]; exact growslice_fits (by omega) (by omega))
        rw [hsz0] at hr
        exact ⟨vs, cap, hvl, hvc, by rw [vx, vy, hll, hnews]; exact hr⟩
    obtain ⟨vs, ocap, hvl, hvc, hrun⟩ := hrun
    have hge := grownCap_ge w (els.length + els'.length) ocap e
    have hcm := grownCap_le_maxLen w (els.length + els'.length) ocap e (by simp only [maxLen]; omega)
    generalize hcapd : grownCap w (els.length + els'.length) ocap e = cap' at hrun hge hcm
    rw [exec_append a hrun]
    have hall : (vs ++ news).length = (els.length + els'.length) * k := by rw [List.length_append, hvl, hnl, Nat.add_mul]
    let blkc : Array Value := vs.toArray ++ news.toArray ++ Builtin.zeroCells z.cells (cap' - (els.length + els'.length))
    have hsz : blkc.size = cap' * k := by
      simp only [blkc, Array.size_append, List.size_toArray, size_zeroCells, hzk', hvl, hnl, ← Nat.add_mul]
      congr 1; omega
    let G' : Gh := ⟨fun b' o' => if b' = w.heap.size then (vs ++ news)[o']? else G.imm b' o', G.blk, fun r j => if r = tk ∧ j = els.length + els'.length then some (.slice (some ⟨w.heap.size, 0, none⟩) (els.length + els'.length) cap') else G.tl r j⟩
    have hle : G.le G' := hleT _ _ fun b' o' v e => by
      show (if b' = w.heap.size then (vs ++ news)[o']? else G.imm b' o') = some v
      rw [if_neg fun h => by have := hR.lt e; omega]; exact e
    have hblk : ∀ b', b' < w.heap.size → (w.drew.alloc (.cells blkc e)).heap[b']? = w.heap[b']? := fun b' hb' => heap_alloc_old w.drew _ b' hb'
    have hnewb : (w.drew.alloc (.cells blkc e)).heap[w.heap.size]? = some (.cells blkc e (0, 0)) := heap_alloc_new w.drew _
    refine ⟨_, G', rfl, hle, ?_, ?_⟩
    · refine hR.turn (hR.base.trans hle) rfl rfl rfl (Nat.le_succ _) (by simp) (fun b' hb' => hblk b' (Nat.lt_of_lt_of_le hb' hR.size)) (fun b' o' hb' => if_neg fun h => by have := hR.size; omega) (fun b' o' v hv => ?_) (fun q x hx => ?_) (fun q x b' hx hb' => ?_) (fun q q' x x' b' hx hx' hb1 hb2 hlt => ?_) (fun q hq => ?_)
      · have hv' : (if b' = w.heap.size then (vs ++ news)[o']? else G.imm b' o') = some v := hv
        by_cases hbg : b' = w.heap.size
        · rw [if_pos hbg] at hv'
          subst hbg
          have hlt := (List.getElem?_eq_some_iff.1 hv').1
          have e1 : (w.drew.alloc (.cells blkc e)).cell? ⟨w.heap.size, o', none⟩ = blkc[o']? := by
            simp only [World.cell?]; rw [hnewb]; rfl
          refine e1.trans ?_
          show (vs.toArray ++ news.toArray ++ _)[o']? = some v
          rw [Array.getElem?_append_left (by simp at hlt ⊢; omega)]
          simpa using hv'
        · rw [if_neg hbg] at hv'
          have e1 : (w.drew.alloc (.cells blkc e)).cell? ⟨b', o', none⟩ = w.cell? ⟨b', o', none⟩ := by
            simp only [World.cell?]; rw [hblk b' (hR.lt hv')]
          exact e1.trans (hR.imm _ _ _ hv')
      · rcases hset q _ x hx with ⟨rfl, rfl⟩ | ⟨hne, hx⟩
        · refine ⟨fun j hj => ?_, .inr ⟨w.heap.size, cap', blkc, if_pos ⟨rfl, rfl⟩, hR.size, hnewb, hge, hcm, hsz, fun j hj => ?_⟩⟩
          · show (if q = q ∧ j = els.length + els'.length then _ else G.tl q j) = none
            rw [if_neg fun h => by omega]; exact o0 j (by omega)
          · show (if w.heap.size = w.heap.size then (vs ++ news)[j]? else _) = none
            rw [if_pos rfl]; exact List.getElem?_eq_none (by omega)
        · exact (hR.obj q x hx).keep hle rfl (fun j => if_neg fun h => hne h.1) fun b' hb' hlt => ⟨hblk b' hlt, fun j hj => by show (if b' = w.heap.size then _ else _) = none; rw [if_neg (by omega)]; exact hj⟩
      · rcases hset q _ x hx with ⟨rfl, rfl⟩ | ⟨hne, hx⟩
        · simp only [ownBlk] at hb'
          have e1 : G'.tl q (els.length + els'.length) = some (.slice (some ⟨w.heap.size, 0, none⟩) (els.length + els'.length) cap') := if_pos ⟨rfl, rfl⟩
          rw [e1] at hb'; simp only [slBlock, Option.some.injEq] at hb'; subst hb'
          exact .inl (Nat.le_refl _)
        · rw [ownBlk.congr (G := G) (G' := G') rfl (fun j => if_neg fun h => hne h.1)] at hb'; exact .inr ⟨x, hx, hb'⟩
      · have key : ∀ q x, (h'.set tk (.tail (els.length + els'.length) k e))[q]? = some x → ownBlk G' q x = some b' → q = tk := fun q x hx hb => by
          rcases hset q _ x hx with ⟨rfl, rfl⟩ | ⟨hne, hx⟩
          · rfl
          · rw [ownBlk.congr (G := G) (G' := G') rfl (fun j => if_neg fun h => hne h.1)] at hb
            exact absurd ((hR.obj q x hx).own hb).1 (by omega)
        rw [key q x hx hb1, key q' x' hx' hb2]
      · have hq' : h'.length ≤ q := by simpa [appU] using hq
        obtain ⟨k1, k2⟩ := hR.fresh q hq'
        exact ⟨k1, fun j => by show (if q = tk ∧ _ then _ else _) = none; rw [if_neg fun h => by omega]; exact k2 j⟩
    · have := sl_of_flat (G := G') (b := w.heap.size) (o := 0) (cap := cap') (k := k) (els := els ++ els') (vs := vs ++ news) (tok := some tk) hkk (by simpa using hge) (by rw [List.flatten_append]; exact (hvc.mono hle).append (hnc.mono hle))
        (fun j u hu => by show (if w.heap.size = w.heap.size then (vs ++ news)[0 + j]? else _) = some u; rw [if_pos rfl, Nat.zero_add]; exact hu) (fun t e => by cases e; simp only [List.length_append]; exact if_pos ⟨rfl, rfl⟩)
      simpa using this
end
section
variable {P : Program} [GlobF P] {fr : Option Nat} {N : Nat} {Q : Exit → AS → Prop} {ops : Array Oper} {rest : List Oper} {rg : List (Nat × AV)} {h : List AObj} {mk : Mk} {ty : TypeId} {pos : String} {af : Array Edge} {d : Nat}
theorem m_appS {t u e tk n : Nat} {x y : Operand} {els : List (List AV)} {l : List UInt8} [hu : Und P t (.slice e)] [hus : Und P u .string] [hi : Inf P e 1 1 (.int .u8 0)] (hx : evR rg x = some (.sl (some tk) 1 els)) (hy : evR rg y = some (str l))
    (ht : h[tk]? = some (.tail n 1 e)) (hn : n = els.length) (hb : els.length + l.length ≤ 140737488355328) (hd : Nat.blt d N = true)
    (hw : WL P fr N ops rest Q ⟨(d, .sl (some tk) 1 (els ++ l.map byteC)) :: rg, h.set tk (.tail (els.length + l.length) 1 e), mk⟩) :
    WL P fr N ops ({ dst := some d, op := .call { callee := .builtin .append, args := #[x, y], argTypes := #[t, u] }, type := ty, pos := pos, after := af, guard := none } :: rest) Q ⟨rg, h, mk⟩ :=
  pV (S_appS0 (els' := l.map byteC) rfl rfl rfl rfl hx hy ht hn (by rw [List.length_map]; exact hb)) hd (by rw [List.length_map]; exact hw)
end
end Go.AL

namespace Go.AL
section
variable {P : Program} [GlobF P] {ty : TypeId} {pos : String} {af : Array Edge} {dst : Option Nat} {gd : Option (Nat × Bool)} {ρ : Operand → Option AV}
class Ncf (P : Program) (t : TypeId) : Prop where
  h : ∃ d, P.underlying t = some d ∧ ∀ ms, d ≠ .interface ms
theorem run_mkI {P0 : Program} {t : TypeId} (hn : ∃ d, P0.underlying t = some d ∧ ∀ ms, d ≠ .interface ms) (v : Value) (w : World) : (Instr.makeInterface t v).run P0 w = .ok (.iface t v) w := by
  obtain ⟨d, hd, hne⟩ := hn
  simp only [Instr.makeInterface, Sem.run_bind, run_underlying hd]
  cases d <;> first | rfl | exact absurd rfl (hne _)
theorem D_mkI {t : TypeId} {x : Operand} {v : Value} [hn : Ncf P t] (hx : ρ x = some (.sc v)) : PPOp P { dst := dst, op := .makeInterface t x, type := ty, pos := pos, after := af, guard := gd } ρ (.sc (.iface t v)) :=
  PPOp.val (by simp) (fun B G act w hR E => ⟨.iface t v, by
    rw [show execOp act.eval { dst := dst, op := .makeInterface t x, type := ty, pos := pos, after := af, guard := gd } = _ from rfl]
    have := conc_sc (E x (by first | exact List.Mem.head _ | exact List.Mem.tail _ (List.Mem.head _)) _ hx)
    simp [execOp, this, run_mkI hn.h], .sc _⟩)
class Cmi (P : Program) (t : TypeId) (k : outParam IntKind) : Prop where
  u : P.underlying t = some (.int k)
  c : (P.info? t).map (·.comparable) = some true
theorem D_ifE {t t' tx : TypeId} {k : IntKind} {x y : Operand} {a b : Int} [hu : Ifc P t] [hc : Cmi P tx k] (hx : ρ x = some (.sc (.iface tx (.int k a)))) (hy : ρ y = some (.sc (.iface tx (.int k b)))) :
    PPOp P { dst := dst, op := .binOp .eql t x y t', type := ty, pos := pos, after := af, guard := gd } ρ (.sc (.bool (decide (a = b)))) :=
  PPOp.val (by simp) (fun B G act w hR E => ⟨.bool (decide (a = b)), exec_bin _ (by
    obtain ⟨ms, hu⟩ := hu.h
    obtain ⟨j, hj, hjc⟩ := Option.map_eq_some_iff.1 hc.c
    rw [conc_sc (E x (by first | exact List.Mem.head _ | exact List.Mem.tail _ (List.Mem.head _)) _ hx), conc_sc (E y (by first | exact List.Mem.tail _ (List.Mem.head _) | exact List.Mem.head _) _ hy)]
    have h : ∀ d : Nat, (Op.equalIn (d + 2) t (.iface tx (.int k a)) (.iface tx (.int k b))).run P w = .ok (a == b) w := fun d => by
      simp [Op.equalIn, run_underlying hu, typeInfo, hj, hjc, run_underlying hc.u]
    have hg : (eqGuard .eql t x y (.iface tx (.int k a)) (.iface tx (.int k b))).run P w = .ok () w := rfl
    have e : (a == b) = decide (a = b) := by by_cases h : a = b <;> simp [h]
    rw [Sem.run_bind, hg]
    show (binOp .eql t (.iface tx (.int k a)) (.iface tx (.int k b))).run P w = _
    simp only [binOp]
    rw [Sem.run_bind]
    have h2 := h 9998
    rw [e] at h2
    rw [show (Op.equal t (.iface tx (.int k a)) (.iface tx (.int k b))).run P w = .ok (decide (a = b)) w from h2]
    rfl), .sc _⟩)
theorem D_loadG {t g : Nat} {x : Operand} {u : Value} [ha : Agg P t false] (hx : ρ x = some (.sc (.pointer (some ⟨g, 0, none⟩)))) (hg : GlobF.f P g 0 = some u) : PPOp P { dst := dst, op := .load t x, type := ty, pos := pos, after := af, guard := gd } ρ (.sc u) :=
  PPOp.val (by simp) (fun B G act w hR E => by
    have hv := conc_sc (E x (by first | exact List.Mem.head _ | exact List.Mem.tail _ (List.Mem.head _)) _ hx)
    have hcell := hR.imm _ _ _ (hR.glob _ _ _ hg)
    exact ⟨u, by simp [execOp, hv, Instr.loadAt, Instr.sureAddr, loadVar, ha.h, load, Sem.run, hcell], .sc _⟩)
end
section
variable {P : Program} [GlobF P] {fr : Option Nat} {N : Nat} {Q : Exit → AS → Prop} {ops : Array Oper} {rest : List Oper} {rg : List (Nat × AV)} {h : List AObj} {mk : Mk} {ty : TypeId} {pos : String} {af : Array Edge} {d : Nat}
theorem m_mkIP {t : TypeId} {x : Operand} [hn : Ncf P t] (hd : Nat.blt d N = true) (hk : ∀ v, (∃ te u, v = Value.iface te u) → WL P fr N ops rest Q ⟨(d, .sc v) :: rg, h, mk⟩) :
    WL P fr N ops ({ dst := some d, op := .makeInterface t x, type := ty, pos := pos, after := af, guard := none } :: rest) Q ⟨rg, h, mk⟩ := by
  intro B G a w hR
  refine wpListIn_plain rfl fun K hK => ?_
  refine ⟨fun f _ => fence_fn fr f, ?_⟩
  have hrun : (execOp a.eval { dst := some d, op := .makeInterface t x, type := ty, pos := pos, after := af, guard := none }).run P w = .ok (.value (.iface t (a.eval x))) w := by
    simp [execOp, run_mkI hn.h]
  rw [Oper.semAt_eq _ _ _ (by simp), hrun]
  exact hK _ _ (hk (.iface t (a.eval x)) ⟨_, _, rfl⟩ B G _ w (hR.put (by simpa [Nat.blt_eq] using hd) (.sc _)))
end
end Go.AL
