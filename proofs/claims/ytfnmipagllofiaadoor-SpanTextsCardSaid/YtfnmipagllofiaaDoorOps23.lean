/- Rules of the abstract logic: what is nil, grown. No condition. -/
import Derived.Test.YtfnmipagllofiaaDoorOps21
import Derived.Shelf.Spec.SlicesGrow
import Derived.Test.YtfnmipagllofiaaDoorUInst
import Derived.Shelf.Strings.OnBuilder
import Derived.Shelf.Strings.Split
import Derived.Shelf.Strings.Cut
import Derived.Shelf.Small.Wraps
import Derived.Shelf.Strconv.Itoa4
import Derived.Shelf.Strconv.ParseInt10All
import Derived.Test.YtfnmipagllofiaaDoorBase
namespace Go.AL
theorem grow_ac {P : Program} [GlobF P] {ρ : Shelf.Ren} (L : Go.Proofs.Lays8.n4 P ρ) {k by_ : Nat} {z : Value} [hi : Inf P (ρ.t 25) k by_ z] (hk : 0 < k) (hzk : z.cells.size = k) (n : Nat) (hb : n * by_ ≤ 140737488355328) (hn : n < 4611686018427387904) (h : List AObj) :
    AC P (ρ.f 4) [.sc (.slice none 0 0), .sc (.int .i64 (n : Int))] h (fun v h' => v = rowA h.length 0 ∧ h' = h ++ [.row k (ρ.t 25) []]) := by
  refine ⟨L.f4.enters rfl, fun B G w vs hr hc => ?_⟩
  obtain ⟨v1, vs1, rfl, c1, hc1⟩ := hc.inv_cons
  obtain ⟨v2, vs2, rfl, c2, hc2⟩ := hc1.inv_cons
  have := hc2.inv_nil
  subst this
  rw [conc_sc c1, conc_sc c2]
  obtain ⟨i, i1, i2, i3, i4⟩ := hi.h
  obtain ⟨f1, f2⟩ := hr.fresh h.length (Nat.le_refl _)
  by_cases h0 : n = 0
  · subst h0
    refine (Go.Proofs.Any8.slices_Grow_room L none 0 0 0 w (by omega) (by omega) (by omega) (by omega)).mono ?_
    rintro e w' ⟨rfl, rfl⟩
    let G' : Gh := ⟨G.imm, G.blk, fun r j => if r = h.length ∧ j = 0 then some (.slice none 0 0) else G.tl r j⟩
    have hle : G.le G' := ⟨fun _ _ _ e => e, fun _ _ e => e, fun r j v e => by
      show (if r = h.length ∧ j = 0 then _ else G.tl r j) = some v
      rw [if_neg fun h => by obtain ⟨rfl, rfl⟩ := h; rw [f2] at e; cases e]; exact e⟩
    refine ⟨_, G', h ++ [.row k (ρ.t 25) []], rowA h.length 0, rfl, hle, ?_, .slnil fun t e => by cases e; exact if_pos ⟨rfl, rfl⟩, rfl, rfl⟩
    refine hr.allocObj _ hle rfl rfl rfl (Nat.le_refl _) (Nat.le_refl _) (fun _ _ => rfl) (fun _ _ _ => rfl) hr.imm (fun r hne => ⟨rfl, fun n => if_neg fun h => hne h.1⟩) ?_ (fun b hb => ?_)
    · exact ⟨fun j hj => by show (if h.length = h.length ∧ j = 0 then _ else _) = none; rw [if_neg fun h => by simp at hj; omega]; exact f2 j, fun x hx => by simp at hx, .inl ⟨rfl, if_pos ⟨rfl, rfl⟩⟩⟩
    · simp only [ownBlk, List.length_nil] at hb
      have e1 : G'.tl h.length 0 = some (.slice none 0 0) := if_pos ⟨rfl, rfl⟩
      rw [e1] at hb; cases hb
  · refine (Go.Proofs.Any8.slices_Grow_grow L i z i1 i4 (by rw [i2]; exact hk) none 0 0 n [] w (Nat.le_refl _) (by omega) (by rw [i3, Nat.zero_add]; exact hb) (by omega) (by simp) (fun _ => rfl) (fun a e => by cases e)).mono ?_
    rintro e w' ⟨rfl, rfl⟩
    have hge := grownCap_ge w (0 + n) 0 (ρ.t 25)
    have hcm := grownCap_le_maxLen w (0 + n) 0 (ρ.t 25) (by simp only [maxLen]; omega)
    generalize grownCap w (0 + n) 0 (ρ.t 25) = cap at hge hcm
    obtain ⟨cs, hcs⟩ : ∃ cs : List Value, ([] : List Value).toArray ++ Builtin.zeroCells z.cells (0 + n - 0) ++ Builtin.zeroCells z.cells (cap - (0 + n)) = cs.toArray := ⟨_, Array.toArray_toList.symm⟩
    have hcl : cs.length = cap * k := by
      have := congrArg Array.size hcs
      simp only [Array.size_append, size_zeroCells, hzk, List.size_toArray, List.length_nil, Nat.zero_add, ← Nat.add_mul] at this
      rw [← this]; congr 1; omega
    rw [hcs]
    generalize hnv : (Value.slice (some ⟨w.heap.size, 0, none⟩) 0 cap) = nv
    let G' : Gh := ⟨G.imm, fun q => if q = h.length then some w.heap.size else G.blk q, fun r j => if r = h.length ∧ j = 0 then some nv else G.tl r j⟩
    have hle : G.le G' := ⟨fun _ _ _ e => e, fun q b e => by
      show (if q = h.length then some w.heap.size else G.blk q) = some b
      by_cases hrl : q = h.length
      · subst hrl; rw [f1] at e; cases e
      · rw [if_neg hrl]; exact e, fun r j v e => by
      show (if r = h.length ∧ j = 0 then _ else G.tl r j) = some v
      rw [if_neg fun h => by obtain ⟨rfl, rfl⟩ := h; rw [f2] at e; cases e]; exact e⟩
    have e0 : G'.tl h.length 0 = some nv := if_pos ⟨rfl, rfl⟩
    refine ⟨_, G', h ++ [.row k (ρ.t 25) []], rowA h.length 0, rfl, hle, ?_, by rw [← hnv]; exact rowA_mk (by rw [hnv]; exact e0) (Nat.zero_le _), rfl, rfl⟩
    have hnewb : (w.drew.alloc (.cells cs.toArray (ρ.t 25))).heap[w.heap.size]? = some (.cells cs.toArray (ρ.t 25) (0, 0)) := heap_alloc_new w.drew _
    have hblk : ∀ b', b' < w.heap.size → (w.drew.alloc (.cells cs.toArray (ρ.t 25))).heap[b']? = w.heap[b']? := fun b' hb' => heap_alloc_old w.drew _ hb'
    refine hr.allocObj _ hle rfl rfl rfl (Nat.le_succ _) (by simp) hblk (fun _ _ _ => rfl) (fun b o v hv => ?_) (fun r hne => ⟨if_neg hne, fun n => if_neg fun h => hne h.1⟩) ?_ (fun b hb => ?_)
    · have e1 : (w.drew.alloc (.cells cs.toArray (ρ.t 25))).cell? ⟨b, o, none⟩ = w.cell? ⟨b, o, none⟩ := by
        simp only [World.cell?]; rw [hblk b (hr.lt hv)]
      exact e1.trans (hr.imm _ _ _ hv)
    · refine ⟨fun j hj => by show (if h.length = h.length ∧ j = 0 then _ else _) = none; rw [if_neg fun h => by simp at hj; omega]; exact f2 j, fun x hx => by simp at hx, .inr ⟨w.heap.size, cap, cs, e0.trans (congrArg some hnv.symm), hr.size, hnewb, Nat.zero_le _, hcm, hcl, ?_, fun j => ?_, if_pos rfl⟩⟩
      · simp only [List.length_nil, Nat.zero_mul, List.take_zero, List.flatten_nil]; exact .nil _
      · show G.imm w.heap.size j = none
        cases hi : G.imm w.heap.size j with
        | none => rfl
        | some v => exact absurd (hr.lt hi) (by omega)
    · simp only [ownBlk, List.length_nil, e0, ← hnv, slBlock] at hb
      cases hb; exact Nat.le_refl _
end Go.AL

namespace Go.Proofs
open Go.Shelf
def Tryd.lays146_ren : Go.Shelf.Ren := ⟨fun | 146 => 16 | 221 => 28 | 268 => 40 | 138 => 41 | 143 => 42 | 195 => 60 | 197 => 61 | 218 => 62 | 219 => 43 | 260 => 80 | 217 => 63 | 225 => 64 | 224 => 65 | 267 => 66 | 266 => 81 | 314 => 82 | n => n, fun | 9 => 9 | 31 => 36 | 3 => 3 | 4 => 4 | 0 => 0 | 105 => 89 | 21 => 21 | 5 => 5 | 46 => 93 | 119 => 125 | 139 => 128 | 138 => 127 | 146 => 108 | 51 => 105 | n => n, fun | 1 => 0 | 3 => 4 | 4 => 5 | n => n⟩
theorem Tryd.lays146 : Go.Proofs.Lays.n146 Tryd.prog Tryd.lays146_ren := {
  mixed := by kernel_rfl
  f138 := Tryd.func41.trans (congrArg some (by kernel_rfl))
  f143 := Tryd.func42.trans (congrArg some (by kernel_rfl))
  f146 := Tryd.func16.trans (congrArg some (by kernel_rfl))
  f195 := Tryd.func60.trans (congrArg some (by kernel_rfl))
  f197 := Tryd.func61.trans (congrArg some (by kernel_rfl))
  f217 := Tryd.func63.trans (congrArg some (by kernel_rfl))
  f218 := Tryd.func62.trans (congrArg some (by kernel_rfl))
  f219 := Tryd.func43.trans (congrArg some (by kernel_rfl))
  f221 := Tryd.func28.trans (congrArg some (by kernel_rfl))
  f224 := Tryd.func65.trans (congrArg some (by kernel_rfl))
  f225 := Tryd.func64.trans (congrArg some (by kernel_rfl))
  f260 := Tryd.func80.trans (congrArg some (by kernel_rfl))
  f266 := Tryd.func81.trans (congrArg some (by kernel_rfl))
  f267 := Tryd.func66.trans (congrArg some (by kernel_rfl))
  f268 := Tryd.func40.trans (congrArg some (by kernel_rfl))
  f314 := Tryd.func82.trans (congrArg some (by kernel_rfl))
  t0 := Tryd.underlying0
  a0 := Tryd.isAgg0
  z0 := Tryd.sizeOf0
  v0 := Tryd.zeroValue0
  t3 := Tryd.underlying3
  a3 := Tryd.isAgg3
  z3 := Tryd.sizeOf3
  v3 := Tryd.zeroValue3
  t4 := Tryd.underlying4
  a4 := Tryd.isAgg4
  z4 := Tryd.sizeOf4
  v4 := Tryd.zeroValue4
  t5 := Tryd.underlying5
  a5 := Tryd.isAgg5
  z5 := Tryd.sizeOf5
  v5 := Tryd.zeroValue5
  t9 := Tryd.underlying9
  a9 := Tryd.isAgg9
  z9 := Tryd.sizeOf9
  v9 := Tryd.zeroValue9
  t21 := Tryd.underlying21
  a21 := Tryd.isAgg21
  z21 := Tryd.sizeOf21
  v21 := Tryd.zeroValue21
  t31 := Tryd.underlying36
  a31 := Tryd.isAgg36
  z31 := Tryd.sizeOf36
  v31 := Tryd.zeroValue36
  t46 := Tryd.underlying93
  a46 := Tryd.isAgg93
  z46 := Tryd.sizeOf93
  v46 := Tryd.zeroValue93
  t51 := Tryd.underlying105
  a51 := Tryd.isAgg105
  z51 := Tryd.sizeOf105
  v51 := Tryd.zeroValue105
  t105 := Tryd.underlying89
  a105 := Tryd.isAgg89
  z105 := Tryd.sizeOf89
  v105 := Tryd.zeroValue89
  t119 := Tryd.underlying125
  a119 := Tryd.isAgg125
  z119 := Tryd.sizeOf125
  t138 := Tryd.underlying127
  a138 := Tryd.isAgg127
  z138 := Tryd.sizeOf127
  v138 := Tryd.zeroValue127
  t139 := Tryd.underlying128
  a139 := Tryd.isAgg128
  z139 := Tryd.sizeOf128
  v139 := Tryd.zeroValue128
  t146 := Tryd.underlying108
  a146 := Tryd.isAgg108
  z146 := Tryd.sizeOf108
  v146 := Tryd.zeroValue108
  g1 := by kernel_rfl
  g3 := by kernel_rfl
  g4 := by kernel_rfl }
def Tryd.lays145_ren : Go.Shelf.Ren := ⟨fun | 145 => 17 | 220 => 29 | 219 => 43 | 217 => 63 | 225 => 64 | 224 => 65 | 267 => 66 | 266 => 81 | 314 => 82 | n => n, fun | 9 => 9 | 4 => 4 | 59 => 42 | 3 => 3 | 5 => 5 | 46 => 93 | 146 => 108 | 51 => 105 | n => n, fun | 1 => 0 | n => n⟩
theorem Tryd.lays145 : Go.Proofs.Lays.n145 Tryd.prog Tryd.lays145_ren := {
  mixed := by kernel_rfl
  f145 := Tryd.func17.trans (congrArg some (by kernel_rfl))
  f217 := Tryd.func63.trans (congrArg some (by kernel_rfl))
  f219 := Tryd.func43.trans (congrArg some (by kernel_rfl))
  f220 := Tryd.func29.trans (congrArg some (by kernel_rfl))
  f224 := Tryd.func65.trans (congrArg some (by kernel_rfl))
  f225 := Tryd.func64.trans (congrArg some (by kernel_rfl))
  f266 := Tryd.func81.trans (congrArg some (by kernel_rfl))
  f267 := Tryd.func66.trans (congrArg some (by kernel_rfl))
  f314 := Tryd.func82.trans (congrArg some (by kernel_rfl))
  t3 := Tryd.underlying3
  a3 := Tryd.isAgg3
  z3 := Tryd.sizeOf3
  v3 := Tryd.zeroValue3
  t4 := Tryd.underlying4
  a4 := Tryd.isAgg4
  z4 := Tryd.sizeOf4
  v4 := Tryd.zeroValue4
  t5 := Tryd.underlying5
  a5 := Tryd.isAgg5
  z5 := Tryd.sizeOf5
  v5 := Tryd.zeroValue5
  t9 := Tryd.underlying9
  a9 := Tryd.isAgg9
  z9 := Tryd.sizeOf9
  v9 := Tryd.zeroValue9
  t46 := Tryd.underlying93
  a46 := Tryd.isAgg93
  z46 := Tryd.sizeOf93
  v46 := Tryd.zeroValue93
  t51 := Tryd.underlying105
  a51 := Tryd.isAgg105
  z51 := Tryd.sizeOf105
  v51 := Tryd.zeroValue105
  t59 := Tryd.underlying42
  a59 := Tryd.isAgg42
  z59 := Tryd.sizeOf42
  v59 := Tryd.zeroValue42
  t146 := Tryd.underlying108
  a146 := Tryd.isAgg108
  z146 := Tryd.sizeOf108
  v146 := Tryd.zeroValue108
  g1 := by kernel_rfl }
def Tryd.lays103_ren : Go.Shelf.Ren := ⟨fun | 103 => 18 | 210 => 30 | 206 => 44 | n => n, fun | 9 => 9 | 4 => 4 | 24 => 44 | 3 => 3 | n => n, fun | n => n⟩
theorem Tryd.lays103 : Go.Proofs.Lays.n103 Tryd.prog Tryd.lays103_ren := {
  mixed := by kernel_rfl
  f103 := Tryd.func18.trans (congrArg some (by kernel_rfl))
  f206 := Tryd.func44.trans (congrArg some (by kernel_rfl))
  f210 := Tryd.func30.trans (congrArg some (by kernel_rfl))
  t3 := Tryd.underlying3
  a3 := Tryd.isAgg3
  z3 := Tryd.sizeOf3
  v3 := Tryd.zeroValue3
  t4 := Tryd.underlying4
  a4 := Tryd.isAgg4
  z4 := Tryd.sizeOf4
  v4 := Tryd.zeroValue4
  t9 := Tryd.underlying9
  a9 := Tryd.isAgg9
  z9 := Tryd.sizeOf9
  v9 := Tryd.zeroValue9
  t24 := Tryd.underlying44
  a24 := Tryd.isAgg44
  z24 := Tryd.sizeOf44
  v24 := Tryd.zeroValue44 }
def Tryd.lays104_ren : Go.Shelf.Ren := ⟨fun | 104 => 19 | 211 => 31 | 207 => 45 | n => n, fun | 9 => 9 | 4 => 4 | 24 => 44 | 3 => 3 | n => n, fun | n => n⟩
theorem Tryd.lays104 : Go.Proofs.Lays.n104 Tryd.prog Tryd.lays104_ren := {
  mixed := by kernel_rfl
  f104 := Tryd.func19.trans (congrArg some (by kernel_rfl))
  f207 := Tryd.func45.trans (congrArg some (by kernel_rfl))
  f211 := Tryd.func31.trans (congrArg some (by kernel_rfl))
  t3 := Tryd.underlying3
  a3 := Tryd.isAgg3
  z3 := Tryd.sizeOf3
  v3 := Tryd.zeroValue3
  t4 := Tryd.underlying4
  a4 := Tryd.isAgg4
  z4 := Tryd.sizeOf4
  v4 := Tryd.zeroValue4
  t9 := Tryd.underlying9
  a9 := Tryd.isAgg9
  z9 := Tryd.sizeOf9
  v9 := Tryd.zeroValue9
  t24 := Tryd.underlying44
  a24 := Tryd.isAgg44
  z24 := Tryd.sizeOf44
  v24 := Tryd.zeroValue44 }
def Tryd.lays173_ren : Go.Shelf.Ren := ⟨fun | 173 => 23 | 246 => 37 | 283 => 54 | 284 => 55 | 285 => 56 | 286 => 57 | 129 => 76 | 317 => 75 | 318 => 77 | 319 => 78 | 320 => 79 | 337 => 97 | 338 => 98 | n => n, fun | 2 => 2 | 3 => 3 | 9 => 9 | 4 => 4 | 171 => 79 | 0 => 0 | 53 => 80 | 37 => 53 | 5 => 5 | 173 => 83 | 212 => 104 | 51 => 105 | 20 => 20 | 213 => 106 | 46 => 93 | 232 => 138 | 233 => 139 | n => n, fun | 17 => 1 | 18 => 6 | 19 => 7 | n => n⟩
theorem Tryd.lays173 : Go.Proofs.LaysM.n173 Tryd.prog Tryd.lays173_ren := {
  mixed := by kernel_rfl
  f129 := Tryd.func76.trans (congrArg some (by kernel_rfl))
  f173 := Tryd.func23.trans (congrArg some (by kernel_rfl))
  f246 := Tryd.func37.trans (congrArg some (by kernel_rfl))
  f283 := Tryd.func54.trans (congrArg some (by kernel_rfl))
  f284 := Tryd.func55.trans (congrArg some (by kernel_rfl))
  f285 := Tryd.func56.trans (congrArg some (by kernel_rfl))
  f286 := Tryd.func57.trans (congrArg some (by kernel_rfl))
  f317 := Tryd.func75.trans (congrArg some (by kernel_rfl))
  f318 := Tryd.func77.trans (congrArg some (by kernel_rfl))
  f319 := Tryd.func78.trans (congrArg some (by kernel_rfl))
  f320 := Tryd.func79.trans (congrArg some (by kernel_rfl))
  f337 := Tryd.func97.trans (congrArg some (by kernel_rfl))
  f338 := Tryd.func98.trans (congrArg some (by kernel_rfl))
  t0 := Tryd.underlying0
  a0 := Tryd.isAgg0
  z0 := Tryd.sizeOf0
  v0 := Tryd.zeroValue0
  t2 := Tryd.underlying2
  a2 := Tryd.isAgg2
  z2 := Tryd.sizeOf2
  v2 := Tryd.zeroValue2
  t3 := Tryd.underlying3
  a3 := Tryd.isAgg3
  z3 := Tryd.sizeOf3
  v3 := Tryd.zeroValue3
  t4 := Tryd.underlying4
  a4 := Tryd.isAgg4
  z4 := Tryd.sizeOf4
  v4 := Tryd.zeroValue4
  t5 := Tryd.underlying5
  a5 := Tryd.isAgg5
  z5 := Tryd.sizeOf5
  v5 := Tryd.zeroValue5
  t9 := Tryd.underlying9
  a9 := Tryd.isAgg9
  z9 := Tryd.sizeOf9
  v9 := Tryd.zeroValue9
  t20 := Tryd.underlying20
  a20 := Tryd.isAgg20
  z20 := Tryd.sizeOf20
  v20 := Tryd.zeroValue20
  t37 := Tryd.underlying53
  a37 := Tryd.isAgg53
  z37 := Tryd.sizeOf53
  v37 := Tryd.zeroValue53
  t46 := Tryd.underlying93
  a46 := Tryd.isAgg93
  z46 := Tryd.sizeOf93
  v46 := Tryd.zeroValue93
  t51 := Tryd.underlying105
  a51 := Tryd.isAgg105
  z51 := Tryd.sizeOf105
  v51 := Tryd.zeroValue105
  t53 := Tryd.underlying80
  a53 := Tryd.isAgg80
  z53 := Tryd.sizeOf80
  v53 := Tryd.zeroValue80
  t171 := Tryd.underlying79
  a171 := Tryd.isAgg79
  z171 := Tryd.sizeOf79
  v171 := Tryd.zeroValue79
  t173 := Tryd.underlying83
  a173 := Tryd.isAgg83
  z173 := Tryd.sizeOf83
  v173 := Tryd.zeroValue83
  t212 := Tryd.underlying104
  a212 := Tryd.isAgg104
  z212 := Tryd.sizeOf104
  v212 := Tryd.zeroValue104
  t213 := Tryd.underlying106
  a213 := Tryd.isAgg106
  z213 := Tryd.sizeOf106
  t232 := Tryd.underlying138
  a232 := Tryd.isAgg138
  z232 := Tryd.sizeOf138
  v232 := Tryd.zeroValue138
  t233 := Tryd.underlying139
  a233 := Tryd.isAgg139
  z233 := Tryd.sizeOf139
  v233 := Tryd.zeroValue139
  g17 := by kernel_rfl
  g18 := by kernel_rfl
  g19 := by kernel_rfl
  i0 := by kernel_rfl
  i2 := by kernel_rfl
  i3 := by kernel_rfl
  i4 := by kernel_rfl
  i5 := by kernel_rfl
  i9 := by kernel_rfl
  i20 := by kernel_rfl
  i37 := by kernel_rfl
  i46 := by kernel_rfl
  i51 := by kernel_rfl
  i53 := by kernel_rfl
  i171 := by kernel_rfl
  i173 := by kernel_rfl
  i212 := by kernel_rfl
  i232 := by kernel_rfl
  i233 := by kernel_rfl
  m17 := by kernel_rfl
  m18 := by kernel_rfl
  m19 := by kernel_rfl }
def Tryd.lays247_ren : Go.Shelf.Ren := ⟨fun | 247 => 46 | 287 => 67 | 321 => 83 | 322 => 84 | n => n, fun | 9 => 9 | 3 => 3 | 2 => 2 | 75 => 58 | 4 => 4 | 167 => 94 | 5 => 5 | 53 => 80 | 175 => 95 | 46 => 93 | 37 => 53 | 0 => 0 | 21 => 21 | 80 => 61 | n => n, fun | n => n⟩
theorem Tryd.lays247 : Go.Proofs.LaysC.n247 Tryd.prog Tryd.lays247_ren := {
  mixed := by kernel_rfl
  f247 := Tryd.func46.trans (congrArg some (by kernel_rfl))
  f287 := Tryd.func67.trans (congrArg some (by kernel_rfl))
  f321 := Tryd.func83.trans (congrArg some (by kernel_rfl))
  f322 := Tryd.func84.trans (congrArg some (by kernel_rfl))
  t0 := Tryd.underlying0
  a0 := Tryd.isAgg0
  z0 := Tryd.sizeOf0
  v0 := Tryd.zeroValue0
  t2 := Tryd.underlying2
  a2 := Tryd.isAgg2
  z2 := Tryd.sizeOf2
  v2 := Tryd.zeroValue2
  t3 := Tryd.underlying3
  a3 := Tryd.isAgg3
  z3 := Tryd.sizeOf3
  v3 := Tryd.zeroValue3
  t4 := Tryd.underlying4
  a4 := Tryd.isAgg4
  z4 := Tryd.sizeOf4
  v4 := Tryd.zeroValue4
  t5 := Tryd.underlying5
  a5 := Tryd.isAgg5
  z5 := Tryd.sizeOf5
  v5 := Tryd.zeroValue5
  t9 := Tryd.underlying9
  a9 := Tryd.isAgg9
  z9 := Tryd.sizeOf9
  v9 := Tryd.zeroValue9
  t21 := Tryd.underlying21
  a21 := Tryd.isAgg21
  z21 := Tryd.sizeOf21
  v21 := Tryd.zeroValue21
  t37 := Tryd.underlying53
  a37 := Tryd.isAgg53
  z37 := Tryd.sizeOf53
  v37 := Tryd.zeroValue53
  t46 := Tryd.underlying93
  a46 := Tryd.isAgg93
  z46 := Tryd.sizeOf93
  v46 := Tryd.zeroValue93
  t53 := Tryd.underlying80
  a53 := Tryd.isAgg80
  z53 := Tryd.sizeOf80
  v53 := Tryd.zeroValue80
  t75 := Tryd.underlying58
  a75 := Tryd.isAgg58
  z75 := Tryd.sizeOf58
  v75 := Tryd.zeroValue58
  t167 := Tryd.underlying94
  a167 := Tryd.isAgg94
  z167 := Tryd.sizeOf94
  v167 := Tryd.zeroValue94
  t175 := Tryd.underlying95
  a175 := Tryd.isAgg95
  z175 := Tryd.sizeOf95
  v175 := Tryd.zeroValue95
  t80 := Tryd.underlying61
  a80 := Tryd.isAgg61
  z80 := Tryd.sizeOf61
  v80 := Tryd.zeroValue61
  i0 := by kernel_rfl
  i2 := by kernel_rfl
  i3 := by kernel_rfl
  i4 := by kernel_rfl
  i5 := by kernel_rfl
  i9 := by kernel_rfl
  i21 := by kernel_rfl
  i37 := by kernel_rfl
  i46 := by kernel_rfl
  i53 := by kernel_rfl
  i75 := by kernel_rfl
  i80 := by kernel_rfl
  i167 := by kernel_rfl
  i175 := by kernel_rfl
  c0 := by kernel_rfl
  c2 := by kernel_rfl
  c3 := by kernel_rfl
  c4 := by kernel_rfl
  c5 := by kernel_rfl
  c9 := by kernel_rfl
  c21 := by kernel_rfl
  c37 := by kernel_rfl
  c46 := by kernel_rfl
  c53 := by kernel_rfl
  c75 := by kernel_rfl
  c80 := by kernel_rfl
  c167 := by kernel_rfl
  c175 := by kernel_rfl }
end Go.Proofs

namespace Go.Proofs
structure Sp where
  f : Int
  t : Int
theorem Sp.ext' {a b : Sp} (h1 : a.f = b.f) (h2 : a.t = b.t) : a = b := by
  obtain ⟨a, b⟩ := a; simp only at h1 h2; subst h1; subst h2; rfl
def neS (l : List Sp) : Prop := ∀ s, s ∈ l → s.f < s.t
def SetP (l : List Sp) : Prop := neS l ∧ l.Pairwise (fun a b => a.t < b.f)
theorem SetP.nil : SetP [] := ⟨fun _ h => by simp at h, List.Pairwise.nil⟩
def SetI (l : List Sp) : Prop := ∀ (i : Nat) (h : i < l.length), l[i].f < l[i].t ∧ ∀ h0 : 0 < i, (l[i - 1]'(by omega)).t < l[i].f
theorem setI_iff (l : List Sp) : SetI l ↔ SetP l := by
  constructor
  · intro h
    refine ⟨fun s hs => ?_, List.pairwise_iff_getElem.2 ?_⟩
    · obtain ⟨i, hi, rfl⟩ := List.getElem_of_mem hs
      exact (h i hi).1
    · intro i j hi hj hij
      induction j with
      | zero => omega
      | succ j ih =>
        have h1 := (h (j + 1) hj).2 (by omega)
        simp only [Nat.add_sub_cancel] at h1
        rcases Nat.lt_or_ge i j with g | g
        · have h2 := ih (by omega) g
          have h3 := (h j (by omega)).1
          omega
        · have e : i = j := by omega
          subst e; exact h1
  · rintro ⟨h1, h2⟩ i hi
    exact ⟨h1 _ (List.getElem_mem _), fun h0 => List.pairwise_iff_getElem.1 h2 (i - 1) i (by omega) hi (by omega)⟩
abbrev loT : Int := -9223372036854775808
abbrev hiT : Int := 9223372036854775807
def rngS (l : List Sp) : Prop := ∀ s, s ∈ l → (loT ≤ s.f ∧ s.f ≤ hiT) ∧ loT ≤ s.t ∧ s.t ≤ hiT
end Go.Proofs
