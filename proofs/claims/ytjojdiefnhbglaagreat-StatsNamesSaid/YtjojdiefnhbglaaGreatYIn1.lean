/- slices.Insert of one struct of three cells: there is room. -/
import Derived.Test.YtjojdiefnhbglaaGreatYInst
import Derived.Shelf.Spec.SlicesInsertGrow
set_option linter.all false
namespace Go.Proofs
open Go.Shelf Go.RowKit Go.Lib
theorem run_copy_cellsK {P : Program} (k : Nat) (w : World) (dT sT ty elem : TypeId) (b o dLen dCap : Nat) (a : Addr) (sLen sCap m : Nat) (cs : List Value)
    (hu : P.underlying dT = some (.slice elem)) (hs : (P.info? elem).map (·.size) = some k) (hm : m = Nat.min sLen dLen) (hn : cs.length = k * m)
    (hsrc : ∀ j v,cs[j]? = some v → w.cell? (a.add j) = some v) (hc : ∀ j,j < cs.length → (w.cell? ⟨b,o + j,none⟩).isSome = true) (hf : ∀ j,j < cs.length → w.frozen? ⟨b,o + j,none⟩ = false) (h1 : ∀ v ∈ cs,v.oneCell' = true) :
    (Builtin.copy_ #[dT,sT] ty #[.slice (some ⟨b,o,none⟩) dLen dCap,.slice (some a) sLen sCap]).run P w = .ok (goInt m) (w.setCells b o cs):=by
  have hl:=run_loadCells_list (P:=P) w a cs hsrc
  have hst:=run_storeCells_cells (P:=P) b o cs 0 w (by simpa using hc) (by simpa using hf) h1
  cases hq : P.info? elem with
  | none=>simp [hq] at hs
  | some i =>
    have hi : i.size = k:=by simpa [hq] using hs
    have hn2 : m * k = cs.length:=by rw [hn,Nat.mul_comm]
    simp [Builtin.copy_,run_underlying hu,Builtin.lenOf,Builtin.firstCells,sizeOf,typeInfo,hq,hi,← hm,hn2,← hn,hl,hst]
set_option maxHeartbeats 4000000 in
set_option maxRecDepth 100000 in
theorem Tryz.insert_shift (b off n c i vb voff vc : Nat) (cs vs : List Value) (w : World) (hi : i < n) (hroom : n + 1 ≤ c) (hc63 : c ≤ 9223372036854775807) (hvb : vb ≠ b)
    (hcl : cs.length = 3 * n) (hvl : vs.length = 3)
    (hcs : ∀ j v,cs[j]? = some v → w.cell? ⟨b,off + j,none⟩ = some v) (hsp : ∀ j,j < 3 * (n + 1) → (w.cell? ⟨b,off + j,none⟩).isSome = true) (hfz : ∀ j,j < 3 * (n + 1) → w.frozen? ⟨b,off + j,none⟩ = false)
    (hvs : ∀ j v,vs[j]? = some v → w.cell? ⟨vb,voff + j,none⟩ = some v) (h1c : ∀ v ∈ cs,v.oneCell' = true) (h1v : ∀ v ∈ vs,v.oneCell' = true)
    (tA tB : TypeId) (kA kB : Nat) (hsa : w.shape? vb = some (tA,kA)) (hsb : w.shape? b = some (tB,kB)) (hkB : kB ≠ 0) (hfa : w.frozen? ⟨vb,voff,none⟩ = false) (hfe : w.frozen? ⟨vb,kA,none⟩ = false) :
    Calls Tryz.prog 77 #[.slice (some ⟨b,off,none⟩) n c,.int .i64 i,.slice (some ⟨vb,voff,none⟩) 1 vc] w fun e w' =>
      e = .returned (.slice (some ⟨b,off,none⟩) (n + 1) c) ∧ w' = (w.drew.setCells b (off + 3 * (i + 1)) (cs.drop (3 * i))).setCells b (off + 3 * i) vs:=by
  have hz2 : ¬ ((i : Int) = (n : Int)):=by omega
  have hov : ∀ o lb cb,(callFunc 132 #[.slice (some ⟨vb,voff,none⟩) 1 vc,.slice (some ⟨b,o,none⟩) lb cb]).run Tryz.prog w = .ok (.value (.bool false)) w:=fun o lb cb=>by
    rw [run_callFunc_extern Tryz.func132 (by kernel_rfl) (by kernel_rfl) (by kernel_rfl) (e:=Extern.SlicesOverlaps.overlaps #[82,82] #[4]) (by kernel_rfl),
      Lib.run_overlaps_apart w 82 4 90 Tryz.underlying82 3 Tryz.sizeOf90 ⟨vb,voff,none⟩ ⟨b,o,none⟩ 1 vc lb cb hvb tA tB kA kB hsa hsb hkB hfa hfe]
    rfl
  have hw1 : IntKind.i64.wrap ((i : Int) + 1) = (i : Int) + 1:=by rw [IntKind.wrap_i64];omega
  have hb1 : (0 : Int) ≤ (i : Int) + 1:=by omega
  have hin : i ≤ n:=by omega
  have htn : ((i : Int) + 1).toNat = i + 1:=by omega
  have hb2 : ¬ (c = i + 1):=by omega
  have hb3 : (i : Int) ≤ (n : Int) + 1:=by omega
  have hb4 : ¬ (c = i):=by omega
  have hsz : (Tryz.prog.info? 90).map (·.size) = some 3:=by kernel_rfl
  have hdl : (cs.drop (3 * i)).length = 3 * (n - i):=by rw [List.length_drop,hcl];omega
  have hcp1 : ∀ ty dc sc,(Builtin.copy_ #[82,82] ty #[.slice (some ⟨b,off + (i + 1) * 3,none⟩) (n - i) dc,.slice (some ⟨b,off + i * 3,none⟩) (n + 1 - i) sc]).run Tryz.prog w.drew = .ok (goInt (n - i : Nat)) (w.drew.setCells b (off + (i + 1) * 3) (cs.drop (3 * i))):=fun ty dc sc =>
    run_copy_cellsK 3 w.drew _ _ ty 90 b (off + (i + 1) * 3) (n - i) dc ⟨b,off + i * 3,none⟩ (n + 1 - i) sc (n - i) (cs.drop (3 * i)) Tryz.underlying82 hsz (by simp only [Nat.min_def];split <;> omega) hdl
      (fun j v hj=>by rw [Addr.add_lit,show off + i * 3 + j = off + (3 * i + j) by omega];exact hcs (3 * i + j) v (by rwa [List.getElem?_drop] at hj))
      (fun j hj=>by rw [Nat.add_assoc];exact hsp _ (by omega)) (fun j hj=>by rw [Nat.add_assoc];exact hfz _ (by omega)) (fun v hv=>h1c v (List.mem_of_mem_drop hv))
  obtain ⟨W1,hW1⟩ : ∃ W1,W1 = w.drew.setCells b (off + (i + 1) * 3) (cs.drop (3 * i)):=⟨_,rfl⟩
  have hsp1 : ∀ k,k < 3 * (n + 1) → (W1.cell? ⟨b,off + k,none⟩).isSome = true:=fun k hk=>by
    rw [hW1]
    exact isSome_setCells b _ _ _ (fun j hj=>by rw [Nat.add_assoc];exact hsp _ (by omega)) _ (hsp k hk)
  have hcp2 : ∀ (W : World),(∀ x,W.cell? x = W1.cell? x) → (∀ x,W.frozen? x = W1.frozen? x) → ∀ ty dc,(Builtin.copy_ #[82,82] ty #[.slice (some ⟨b,off + i * 3,none⟩) (n + 1 - i) dc,.slice (some ⟨vb,voff,none⟩) 1 vc]).run Tryz.prog W = .ok (goInt (1 : Nat)) (W.setCells b (off + i * 3) vs):=fun W hWc hWf ty dc =>
    run_copy_cellsK 3 W _ _ ty 90 b (off + i * 3) (n + 1 - i) dc ⟨vb,voff,none⟩ 1 vc 1 vs Tryz.underlying82 hsz (by simp only [Nat.min_def];split <;> omega) hvl
      (fun j v hj=>by
        rw [Addr.add_lit,hWc,hW1,World.cell?_setCells_out b _ _ _ _ (fun h _=>absurd h hvb)]
        exact hvs j v hj)
      (fun j hj=>by rw [hWc,Nat.add_assoc];exact hsp1 _ (by omega)) (fun j hj=>by rw [hWf,hW1,World.frozen?_setCells,Nat.add_assoc];exact hfz _ (by omega)) h1v
  rw [← hW1] at hcp1
  have mixed : Tryz.prog.follows .mixedOrders = true:=by kernel_rfl
  go_enter Tryz.func77,Tryz.ntmps77
  go_wp2_with (simp only [hov])
  go_region_law_o (refine step_copy_runI rfl _ _ 82 82 rfl _ _ (by simp [Act.eval,Act.put]) (by simp [Act.eval,Act.put]) (hcp1 _ _ _) ?_)
  go_wp2_with (at_builtin;refine wpList_copy_runI _ rfl _ _ 82 82 rfl _ _ rfl rfl (hcp2 _ (fun _=>rfl) (fun _=>rfl) _ _) ?_)
  go_ret
  first|exact ⟨rfl,rfl⟩|exact ⟨rfl,by first|rw [Nat.mul_comm 3 (i + 1),Nat.mul_comm 3 i]|rw [hW1,Nat.mul_comm 3 (i + 1),Nat.mul_comm 3 i]⟩
end Go.Proofs

namespace Go.Proofs
open Go.Shelf Go.RowKit Go.Lib
abbrev txZ : Value:=.agg #[.int .i64 0,.int .i64 0,.int .i64 0]
theorem Tryz.info90 : (Tryz.prog.info? 90).map (fun i=>(i.zero,i.size,i.bytes)) = some (some txZ,3,24):=by kernel_rfl
set_option maxHeartbeats 4000000 in
set_option maxRecDepth 100000 in
theorem Tryz.insert_end_room (b off n c vb voff vc : Nat) (vs : List Value) (w : World) (hroom : n + 1 ≤ c) (hc63 : c ≤ 9223372036854775807)
    (hvl : vs.length = 3) (hsp : ∀ j,j < 3 → (w.cell? ⟨b,off + n * 3 + j,none⟩).isSome = true) (hfz : ∀ j,j < 3 → w.frozen? ⟨b,off + n * 3 + j,none⟩ = false)
    (hvs : ∀ j v,vs[j]? = some v → w.cell? ⟨vb,voff + j,none⟩ = some v) (h1v : ∀ v ∈ vs,v.oneCell' = true) :
    Calls Tryz.prog 77 #[.slice (some ⟨b,off,none⟩) n c,.int .i64 n,.slice (some ⟨vb,voff,none⟩) 1 vc] w fun e w' =>
      e = .returned (.slice (some ⟨b,off,none⟩) (n + 1) c) ∧ w' = w.setCells b (off + n * 3) vs:=by
  obtain ⟨i0,hi0,hz0,hzs,hzb⟩:=info_parts Tryz.info90
  have mixed : Tryz.prog.follows .mixedOrders = true:=by kernel_rfl
  have hsrc : Src Tryz.prog i0.size 82 (.slice (some ⟨vb,voff,none⟩) 1 vc) 1 vs w:=by
    rw [hzs];exact Src.ofSlice w Tryz.underlying82 ⟨vb,voff,none⟩ 1 vc vs (by omega) (fun j u hj=>by rw [Addr.add_lit];exact hvs j u hj) h1v
  have hq:=fun (ops : Array Oper) (rest : List Oper) (o : Oper) (a : Act) (Q : Exit → Act → World → Prop) (hg : o.guard = none) (s x : Operand) (hop : o.op = Op.call { callee:=Callee.builtin Builtin.append,args:=#[s,x],argTypes:=#[82,82] }) (hs : a.eval s = .slice (some ⟨b,off,none⟩) n c) (hx : a.eval x = .slice (some ⟨vb,voff,none⟩) 1 vc)
      (hK : wpList Tryz.prog ops Q rest (a.put o.dst (.slice (some ⟨b,off,none⟩) (n + 1) c)) (w.setCells b (off + n * 3) vs)) =>
    wpList_append_room_src w (ops:=ops) (rest:=rest) (o:=o) (a:=a) (Q:=Q) hg s x 82 82 hop 90 i0 Tryz.underlying82 hi0 b off n c hs _ hx 1 vs hsrc hroom (by rw [hvl,hzs];exact hsp) (by rw [hvl,hzs];exact hfz) (by rw [hzs];exact hK)
  go_enter Tryz.func77,Tryz.ntmps77
  go_wp2_with (at_builtin;refine hq _ _ _ _ _ rfl _ _ rfl rfl rfl ?_)
  go_ret
  exact ⟨rfl,rfl⟩
set_option maxHeartbeats 4000000 in
set_option maxRecDepth 100000 in
theorem Tryz.insert_end_grow (base : Option Addr) (n c vb voff vc : Nat) (cs vs : List Value) (w : World) (hnc : n ≤ c) (hroom : c < n + 1) (hbig : (n + 1) * 24 ≤ 140737488355328)
    (hcl : cs.length = n * 3) (hvl : vs.length = 3) (hnil : base = none → n = 0)
    (hcs : ∀ a,base = some a → ∀ j v,cs[j]? = some v → w.cell? (a.add j) = some v)
    (hvs : ∀ j v,vs[j]? = some v → w.cell? ⟨vb,voff + j,none⟩ = some v) (h1v : ∀ v ∈ vs,v.oneCell' = true) :
    Calls Tryz.prog 77 #[.slice base n c,.int .i64 n,.slice (some ⟨vb,voff,none⟩) 1 vc] w fun e w' =>
      e = .returned (.slice (some ⟨w.heap.size,0,none⟩) (n + 1) (grownCap w (n + 1) c 90)) ∧
      w' = w.drew.alloc (.cells ((cs ++ vs).toArray ++ Builtin.zeroCells txZ.cells (grownCap w (n + 1) c 90 - (n + 1))) 90):=by
  have mixed : Tryz.prog.follows .mixedOrders = true:=by kernel_rfl
  obtain ⟨i0,hi0,hz0,hzs,hzb⟩:=info_parts Tryz.info90
  have hsrc : Src Tryz.prog i0.size 82 (.slice (some ⟨vb,voff,none⟩) 1 vc) 1 vs w:=by
    rw [hzs];exact Src.ofSlice w Tryz.underlying82 ⟨vb,voff,none⟩ 1 vc vs (by omega) (fun j u hj=>by rw [Addr.add_lit];exact hvs j u hj) h1v
  have hold : (Builtin.firstCells i0.size n (.slice base n c)).run Tryz.prog w.drew = .ok cs.toArray w.drew:=by
    rw [hzs]
    cases base with
    | none =>
      have h0:=hnil rfl
      subst h0
      rw [List.length_eq_zero_iff.1 (show cs.length = 0 by omega)]
      exact run_firstCells_none w.drew 3 0 0 c
    | some a=>exact run_firstCells_some w.drew 3 n a n c cs (by omega) (fun j v hj=>hcs a rfl j v hj)
  have hrun : ∀ ty,(Builtin.append_ #[82,82] ty #[.slice base n c,.slice (some ⟨vb,voff,none⟩) 1 vc]).run Tryz.prog w = _:=fun ty =>
    run_append_grow_src w 82 82 ty 90 i0 _ Tryz.underlying82 hi0 hz0 base n c cs hold _ 1 vs hsrc hroom (by omega) (by rw [hzb];exact growslice_fits hroom hbig)
  go_enter Tryz.func77,Tryz.ntmps77
  cases base with
  | none =>
    have h0:=hnil rfl
    subst h0
    go_wp2_with (at_builtin;refine Lib.wpList_append_run _ rfl _ _ _ _ rfl _ _ rfl rfl _ _ (hrun _) ?_)
    go_ret
    exact ⟨rfl,rfl⟩
  | some a =>
    obtain ⟨ab,ao,asp⟩:=a
    go_wp2_with (at_builtin;refine Lib.wpList_append_run _ rfl _ _ _ _ rfl _ _ rfl rfl _ _ (hrun _) ?_)
    all_goals (go_ret;exact ⟨rfl,rfl⟩)
end Go.Proofs

namespace Go.Proofs
open Go.Shelf Go.RowKit Go.Lib
set_option maxHeartbeats 4000000 in
set_option maxRecDepth 100000 in
theorem Tryz.insert_grow (b off n c i vb voff vc : Nat) (cs vs : List Value) (w : World) (hi : i < n) (hnc : n ≤ c) (hroom : c < n + 1) (hbig : (n + 1) * 24 ≤ 140737488355328)
    (hcl : cs.length = n * 3) (hvl : vs.length = 3)
    (hcs : ∀ j v,cs[j]? = some v → w.cell? ⟨b,off + j,none⟩ = some v)
    (hvs : ∀ j v,vs[j]? = some v → w.cell? ⟨vb,voff + j,none⟩ = some v) (h1c : ∀ v ∈ cs,v.oneCell' = true) (h1v : ∀ v ∈ vs,v.oneCell' = true) :
    Calls Tryz.prog 77 #[.slice (some ⟨b,off,none⟩) n c,.int .i64 i,.slice (some ⟨vb,voff,none⟩) 1 vc] w fun e w' =>
      e = .returned (.slice (some ⟨w.heap.size,0,none⟩) (n + 1) (grownCap w (n + 1) c 90)) ∧
      w' = (((w.alloc (.cells ((cs.take (i * 3)).toArray ++ Builtin.zeroCells txZ.cells (n + 1 - i) ++ Builtin.zeroCells txZ.cells (grownCap w (n + 1) c 90 - (n + 1))) 90)).drew.setCells w.heap.size (i * 3) vs).drew).setCells w.heap.size ((i + 1) * 3) (cs.drop (i * 3)):=by
  have mixed : Tryz.prog.follows .mixedOrders = true:=by kernel_rfl
  obtain ⟨i0,hi0,hz0,hzs,hzb⟩:=info_parts Tryz.info90
  have hz2 : ¬ ((i : Int) = (n : Int)):=by omega
  have hz3 : (c : Int) < (n : Int) + 1:=by omega
  have hsz : (Tryz.prog.info? 90).map (·.size) = some 3:=by rw [hi0];simp [hzs]
  have hbw : b < w.heap.size:=block_lt_of_cell (hcs 0 _ (List.getElem?_eq_getElem (by omega)))
  have hvw : vb < w.heap.size:=block_lt_of_cell (hvs 0 _ (List.getElem?_eq_getElem (by omega)))
  have hkk : (n : Int) + 1 - (i : Int) = ((n + 1 - i : Nat) : Int):=by omega
  have hik : i + (n + 1 - i) = n + 1:=by omega
  have hold : (Builtin.firstCells i0.size i (.slice (some ⟨b,off,none⟩) i c)).run Tryz.prog w.drew = .ok (cs.take (i * 3)).toArray w.drew:=by
    rw [hzs]
    exact run_firstCells_some w.drew 3 i ⟨b,off,none⟩ i c (cs.take (i * 3)) (by rw [List.length_take];omega) (fun j v hj=>by
      rw [Addr.add_lit]
      rw [List.getElem?_take] at hj
      split at hj
      · exact hcs j v hj
      · cases hj)
  have hrz : ∀ ty,(Builtin.append_ #[82,3] ty #[.slice (some ⟨b,off,none⟩) i c,.int .i64 ((n : Int) + 1 - (i : Int))]).run Tryz.prog w =
      .ok (.slice (some ⟨w.heap.size,0,none⟩) (n + 1) (grownCap w (n + 1) c 90)) (w.drew.alloc (.cells ((cs.take (i * 3)).toArray ++ Builtin.zeroCells txZ.cells (n + 1 - i) ++ Builtin.zeroCells txZ.cells (grownCap w (n + 1) c 90 - (n + 1))) 90)):=fun ty=>by
    have h:=Lib.run_append_grow_zeros w 82 3 ty 90 i0 _ .i64 .i64 Tryz.underlying82 Tryz.underlying3 hi0 hz0 (some ⟨b,off,none⟩) i c (cs.take (i * 3)) hold (n + 1 - i) (by omega) (by omega) (by omega) (by omega) (by rw [hzb];omega) (by rw [hzb,hik];exact growslice_fits hroom hbig)
    rw [hik] at h
    rw [hkk]
    exact h
  obtain ⟨G,hG⟩ : ∃ G,G = grownCap w (n + 1) c 90:=⟨_,rfl⟩
  obtain ⟨ROW,hROW⟩ : ∃ ROW : Array Value,ROW = (cs.take (i * 3)).toArray ++ Builtin.zeroCells txZ.cells (n + 1 - i) ++ Builtin.zeroCells txZ.cells (G - (n + 1)):=⟨_,rfl⟩
  rw [← hG] at hrz ⊢
  rw [← hROW] at hrz ⊢
  have hzc : ∀ k,(Builtin.zeroCells txZ.cells k).size = k * 3:=fun k=>by
    induction k with
    | zero=>simp [Builtin.zeroCells]
    | succ k ih=>simp [Builtin.zeroCells,Value.cells] at ih ⊢;try omega
  have hRl : (n + 1) * 3 ≤ ROW.size:=by
    rw [hROW,Array.size_append,Array.size_append,hzc,hzc,List.size_toArray,List.length_take]
    omega
  obtain ⟨W1,hW1⟩ : ∃ W1,W1 = w.drew.alloc (.cells ROW 90):=⟨_,rfl⟩
  rw [← hW1] at hrz
  have hN : ∀ j,j < (n + 1) * 3 → (W1.cell? ⟨w.heap.size,j,none⟩).isSome = true:=fun j hj=>by
    rw [hW1,World.cell?_alloc_at (w:=w.drew) ROW _ w.heap.size j rfl,Array.getElem?_eq_getElem (by omega)];rfl
  have hNf : ∀ j,W1.frozen? ⟨w.heap.size,j,none⟩ = false:=fun j=>by rw [hW1];exact World.frozen?_alloc_at (w:=w.drew) ROW _ w.heap.size j rfl
  have hOb : ∀ j v,w.cell? ⟨b,j,none⟩ = some v → W1.cell? ⟨b,j,none⟩ = some v:=fun j v h=>by rw [hW1,World.cell?_alloc_past (w:=w.drew) _ b j hbw];exact h
  have hOv : ∀ j v,w.cell? ⟨vb,j,none⟩ = some v → W1.cell? ⟨vb,j,none⟩ = some v:=fun j v h=>by rw [hW1,World.cell?_alloc_past (w:=w.drew) _ vb j hvw];exact h
  have hcpA : ∀ (W : World),(∀ x,W.cell? x = W1.cell? x) → (∀ x,W.frozen? x = W1.frozen? x) → ∀ ty dc,(Builtin.copy_ #[82,82] ty #[.slice (some ⟨w.heap.size,i * 3,none⟩) (n + 1 - i) dc,.slice (some ⟨vb,voff,none⟩) 1 vc]).run Tryz.prog W = .ok (goInt (1 : Nat)) (W.setCells w.heap.size (i * 3) vs):=fun W hWc hWf ty dc =>
    run_copy_cellsK 3 W _ _ ty 90 w.heap.size (i * 3) (n + 1 - i) dc ⟨vb,voff,none⟩ 1 vc 1 vs Tryz.underlying82 hsz (by simp only [Nat.min_def];split <;> omega) hvl
      (fun j v hj=>by rw [Addr.add_lit,hWc];exact hOv _ v (hvs j v hj))
      (fun j hj=>by rw [hWc];exact hN _ (by omega)) (fun j hj=>by rw [hWf];exact hNf _) h1v
  have hGn : n + 1 ≤ G:=by rw [hG];exact grownCap_ge w _ _ _
  have hG63 : G ≤ 9223372036854775807:=by
    have:=grownCap_le_maxLen w (n + 1) c 90 (by unfold maxLen;omega)
    rw [← hG] at this
    unfold maxLen at this
    omega
  have hGi : ¬ (G = i):=by omega
  have hGim : ¬ (G = i + 1):=by omega
  have hci : ¬ (c = i):=by omega
  have hbN : b ≠ w.heap.size:=by omega
  have hdl : (cs.drop (i * 3)).length = 3 * (n - i):=by rw [List.length_drop,hcl];omega
  have hcpB : ∀ (W : World),(∀ x,W.cell? x = (W1.setCells w.heap.size (i * 3) vs).cell? x) → (∀ x,W.frozen? x = (W1.setCells w.heap.size (i * 3) vs).frozen? x) → ∀ ty dc sc,(Builtin.copy_ #[82,82] ty #[.slice (some ⟨w.heap.size,(i + 1) * 3,none⟩) (n - i) dc,.slice (some ⟨b,off + i * 3,none⟩) (n - i) sc]).run Tryz.prog W = .ok (goInt (n - i : Nat)) (W.setCells w.heap.size ((i + 1) * 3) (cs.drop (i * 3))):=fun W hWc hWf ty dc sc =>
    run_copy_cellsK 3 W _ _ ty 90 w.heap.size ((i + 1) * 3) (n - i) dc ⟨b,off + i * 3,none⟩ (n - i) sc (n - i) (cs.drop (i * 3)) Tryz.underlying82 hsz (by simp only [Nat.min_def];split <;> omega) hdl
      (fun j v hj=>by
        rw [Addr.add_lit,hWc,World.cell?_setCells_out _ _ _ _ _ (fun h _=>absurd h hbN),Nat.add_assoc]
        exact hOb _ v (hcs (i * 3 + j) v (by rwa [List.getElem?_drop] at hj)))
      (fun j hj=>by rw [hWc];exact isSome_setCells _ _ _ _ (fun t ht=>hN _ (by omega)) _ (hN _ (by omega)))
      (fun j hj=>by rw [hWf,World.frozen?_setCells];exact hNf _) (fun v hv=>h1c v (List.mem_of_mem_drop hv))
  subst hW1
  have hE1 : ∀ x,((w.alloc (.cells ROW 90)).drew).cell? x = (w.drew.alloc (.cells ROW 90)).cell? x:=fun x=>rfl
  have hE2 : ∀ x,((w.alloc (.cells ROW 90)).drew).frozen? x = (w.drew.alloc (.cells ROW 90)).frozen? x:=fun x=>rfl
  have hF1 : ∀ x,(((w.alloc (.cells ROW 90)).drew.setCells w.heap.size (i * 3) vs).drew).cell? x = ((w.drew.alloc (.cells ROW 90)).setCells w.heap.size (i * 3) vs).cell? x:=fun x=>rfl
  have hF2 : ∀ x,(((w.alloc (.cells ROW 90)).drew.setCells w.heap.size (i * 3) vs).drew).frozen? x = ((w.drew.alloc (.cells ROW 90)).setCells w.heap.size (i * 3) vs).frozen? x:=fun x=>rfl
  have hw1 : IntKind.i64.wrap ((i : Int) + 1) = (i : Int) + 1:=by rw [IntKind.wrap_i64];omega
  have hb1 : (0 : Int) ≤ (i : Int) + 1:=by omega
  have hin : i ≤ n:=by omega
  have htn : ((i : Int) + 1).toNat = i + 1:=by omega
  have hb3 : (i : Int) ≤ (n : Int):=by omega
  have hn1 : n + 1 - (i + 1) = n - i:=by omega
  clear hkk hik hold hROW hG hRl hzc
  go_enter Tryz.func77,Tryz.ntmps77
  go_wp2_with (first
    | (at_builtin;refine Lib.wpList_append_run _ rfl _ _ _ _ rfl _ _ rfl rfl _ _ (hrz _) ?_)
    | (at_builtin;refine wpList_copy_runI _ rfl _ _ 82 82 rfl _ _ rfl rfl (hcpA _ hE1 hE2 _ _) ?_)
    | (at_builtin;refine wpList_copy_runI _ rfl _ _ 82 82 rfl _ _ rfl rfl (hcpB _ (fun _=>rfl) (fun _=>rfl) _ _ _) ?_))
  go_region_law_o (refine step_copy_runI rfl _ _ 82 82 rfl (.slice (some ⟨w.heap.size,(i + 1) * 3,none⟩) (n - i) (G - (i + 1))) (.slice (some ⟨b,off + i * 3,none⟩) (n - i) (c - i)) (by simp [Act.eval,Act.put]) (by simp [Act.eval,Act.put]) (hcpB _ hF1 hF2 3 (G - (i + 1)) (c - i)) ?_)
  go_wp2
  go_ret
  exact ⟨rfl,rfl⟩
end Go.Proofs
