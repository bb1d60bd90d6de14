/- slices.Insert of one struct of three cells: the contract. -/
import Derived.Test.YtjojdiefnhbglaaGreatYIn4
import Derived.Test.YtjojdiefnhbglaaGreatOps33
import Derived.Test.YtjojdiefnhbglaaGreatYS5
import Derived.Test.YtjojdiefnhbglaaGreatOps36
set_option linter.all false
namespace Go.Proofs
open Go.Shelf Go.RowKit Go.Lib Go.AL
set_option maxHeartbeats 4000000 in
theorem insert_ac [GlobF Tryz.prog] {h : List AObj} {r r2 i : Nat} {els : List (List AV)} {x : List AV} (hr : h[r]? = some (.row 3 90 els)) (ht : h[r2]? = some (.tail 1 3 90)) (hx : x.length = 3) (hxo : ∀ y,y ∈ x → y.one = true) (ho : ∀ e,e ∈ els → ∀ y,y ∈ e → y.one = true) (hi : i ≤ els.length) (hl : els.length < 1099511627776) :
    AC Tryz.prog 77 [rowA r els.length,.sc (.int .i64 (i : Int)),.sl (some r2) 3 [x]] h (fun v h'=>v = rowA h.length (els.length + 1) ∧ h' = h.set r .dead ++ [.row 3 90 (els.take i ++ x :: els.drop i)]):=by
  refine ⟨enters_of Tryz.func77 rfl rfl,fun B G w vs hR hc=>?_⟩
  obtain ⟨v1,vs1,rfl,c1,hc1⟩:=hc.inv_cons
  obtain ⟨v2,vs2,rfl,c2,hc2⟩:=hc1.inv_cons
  obtain ⟨v3,vs3,rfl,c3,hc3⟩:=hc2.inv_cons
  have:=hc3.inv_nil
  subst this
  have e2:=conc_sc c2
  subst e2
  obtain ⟨g0,gt⟩:=hR.obj r2 _ ht
  have hnew : ∃ (g2 cap2 : Nat) (news : List Value) (arr : Array Value),v3 = .slice (some ⟨g2,0,none⟩) 1 cap2 ∧ news.length = 3 ∧ ConcL G news x ∧ (∀ j u,news[j]? = some u → G.imm g2 j = some u) ∧ w.heap[g2]? = some (.cells arr 90 (0,0)):=by
    cases c3 with
    | @sl b o cap _ _ _ us hk hcap him hcc ht' =>
      have t1:=ht' r2 rfl
      rcases gt with ⟨h0,_⟩ | ⟨g,cap2,arr,k1,k2,k3,_⟩
      · cases h0
      · rw [show ([x] : List (List AV)).length = 1 from rfl] at t1
        rw [t1] at k1
        injection k1 with k1
        injection k1 with k1 k4 k5
        injection k1 with k1
        injection k1 with k6 k7
        subst k6;subst k7;subst k5
        obtain ⟨ns,n1,n2,n3⟩:=sl_flat us hk him hcc
        exact ⟨b,cap,ns,arr,rfl,n1,by simpa using n2,fun j u hu=>by have:=n3 j u hu;rwa [Nat.zero_add] at this,k3⟩
  obtain ⟨g2,cap2,news,arr,rfl,hnl,hnc,hni,hh2⟩:=hnew
  have hone3 : ∀ v ∈ news,v.oneCell' = true:=ConcL.one hnc hxo
  have hnw : ∀ j v,news[j]? = some v → w.cell? ⟨g2,0 + j,none⟩ = some v:=fun j u hu=>by rw [Nat.zero_add];exact hR.imm _ _ _ (hni j u hu)
  obtain ⟨hk3,hrow⟩:=row_inv hR hr rfl c1
  have hfl : ∀ m : List (List AV),(∀ e,e ∈ m → e ∈ els) → m.flatten.length = m.length * 3:=fun m hm=>flat_len fun e he=>hk3 e (hm e he)
  have hk4 : ∀ e,e ∈ els.take i ++ x :: els.drop i → e.length = 3:=fun e he=>by
    rcases List.mem_append.1 he with h|h
    · exact hk3 e (List.mem_of_mem_take h)
    · rcases List.mem_cons.1 h with rfl|h
      · exact hx
      · exact hk3 e (List.mem_of_mem_drop h)
  have hlen : (els.take i ++ x :: els.drop i).length = els.length + 1:=by simp;omega
  have hflat : (els.take i ++ x :: els.drop i).flatten = els.flatten.take (i * 3) ++ x ++ els.flatten.drop (i * 3):=by
    have e1 : els.flatten = (els.take i).flatten ++ (els.drop i).flatten:=by rw [← List.flatten_append,List.take_append_drop]
    have e2 : (els.take i).flatten.length = i * 3:=by rw [hfl _ fun e he=>List.mem_of_mem_take he,List.length_take,Nat.min_eq_left hi]
    rw [e1,← e2,List.take_left,List.drop_left,List.flatten_append,List.flatten_cons]
    simp
  have hz3 : ∀ m,(Builtin.zeroCells txZ.cells m).size = m * 3:=fun m=>by rw [size_zeroCells];rfl
  have fin : ∀ (g cap : Nat) (c : List Value) (w' : World),((ownBlk G r (.row 3 90 els) = some g ∧ B.w.heap.size ≤ g ∧ (∀ j,G.imm g j = none)) ∨ g = w.heap.size) → w'.tape = w.tape → w'.os = w.os → w'.output = w.output → w.drawn ≤ w'.drawn → w.heap.size ≤ w'.heap.size →
      (∀ b,b < w.heap.size → b ≠ g → w'.heap[b]? = w.heap[b]?) → w'.heap[g]? = some (.cells c.toArray 90 (0,0)) → els.length + 1 ≤ cap → cap ≤ maxLen → c.length = cap * 3 → ConcL G (c.take ((els.length + 1) * 3)) (els.flatten.take (i * 3) ++ x ++ els.flatten.drop (i * 3)) →
      ∃ rv G' h' v,Ending.returned (Value.slice (some ⟨g,0,none⟩) (els.length + 1) cap) = Ending.returned rv ∧ G.le G' ∧ RH B G' h' w' ∧ Conc G' rv v ∧ v = rowA h.length (els.length + 1) ∧ h' = h.set r .dead ++ [.row 3 90 (els.take i ++ x :: els.drop i)]:=fun g cap c w' a1 a2 a3 a4 a5 a6 a7 a8 a9 a10 a11 a12=>by
    obtain ⟨G',m1,m2,m3⟩:=hR.moveRow hr (els':=els.take i ++ x :: els.drop i) (cap:=cap) a1 a2 a3 a4 a5 a6 a7 a8 hk4 (by rw [hlen];exact a9) a10 a11 (by rw [hlen,hflat];exact a12)
    rw [hlen] at m3
    exact ⟨_,G',_,_,rfl,m1,m2,m3,rfl,rfl⟩
  have hmid : ∀ (old rest : List Value),old.length = els.length * 3 → ConcL G old els.flatten → ConcL G ((old.take (i * 3) ++ news ++ old.drop (i * 3) ++ rest).take ((els.length + 1) * 3)) (els.flatten.take (i * 3) ++ x ++ els.flatten.drop (i * 3)):=fun old rest h1 h2=>by
    have e1 : (old.take (i * 3) ++ news ++ old.drop (i * 3)).length = (els.length + 1) * 3:=by
      simp only [List.length_append,List.length_take,List.length_drop,h1,hnl];omega
    rw [← e1,List.take_left]
    exact ((h2.take _).append hnc).append (h2.drop _)
  have hend : i = els.length → ∀ (old rest : List Value),old.length = els.length * 3 → ConcL G old els.flatten → ConcL G ((old ++ news ++ rest).take ((els.length + 1) * 3)) (els.flatten.take (i * 3) ++ x ++ els.flatten.drop (i * 3)):=fun e old rest h1 h2=>by
    have:=hmid old rest h1 h2
    have e1 : old.take (i * 3) = old:=List.take_of_length_le (by rw [h1,e];exact Nat.le_refl _)
    have e2 : old.drop (i * 3) = []:=List.drop_of_length_le (by rw [h1,e];exact Nat.le_refl _)
    rw [e1,e2,List.append_nil] at this
    exact this
  have hbig : (els.length + 1) * 24 ≤ 140737488355328:=by omega
  have hgc:=fun c=>grownCap_ge w (els.length + 1) c 90
  have hgm:=fun c=>grownCap_le_maxLen w (els.length + 1) c 90 (by unfold maxLen;omega)
  have hzl : ∀ m,∃ zs : List Value,Builtin.zeroCells txZ.cells m = zs.toArray ∧ zs.length = m * 3:=fun m=>⟨(Builtin.zeroCells txZ.cells m).toList,by simp,by rw [Array.length_toList,hz3]⟩
  rcases hrow with ⟨rfl,rfl⟩ | ⟨g,cap,cur,rfl,q2,q3,q4,q5,q6,q7,q8,q9⟩
  · -- nil
    have hi0 : i = 0:=by simpa using hi
    subst hi0
    have hcall:=Tryz.insert_end_grow none 0 0 g2 0 cap2 [] news w (Nat.le_refl _) (by omega) (by omega) rfl hnl (fun _=>rfl) (fun a e=>by cases e) hnw hone3
    refine hcall.mono ?_
    rintro e w' ⟨rfl,rfl⟩
    obtain ⟨zs,z1,z2⟩:=hzl (grownCap w (0 + 1) 0 90 - (0 + 1))
    rw [z1]
    have h1:=hgc 0
    have h2:=hgm 0
    simp only [List.length_nil] at h1 h2 fin
    refine fin w.heap.size (grownCap w (0 + 1) 0 90) (([] ++ news) ++ zs) _ (.inr rfl) rfl rfl rfl (Nat.le_succ _) (by simp) (fun b hb _=>Go.heap_alloc_old w.drew _ hb) ?_ h1 h2 (by simp only [List.length_append,List.length_nil,hnl,z2];omega) (hend rfl [] zs rfl (.nil _))
    have:=Go.heap_alloc_new w.drew (.cells (([] ++ news) ++ zs).toArray 90)
    simpa using this
  · have hcl : els.length * 3 ≤ cur.length:=by rw [q6];exact Nat.mul_le_mul_right _ q4
    have hold : (cur.take (els.length * 3)).length = els.length * 3:=by rw [List.length_take,Nat.min_eq_left hcl]
    have hgs : g < w.heap.size:=(Array.getElem?_eq_some_iff.1 q3).1
    have hne : g2 ≠ g:=fun e=>by
      subst e
      have:=hni 0 _ (List.getElem?_eq_getElem (by omega))
      rw [q8] at this;cases this
    have hcell : ∀ j v,cur[j]? = some v → w.cell? ⟨g,j,none⟩ = some v:=fun j v hj=>by simp [World.cell?,q3,hj]
    have hcs : ∀ j v,(cur.take (els.length * 3))[j]? = some v → w.cell? ⟨g,0 + j,none⟩ = some v:=fun j v hj=>by
      rw [Nat.zero_add]
      rw [List.getElem?_take] at hj
      split at hj
      · exact hcell j v hj
      · cases hj
    have hsp : ∀ j,j < cap * 3 → (w.cell? ⟨g,0 + j,none⟩).isSome = true:=fun j hj=>by rw [Nat.zero_add,hcell j _ (List.getElem?_eq_getElem (by omega))];rfl
    have hfz : ∀ j,w.frozen? ⟨g,j,none⟩ = false:=fun j=>by simp [World.frozen?,q3]
    have hone1 : ∀ v ∈ cur.take (els.length * 3),v.oneCell' = true:=ConcL.one q7 fun y hy=>by
      obtain ⟨e,he,hy⟩:=List.mem_flatten.1 hy
      exact ho e he y hy
    have hown : ownBlk G r (.row 3 90 els) = some g:=by
      have:=rowA_inv c1
      simp only [ownBlk,this.1,slBlock]
    have hcm : cap ≤ 9223372036854775807:=by unfold maxLen at q5;exact q5
    by_cases hroom : els.length + 1 ≤ cap
    · have hr3 : (els.length + 1) * 3 ≤ cur.length:=by rw [q6];exact Nat.mul_le_mul_right _ hroom
      by_cases hin : i = els.length
      · have hcall:=Tryz.insert_end_room g 0 els.length cap g2 0 cap2 news w hroom hcm hnl (fun j hj=>by rw [Nat.add_assoc];exact hsp _ (by omega)) (fun j _=>hfz _) hnw hone3
        subst hin
        refine hcall.mono ?_
        rintro e w' ⟨rfl,rfl⟩
        obtain ⟨b1,b2,b3,b4,b5,b6,b7⟩:=setCells_all g news (0 + els.length * 3) w cur 90 (0,0) q3 (by omega)
        refine fin g cap _ _ (.inl ⟨hown,q2,q8⟩) b1 b2 b3 (by rw [b4];exact Nat.le_refl _) (by rw [b5];exact Nat.le_refl _) (fun b _ hb=>b6 b hb) b7 hroom q5 ?_ ?_
        · simp only [List.length_append,List.length_take,List.length_drop,hnl];omega
        · rw [Nat.zero_add];exact hend rfl _ _ hold q7
      · have hcall:=Tryz.insert_shift g 0 els.length cap i g2 0 cap2 (cur.take (els.length * 3)) news w (by omega) hroom hcm hne (by rw [hold,Nat.mul_comm]) hnl hcs (fun j hj=>hsp j (by omega)) (fun j _=>hfz _) hnw hone1 hone3 90 90 arr.size cur.length (by simp [World.shape?,hh2]) (by simp [World.shape?,q3]) (by omega) (by simp [World.frozen?,hh2]) (by simp [World.frozen?,hh2])
        refine hcall.mono ?_
        rintro e w' ⟨rfl,rfl⟩
        obtain ⟨b1,b2,b3,b4,b5,b6,b7⟩:=setCells_all g ((cur.take (els.length * 3)).drop (3 * i)) (0 + 3 * (i + 1)) w.drew cur 90 (0,0) q3 (by rw [List.length_drop,hold];omega)
        obtain ⟨d1,d2,d3,d4,d5,d6,d7⟩:=setCells_all g news (0 + 3 * i) _ _ 90 (0,0) b7 (by simp only [List.length_append,List.length_take,List.length_drop,hnl];omega)
        refine fin g cap _ _ (.inl ⟨hown,q2,q8⟩) (d1.trans b1) (d2.trans b2) (d3.trans b3) (by rw [d4,b4];exact Nat.le_succ _) (by rw [d5,b5];exact Nat.le_refl _) (fun b _ hb=>(d6 b hb).trans (b6 b hb)) d7 hroom q5 ?_ ?_
        · simp only [List.length_append,List.length_take,List.length_drop,hnl];omega
        · have t0 : (cur.take (0 + 3 * (i + 1))).length = 3 * (i + 1):=by rw [List.length_take];omega
          have t1 : (cur.take (0 + 3 * (i + 1)) ++ (cur.take (els.length * 3)).drop (3 * i) ++ cur.drop (0 + 3 * (i + 1) + ((cur.take (els.length * 3)).drop (3 * i)).length)).take (0 + 3 * i) = (cur.take (els.length * 3)).take (i * 3):=by
            rw [List.append_assoc,List.take_append_of_le_length (by omega),List.take_take,List.take_take]
            congr 1;omega
          have t2 : (cur.take (0 + 3 * (i + 1)) ++ (cur.take (els.length * 3)).drop (3 * i) ++ cur.drop (0 + 3 * (i + 1) + ((cur.take (els.length * 3)).drop (3 * i)).length)).drop (0 + 3 * i + news.length) = (cur.take (els.length * 3)).drop (i * 3) ++ cur.drop (0 + 3 * (i + 1) + ((cur.take (els.length * 3)).drop (3 * i)).length):=by
            rw [List.append_assoc,show 0 + 3 * i + news.length = (cur.take (0 + 3 * (i + 1))).length by omega,List.drop_left,Nat.mul_comm 3 i]
          rw [t1,t2,← List.append_assoc]
          exact hmid _ _ hold q7
    · by_cases hin : i = els.length
      · have hcall:=Tryz.insert_end_grow (some ⟨g,0,none⟩) els.length cap g2 0 cap2 (cur.take (els.length * 3)) news w q4 (by omega) hbig hold hnl (fun e=>by cases e) (fun a e j v hj=>by cases e;rw [Addr.add_lit];exact hcs j v hj) hnw hone3
        subst hin
        refine hcall.mono ?_
        rintro e w' ⟨rfl,rfl⟩
        obtain ⟨zs,z1,z2⟩:=hzl (grownCap w (els.length + 1) cap 90 - (els.length + 1))
        rw [z1]
        have h1:=hgc cap
        have h2:=hgm cap
        refine fin w.heap.size (grownCap w (els.length + 1) cap 90) ((cur.take (els.length * 3) ++ news) ++ zs) _ (.inr rfl) rfl rfl rfl (Nat.le_succ _) (by simp) (fun b hb _=>Go.heap_alloc_old w.drew _ hb) ?_ h1 h2 (by simp only [List.length_append,hold,hnl,z2];omega) (hend rfl _ zs hold q7)
        have:=Go.heap_alloc_new w.drew (.cells ((cur.take (els.length * 3) ++ news) ++ zs).toArray 90)
        simpa using this
      · have hcall:=Tryz.insert_grow g 0 els.length cap i g2 0 cap2 (cur.take (els.length * 3)) news w (by omega) q4 (by omega) hbig hold hnl hcs hnw hone1 hone3
        refine hcall.mono ?_
        rintro e w' ⟨rfl,rfl⟩
        obtain ⟨zs,z1,z2⟩:=hzl (grownCap w (els.length + 1) cap 90 - (els.length + 1))
        obtain ⟨ys,y1,y2⟩:=hzl (els.length + 1 - i)
        rw [z1,y1]
        have h1:=hgc cap
        have h2:=hgm cap
        generalize grownCap w (els.length + 1) cap 90 = G3 at *
        have hX : (w.alloc (.cells (((cur.take (els.length * 3)).take (i * 3)).toArray ++ ys.toArray ++ zs.toArray) 90)).drew.heap[w.heap.size]? = some (.cells ((cur.take (els.length * 3)).take (i * 3) ++ ys ++ zs).toArray 90 (0,0)):=by
          have e : (((cur.take (els.length * 3)).take (i * 3)).toArray ++ ys.toArray ++ zs.toArray) = ((cur.take (els.length * 3)).take (i * 3) ++ ys ++ zs).toArray:=by simp
          rw [e]
          exact Go.heap_alloc_new w (.cells ((cur.take (els.length * 3)).take (i * 3) ++ ys ++ zs).toArray 90)
        have l0 : ((cur.take (els.length * 3)).take (i * 3)).length = i * 3:=by rw [List.length_take,hold];omega
        obtain ⟨b1,b2,b3,b4,b5,b6,b7⟩:=setCells_all w.heap.size news (i * 3) _ _ 90 (0,0) hX (by simp only [List.length_append,l0,y2,z2,hnl];omega)
        obtain ⟨d1,d2,d3,d4,d5,d6,d7⟩:=setCells_all w.heap.size ((cur.take (els.length * 3)).drop (i * 3)) ((i + 1) * 3) (World.drew _) _ 90 (0,0) b7 (by simp only [List.length_append,List.length_take,List.length_drop,hnl,y2,z2];omega)
        refine fin w.heap.size G3 _ _ (.inr rfl) (d1.trans b1) (d2.trans b2) (d3.trans b3) (by rw [d4];show w.drawn ≤ (World.setCells _ _ _ _).drawn + 1;rw [b4];exact Nat.le_trans (Nat.le_succ _) (Nat.le_succ _)) (by rw [d5];show w.heap.size ≤ (World.setCells _ _ _ _).heap.size;rw [b5];simp) (fun b hb hbn=>(d6 b hbn).trans ((b6 b hbn).trans (Go.heap_alloc_old w _ hb))) d7 h1 h2 ?_ ?_
        · simp only [List.length_append,List.length_take,List.length_drop,hnl,y2,z2];omega
        · have A0 : ((cur.take (els.length * 3)).take (i * 3) ++ ys ++ zs).take (i * 3) = (cur.take (els.length * 3)).take (i * 3):=by rw [List.append_assoc,List.take_append_of_le_length (by omega),List.take_of_length_le (by omega)]
          rw [A0]
          have A1 : ((cur.take (els.length * 3)).take (i * 3) ++ news).length = (i + 1) * 3:=by rw [List.length_append,l0,hnl];omega
          rw [show ((cur.take (els.length * 3)).take (i * 3) ++ news ++ ((cur.take (els.length * 3)).take (i * 3) ++ ys ++ zs).drop (i * 3 + news.length)).take ((i + 1) * 3) = (cur.take (els.length * 3)).take (i * 3) ++ news by rw [← A1];exact List.take_left]
          exact hmid _ _ hold q7
end Go.Proofs

namespace Go.Proofs
open Go.AL Go.Sort
attribute [local irreducible] Go.AL.W Go.AL.WL Go.AL.WD Go.AL.POp Go.AL.PPOp Go.AL.POpS Go.AL.PC Go.AL.AC Go.AL.YW Go.AL.Ret Go.AL.Le Go.AL.thn Go.AL.inBlk Go.AL.scp
structure Txn where
  t : Int
  ad : Int
  cu : Int
abbrev txC (p : Txn) : List AV:=[.sc (.int .i64 p.t),.sc (.int .i64 p.ad),.sc (.int .i64 p.cu)]
theorem txs1_pc [GlobF Tryz.prog] (a : Txn) (t : Int) : PC Tryz.prog 76 [.ag (txC a),.sc (.int .i64 t)] (.sc (.int .i64 (cmpI a.t t))):=by
  refine PC.of_body Tryz.func76 Tryz.ntmps76 rfl rfl rfl ?_
  repeat' first
 | (apply p1 (hd:=rfl);case hop=>first|(apply D_move;rfl)|(apply D_assign;rfl)|(apply D_pc (cmpInt64_pc a.t t);rfl;exact .same rfl (.same rfl .nil))|(apply D_load1;rfl)|(apply D_fld;rfl)|(apply D_box;rfl;rfl))
 | refine W_seq ?_
 | refine W_region ?_
 | refine WL_nil ?_
 | refine tn ?_
 | refine W_ret ?_
 | (refine idR ?_;refine ret1 rfl rfl rfl ?_)
 | (refine Le.int ?_)
  all_goals first|rfl|skip
set_option maxHeartbeats 16000000 in
theorem searchT_pc [GlobF Tryz.prog] (l : List Txn) (t : Int) (hl : l.length < 1759218604500) (hr : (l.map Txn.t).Pairwise (fun a b=>a < b)) :
    ∃ lo : Nat,lo ≤ l.length ∧ (∀ (j : Nat) (h : j < l.length),j < lo → l[j].t < t) ∧ (∀ (j : Nat) (h : j < l.length),lo ≤ j → ¬ l[j].t < t) ∧
      PC Tryz.prog 75 [.sl none 3 (l.map txC),.sc (.int .i64 t),.sc (.func (.func 76) #[] #[])] (.tu [.sc (.int .i64 (lo : Int)),.sc (.bool (dP (∃ h : lo < l.length,l[lo].t = t)))]):=by
  obtain ⟨L,hL1,hL2,hL3⟩ : ∃ lo : Nat,lo ≤ l.length ∧ (∀ (j : Nat) (h : j < l.length),j < lo → l[j].t < t) ∧ (∀ (j : Nat) (h : j < l.length),lo ≤ j → ¬ l[j].t < t):=by
    have hp:=List.pairwise_iff_getElem.1 hr
    obtain ⟨n,hn,hmin⟩:=least (fun n=>n = l.length ∨ ∃ h : n < l.length,¬ l[n].t < t) ⟨l.length,.inl rfl⟩
    have hnl : n ≤ l.length:=hmin _ (.inl rfl)
    refine ⟨n,hnl,fun j hj hjn=>Classical.byContradiction fun h=>absurd (hmin j (.inr ⟨hj,h⟩)) (by omega),fun j hj hjn h=>?_⟩
    rcases hn with e | ⟨hn,h2⟩
    · omega
    · rcases Nat.eq_or_lt_of_le hjn with e|e
      · subst e;exact h2 h
      · have:=hp n j (by simpa using hn) (by simpa using hj) e
        simp only [List.getElem_map] at this
        omega
  refine ⟨L,hL1,hL2,hL3,?_⟩
  refine PC.of_body Tryz.func75 Tryz.ntmps75 rfl rfl rfl ?_
  repeat' first
 | (apply p1 (hd:=rfl);case hop=>first|(apply D_move;rfl)|(apply D_assign;rfl)|(apply D_lenM;rfl))
 | refine W_seq ?_
 | refine W_region ?_
 | refine WL_nil ?_
 | refine tn ?_
 | (refine W_block ?_)
  refine W_loopL (X:=Nat × Nat) (fun x=>[(0,.sl none 3 (l.map txC)),(1,.sc (.int .i64 t)),(2,.sc (.func (.func 76) #[] #[])),(8,.sc (.int .i64 (l.length : Int))),(9,.sc (.int .i64 (x.1 : Int))),(10,.sc (.int .i64 (x.2 : Int)))]) (fun _=>[])
    (fun x=>x.1 ≤ L ∧ L ≤ x.2 ∧ x.2 ≤ l.length) (fun x=>x.2 - x.1) (0,l.length) ⟨Nat.zero_le _,hL1,Nat.le_refl _⟩ ⟨rfl,rfl,rfl,rfl,rfl,rfl,trivial⟩ rfl ?_
  rintro ⟨lo,hi⟩ ⟨h1,h2,h3⟩
  simp only at h1 h2 h3 ⊢
  by_cases hlt : lo < hi
  · have hm : (lo + hi) / 2 < l.length:=by omega
    have f1 : Value.int .i64 (IntKind.i64.wrap ((lo : Int) + (hi : Int))) = .int .i64 ((lo + hi : Nat) : Int):=by rw [w64 _ (by omega) (by omega)];rfl
    have f2 : Value.int .u64 (IntKind.u64.wrap ((lo + hi : Nat) : Int)) = .int .u64 ((lo + hi : Nat) : Int):=by rw [u64w _ (by omega)]
    have f3 : Value.int .u64 (((lo + hi : Nat) : Int).fdiv (2 ^ (min (1 : Int).toNat IntKind.u64.bits))) = .int .u64 (((lo + hi) / 2 : Nat) : Int):=by
      have : (2 : Int) ^ (min (1 : Int).toNat IntKind.u64.bits) = 2:=by decide
      rw [this,Int.fdiv_eq_ediv_of_nonneg _ (by omega)];rfl
    have f4 : Value.int .i64 (IntKind.i64.wrap (((lo + hi) / 2 : Nat) : Int)) = .int .i64 (((lo + hi) / 2 : Nat) : Int):=by rw [w64 _ (by omega) (by omega)]
    have hc:=txs1_pc (l[(lo + hi) / 2]'hm) t
    have hA:=hL2 ((lo + hi) / 2) hm
    have hB:=hL3 ((lo + hi) / 2) hm
    have hci:=ltI (x:=(l[(lo + hi) / 2]'hm).t) (y:=t)
    generalize hmd : (lo + hi) / 2 = m at *
    repeat' first
 | (apply p1 (hd:=rfl);case hop=>first|(apply D_move;rfl)|(apply D_assign;rfl)|exact D_sc (D_int rfl rfl rfl) f1|exact D_sc (D_conv_int rfl) f2|exact D_sc (D_shr rfl rfl (by decide)) f3|exact D_sc (D_conv_int rfl) f4|(apply D_pc hc;rfl;exact .same rfl (.same rfl .nil))|(apply D_pickF;rfl;rfl)|(apply D_int;rfl;rfl;rfl)|(apply D_loadW;rfl;rfl)|(apply D_idxAn;rfl;rfl;(first|omega|(simp;done))))
 | refine W_seq ?_
 | refine W_region ?_
 | (refine idC ?_;refine cs rfl (fun _=>?_) (fun _=>?_))
 | refine WL_nil ?_
 | (refine idG ?_;first|refine g0t rfl rfl rfl ?_|refine gr rfl rfl ?_|refine gs rfl rfl (fun _=>?_) (fun _=>?_))
 | refine tn ?_
 | refine bn ?_
 | refine te ?_
 | (refine idB ?_;refine bh rfl ?_)
 | refine W_skip ?_
 | refine W_block ?_
 | refine W_exit ?_
 | refine W_ret ?_
 | (refine idR ?_;refine ret2 rfl rfl rfl rfl ?_ ?_)
 | refine Le.bool ?_
 | (refine Le.int ?_)
    all_goals first
      | (exfalso;omega)
      | exact ⟨rfl,(m + 1,hi),⟨by simp only [];omega,h2,h3⟩,by simp only [];omega,⟨rfl,rfl,rfl,rfl,ieq (wsucc m (by omega)),rfl,trivial⟩,rfl⟩
      | exact ⟨rfl,(lo,m),⟨h1,by simp only [];omega,by simp only [];omega⟩,by simp only [];omega,⟨rfl,rfl,rfl,rfl,rfl,rfl,trivial⟩,rfl⟩
      | skip
  · have e1 : lo = L:=by omega
    subst e1
    by_cases hln : lo < l.length
    · have hc:=txs1_pc (l[lo]'hln) t
      have hz : cmpI (l[lo]'hln).t t = 0 ↔ (l[lo]'hln).t = t:=⟨zzI _ _,fun e=>by rw [e];exact wcI.refl t⟩
      repeat' first
 | (apply p1 (hd:=rfl);case hop=>first|(apply D_move;rfl)|(apply D_assign;rfl)|(apply D_pc hc;rfl;exact .same rfl (.same rfl .nil))|(apply D_pickT;rfl;rfl)|(apply D_pickF;rfl;rfl)|(apply D_int;rfl;rfl;rfl)|(apply D_loadW;rfl;rfl)|(apply D_conv_int;rfl)|(apply D_idxAn;rfl;rfl;(first|omega|(simp;done)))|(apply D_idxA;rfl;rfl;omega;(first|omega|(simp;done)|(simp;omega)))|(apply D_shr;rfl;rfl;first|omega|((repeat rw [w64 _ (by omega) (by omega)]);omega)|decide))
 | refine W_seq ?_
 | refine W_region ?_
 | (refine idC ?_;refine cs rfl (fun _=>?_) (fun _=>?_))
 | refine WL_nil ?_
 | (refine idG ?_;first|refine g0t rfl rfl rfl ?_|refine gr rfl rfl ?_|refine gs rfl rfl (fun _=>?_) (fun _=>?_))
 | refine tn ?_
 | refine te ?_
 | (refine idB ?_;refine bh rfl ?_)
 | refine W_skip ?_
 | refine W_block ?_
 | refine W_exit ?_
 | refine W_ret ?_
 | (refine idR ?_;refine ret2 rfl rfl rfl rfl ?_ ?_)
 | refine Le.bool ?_
 | (refine Le.int ?_)
      all_goals first
        | (exfalso;omega)
        | (refine dP_eq ?_;rw [iEq_t,hz];exact ⟨fun e=>⟨hln,e⟩,fun ⟨_,e⟩=>e⟩)
        | rfl
        | skip
    · repeat' first
 | (apply p1 (hd:=rfl);case hop=>first|(apply D_move;rfl)|(apply D_assign;rfl)|(apply D_pickF;rfl;rfl)|(apply D_int;rfl;rfl;rfl)|(apply D_loadW;rfl;rfl)|(apply D_conv_int;rfl)|(apply D_idxAn;rfl;rfl;(first|omega|(simp;done)))|(apply D_idxA;rfl;rfl;omega;(first|omega|(simp;done)|(simp;omega)))|(apply D_shr;rfl;rfl;first|omega|((repeat rw [w64 _ (by omega) (by omega)]);omega)|decide))
 | refine W_seq ?_
 | refine W_region ?_
 | (refine idC ?_;refine cs rfl (fun _=>?_) (fun _=>?_))
 | refine WL_nil ?_
 | (refine idG ?_;first|refine g0t rfl rfl rfl ?_|refine gr rfl rfl ?_|refine gs rfl rfl (fun _=>?_) (fun _=>?_))
 | refine tn ?_
 | refine te ?_
 | (refine idB ?_;refine bh rfl ?_)
 | refine W_skip ?_
 | refine W_block ?_
 | refine W_exit ?_
 | refine W_ret ?_
 | (refine idR ?_;refine ret2 rfl rfl rfl rfl ?_ ?_)
 | refine Le.bool ?_
 | (refine Le.int ?_)
      all_goals first
        | (exfalso;omega)
        | exact dP_F fun ⟨h,_⟩=>hln h
        | rfl
        | skip
end Go.Proofs

namespace Go.Proofs
open Go.AL Go.Sort
attribute [local irreducible] Go.AL.W Go.AL.WL Go.AL.WD Go.AL.POp Go.AL.PPOp Go.AL.POpS Go.AL.PC Go.AL.AC Go.AL.YW Go.AL.Ret Go.AL.Le Go.AL.thn Go.AL.inBlk Go.AL.scp
def bumpT (add : Bool) (p : Txn) : Txn:=if add then ⟨p.t,p.ad + 1,p.cu⟩ else ⟨p.t,p.ad,p.cu + 1⟩
theorem bumpT_t (add : Bool) (p : Txn) : (bumpT add p).t = p.t:=by unfold bumpT;split <;> rfl
def putX : List Txn → Dat → List Txn
  | [],d=>[bumpT d.add ⟨d.t,0,0⟩]
  | p :: l,d=>if p.t < d.t then p :: putX l d else if p.t = d.t then bumpT d.add p :: l else bumpT d.add ⟨d.t,0,0⟩ :: p :: l
theorem putX_found : ∀ (l : List Txn) (d : Dat) (lo : Nat) (h : lo < l.length),(∀ (j : Nat) (h : j < l.length),j < lo → l[j].t < d.t) → l[lo].t = d.t → putX l d = l.set lo (bumpT d.add l[lo])
  | [],d,lo,h,_,_=>by simp at h
  | p :: l,d,0,h,_,he=>by
    simp only [List.getElem_cons_zero] at he
    simp only [putX,List.set_cons_zero,List.getElem_cons_zero]
    rw [if_neg (by omega),if_pos he]
  | p :: l,d,lo + 1,h,hj,he=>by
    have h0:=hj 0 (by simp) (by omega)
    simp only [List.getElem_cons_zero] at h0
    simp only [putX,List.set_cons_succ,List.getElem_cons_succ]
    rw [if_pos h0,putX_found l d lo (by simpa using h) (fun j hjl hjlo=>by have:=hj (j + 1) (by simpa using hjl) (by omega);simpa using this) (by simpa using he)]
theorem putX_new : ∀ (l : List Txn) (d : Dat) (lo : Nat),lo ≤ l.length → (∀ (j : Nat) (h : j < l.length),j < lo → l[j].t < d.t) → (∀ (h : lo < l.length),d.t < l[lo].t) → putX l d = l.take lo ++ bumpT d.add ⟨d.t,0,0⟩ :: l.drop lo
  | [],d,lo,h,_,_=>by
    have : lo = 0:=by simpa using h
    subst this;rfl
  | p :: l,d,0,h,_,he=>by
    have:=he (by simp)
    simp only [List.getElem_cons_zero] at this
    simp only [putX,List.take_zero,List.drop_zero,List.nil_append]
    rw [if_neg (by omega),if_neg (by omega)]
  | p :: l,d,lo + 1,h,hj,he=>by
    have h0:=hj 0 (by simp) (by omega)
    simp only [List.getElem_cons_zero] at h0
    simp only [putX,List.take_succ_cons,List.drop_succ_cons,List.cons_append]
    rw [if_pos h0,putX_new l d lo (by simpa using h) (fun j hjl hjlo=>by have:=hj (j + 1) (by simpa using hjl) (by omega);simpa using this) (fun hlo=>by have:=he (by simpa using hlo);simpa using this)]
theorem putX_len (l : List Txn) (d : Dat) : (putX l d).length ≤ l.length + 1:=by
  induction l with
  | nil=>simp [putX]
  | cons p l ih=>simp only [putX];split <;> (try split) <;> simp <;> omega
theorem putX_mem {l : List Txn} {d : Dat} {p : Txn} (h : p ∈ putX l d) : p.t = d.t ∨ ∃ q,q ∈ l ∧ p.t = q.t:=by
  induction l with
  | nil=>simp only [putX,List.mem_singleton] at h;subst h;exact .inl (bumpT_t _ _)
  | cons q l ih =>
    simp only [putX] at h
    split at h
    · rcases List.mem_cons.1 h with rfl|h
      · exact .inr ⟨_,.head _,rfl⟩
      · rcases ih h with h | ⟨x,hx,e⟩
        · exact .inl h
        · exact .inr ⟨x,.tail _ hx,e⟩
    · split at h
      · rcases List.mem_cons.1 h with rfl|h
        · exact .inr ⟨q,.head _,bumpT_t _ _⟩
        · exact .inr ⟨p,.tail _ h,rfl⟩
      · rcases List.mem_cons.1 h with rfl|h
        · exact .inl (bumpT_t _ _)
        · exact .inr ⟨p,h,rfl⟩
theorem putX_rise {l : List Txn} {d : Dat} (h : (l.map Txn.t).Pairwise (fun a b=>a < b)) : ((putX l d).map Txn.t).Pairwise (fun a b=>a < b):=by
  induction l with
  | nil=>simp [putX]
  | cons q l ih =>
    rw [List.map_cons] at h
    obtain ⟨h1,h2⟩:=List.pairwise_cons.1 h
    simp only [putX]
    split
    · next hlt =>
      rw [List.map_cons]
      refine List.pairwise_cons.2 ⟨fun x hx=>?_,ih h2⟩
      obtain ⟨p,hp,rfl⟩:=List.mem_map.1 hx
      rcases putX_mem hp with e | ⟨y,hy,e⟩
      · omega
      · have:=h1 y.t (List.mem_map.2 ⟨y,hy,rfl⟩);omega
    · split
      · rw [List.map_cons,bumpT_t];exact List.pairwise_cons.2 ⟨h1,h2⟩
      · rw [List.map_cons,List.map_cons,bumpT_t]
        refine List.pairwise_cons.2 ⟨fun x hx=>?_,List.pairwise_cons.2 ⟨h1,h2⟩⟩
        show d.t < x
        rcases List.mem_cons.1 hx with rfl|hx
        · omega
        · have:=h1 x hx;omega
def txsL (l : List Dat) : List Txn:=l.foldl putX []
theorem txsL_take (l : List Dat) (i : Nat) (h : i < l.length) : txsL (l.take (i + 1)) = putX (txsL (l.take i)) l[i]:=by
  unfold txsL;rw [List.take_succ_eq_append_getElem h,List.foldl_append];rfl
theorem txsL_ok : ∀ (n : Nat) (l : List Dat),l.length = n → (txsL l).length ≤ n ∧ ((txsL l).map Txn.t).Pairwise (fun a b=>a < b)
  | 0,l,h=>by
    have:=List.eq_nil_of_length_eq_zero h
    subst this;exact ⟨Nat.le_refl _,.nil⟩
  | n + 1,l,h=>by
    rcases snocG l with rfl | ⟨m,d,rfl⟩
    · simp at h
    obtain ⟨i1,i2⟩:=txsL_ok n m (by simpa using h)
    have e : txsL (m ++ [d]) = putX (txsL m) d:=by unfold txsL;rw [List.foldl_append];rfl
    rw [e]
    exact ⟨Nat.le_trans (putX_len _ _) (by omega),putX_rise i2⟩
theorem putX_cases {l : List Txn} {d : Dat} {p : Txn} (h : p ∈ putX l d) : p ∈ l ∨ (∃ q,q ∈ l ∧ p = bumpT d.add q) ∨ p = bumpT d.add ⟨d.t,0,0⟩:=by
  induction l with
  | nil=>simp only [putX,List.mem_singleton] at h;exact .inr (.inr h)
  | cons q l ih =>
    simp only [putX] at h
    split at h
    · rcases List.mem_cons.1 h with rfl|h
      · exact .inl (.head _)
      · rcases ih h with h | ⟨x,hx,e⟩|h
        · exact .inl (.tail _ h)
        · exact .inr (.inl ⟨x,.tail _ hx,e⟩)
        · exact .inr (.inr h)
    · split at h
      · rcases List.mem_cons.1 h with rfl|h
        · exact .inr (.inl ⟨q,.head _,rfl⟩)
        · exact .inl (.tail _ h)
      · rcases List.mem_cons.1 h with rfl|h
        · exact .inr (.inr rfl)
        · exact .inl h
theorem txsL_snoc (l : List Dat) (d : Dat) : txsL (l ++ [d]) = putX (txsL l) d:=by unfold txsL;rw [List.foldl_append];rfl
def bndT (n : Nat) (p : Txn) : Prop:=0 ≤ p.ad ∧ 0 ≤ p.cu ∧ p.ad + p.cu ≤ n
theorem bump_bnd {n : Nat} {p : Txn} (b : Bool) (h : bndT n p) : bndT (n + 1) (bumpT b p):=by
  obtain ⟨h1,h2,h3⟩:=h
  unfold bumpT bndT
  cases b <;> simp <;> omega
theorem txsL_bnd : ∀ (n : Nat) (l : List Dat),l.length = n → ∀ p,p ∈ txsL l → bndT n p
  | 0,l,h,p,hp=>by
    have:=List.eq_nil_of_length_eq_zero h
    subst this;cases hp
  | n + 1,l,h,p,hp=>by
    rcases snocG l with rfl | ⟨m,d,rfl⟩
    · simp at h
    have ih:=txsL_bnd n m (by simpa using h)
    rw [txsL_snoc] at hp
    rcases putX_cases hp with h | ⟨q,hq,rfl⟩|rfl
    · obtain ⟨a,b,c⟩:=ih p h;exact ⟨a,b,by omega⟩
    · exact bump_bnd _ (ih q hq)
    · exact bump_bnd _ ⟨Int.le_refl _,Int.le_refl _,by simp⟩
end Go.Proofs
