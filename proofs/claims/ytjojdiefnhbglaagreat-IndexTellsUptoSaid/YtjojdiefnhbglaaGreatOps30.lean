/- Rules of the abstract logic: immutable pointers held against nil. No condition. -/
import Derived.Test.YtjojdiefnhbglaaGreatOps17
import Derived.Test.YtjojdiefnhbglaaGreatOps5
import Derived.Lib.BytesEntry
import Derived.Test.YtjojdiefnhbglaaGreatYC1
set_option linter.all false
namespace Go.AL
section
variable {P : Program} [GlobF P] {ty : TypeId} {pos : String} {af : Array Edge} {dst : Option Nat} {gd : Option (Nat × Bool)} {ρ : Operand → Option AV}
theorem run_neq_ptr_nil {P0 : Program} {t te : TypeId} (hu : P0.underlying t = some (.pointer te)) (a : Option Addr) (w : World) : (binOp .neq t (.pointer a) (.pointer none)).run P0 w = .ok (.bool (!a.isNone)) w:=by
  have h : ∀ d : Nat,(Op.equalIn (d + 1) t (.pointer a) (.pointer none)).run P0 w = .ok a.isNone w:=fun d=>by
    cases a <;> simp [Op.equalIn,run_underlying hu]
  simp only [binOp]
  simp [Op.equal,Op.maxDepth,h 9999]
theorem D_pnN {t te t' : TypeId} {x y : Operand} [hu : Und P t (.pointer te)] (hx : ρ x = some (.sc (.pointer none))) (hy : ρ y = some (.sc (.pointer none))) :
    PPOp P { dst:=dst,op:=.binOp .neq t x y t',type:=ty,pos:=pos,after:=af,guard:=gd } ρ (.sc (.bool false)) :=
  PPOp.val (by simp) (fun B G act w hR E=>⟨.bool false,exec_bin _ (by
    rw [conc_sc (E _ (by first|exact List.Mem.head _|exact List.Mem.tail _ (List.Mem.head _)) _ hx),conc_sc (E _ (by first|exact List.Mem.tail _ (List.Mem.head _)|exact List.Mem.head _) _ hy),Sem.run_bind,show (eqGuard .neq t x y (.pointer none) (.pointer none)).run P w = .ok () w from rfl]
    exact run_neq_ptr_nil hu.h none w),.sc _⟩)
theorem D_peE {t te t' : TypeId} {x y : Operand} {cs : List AV} [hu : Und P t (.pointer te)] (hx : ρ x = some (.ep cs)) (hy : ρ y = some (.sc (.pointer none))) :
    PPOp P { dst:=dst,op:=.binOp .eql t x y t',type:=ty,pos:=pos,after:=af,guard:=gd } ρ (.sc (.bool false)) :=
  PPOp.val (by simp) (fun B G act w hR E=>by
    have ex:=E _ (by first|exact List.Mem.head _|exact List.Mem.tail _ (List.Mem.head _)) _ hx
    have ey:=conc_sc (E _ (by first|exact List.Mem.tail _ (List.Mem.head _)|exact List.Mem.head _) _ hy)
    generalize hv : act.eval x = v at ex
    cases ex with
    | @ep b o _ us him hc =>
      exact ⟨.bool false,exec_bin _ (by
        rw [hv,ey,Sem.run_bind,show (eqGuard .eql t x y (.pointer (some ⟨b,o,none⟩)) (.pointer none)).run P w = .ok () w from rfl]
        exact run_eql_ptr_nil hu.h (some ⟨b,o,none⟩) w),.sc _⟩)
theorem D_pnE {t te t' : TypeId} {x y : Operand} {cs : List AV} [hu : Und P t (.pointer te)] (hx : ρ x = some (.ep cs)) (hy : ρ y = some (.sc (.pointer none))) :
    PPOp P { dst:=dst,op:=.binOp .neq t x y t',type:=ty,pos:=pos,after:=af,guard:=gd } ρ (.sc (.bool true)) :=
  PPOp.val (by simp) (fun B G act w hR E=>by
    have ex:=E _ (by first|exact List.Mem.head _|exact List.Mem.tail _ (List.Mem.head _)) _ hx
    have ey:=conc_sc (E _ (by first|exact List.Mem.tail _ (List.Mem.head _)|exact List.Mem.head _) _ hy)
    generalize hv : act.eval x = v at ex
    cases ex with
    | @ep b o _ us him hc =>
      exact ⟨.bool true,exec_bin _ (by
        rw [hv,ey,Sem.run_bind,show (eqGuard .neq t x y (.pointer (some ⟨b,o,none⟩)) (.pointer none)).run P w = .ok () w from rfl]
        exact run_neq_ptr_nil hu.h (some ⟨b,o,none⟩) w),.sc _⟩)
theorem fillO_cons {pl : Nat → Option (Nat × Nat)} {acc cs els : List AV} {i off size : Nat} {x : Operand} {v : AV} {l : List (Nat × Operand)} (hp : pl i = some (off,size)) (hx : ρ x = some v) (hc : cellsO v = some cs) (hb : (Nat.beq cs.length size && Nat.ble (off + size) acc.length) = true)
    (h : fillO ρ pl (acc.take off ++ cs ++ acc.drop (off + size)) l = some els) : fillO ρ pl acc ((i,x) :: l) = some els:=by
  simp only [fillO,hp,hx,hc,hb];exact h
theorem bytesOf_nums (l : List UInt8) : Lib.bytesOf (l.map fun b=>(b.toNat : Int)) = l:=by
  unfold Lib.bytesOf
  rw [List.map_map]
  conv=>rhs;rw [← List.map_id l]
  refine List.map_congr_left fun b _=>?_
  simp
theorem run_bytesOf {B : Base P} {G : Gh} {hp : List AObj} {w : World} (hR : RH B G hp w) {v : Value} {tok : Option Nat} {l : List UInt8} (hv : Conc G v (.sl tok 1 (l.map byteC))) : (Extern.Bytes.bytesOf v).run P w = .ok ⟨l.toArray⟩ w:=by
  generalize hels : List.map byteC l = els at hv
  cases hv with
  | @sl b o cap _ _ _ us hk hcap him hc ht =>
    subst hels
    have:=Lib.run_loadBytesX (P:=P) w (l.map fun b=>(b.toNat : Int)) ⟨b,o,none⟩ .empty (fun j x hj=>by
      have hjl : j < l.length:=by have:=(List.getElem?_eq_some_iff.1 hj).1;simpa using this
      have h1:=hR.imm _ _ _ (him j 0 (by simpa using hjl) (by omega))
      have h2:=hc j (byteC l[j]) 0 _ (by simp [hjl]) rfl
      rw [conc_sc h2] at h1
      rw [add_none]
      rw [List.getElem?_map,List.getElem?_eq_getElem hjl] at hj
      simp only [Option.map_some,Option.some.injEq] at hj
      subst hj
      simpa using h1)
    rw [List.length_map] at this
    show (Extern.Bytes.loadBytes ⟨b,o,none⟩ (l.map byteC).length .empty).run P w = _
    rw [List.length_map,this,bytesOf_nums]
    congr 1
    apply ByteArray.ext
    simp
  | slnil ht =>
    have : l = []:=by simpa using hels
    subst this;rfl
  | @slz a0 k =>
    have : l = []:=by simpa using hels
    subst this;rfl
theorem D_xcmpB {x y z : Operand} {ts : Array TypeId} {f : FuncId} {a b : List UInt8} {tok tok' : Option Nat} [hx : Xt P f Extern.BytealgCompare.compare] (hz : ρ z = some (.sc (.func (.func f) #[] #[]))) (h1 : ρ x = some (.sl tok 1 (a.map byteC))) (h2 : ρ y = some (.sl tok' 1 (b.map byteC))) :
    PPOp P { dst:=dst,op:=.call { callee:=.value z,args:=#[x,y],argTypes:=ts },type:=ty,pos:=pos,after:=af,guard:=gd } ρ (.sc (.int .i64 (Lib.compareBytes a b))) :=
  PPOp.val (by simp) (fun B G act w hR E=>⟨.int .i64 (Lib.compareBytes a b),by
    have e0:=conc_sc (E z (by simp [Op.operands,Call.operands]) _ hz)
    have e1:=run_bytesOf hR (E x (by simp [Op.operands,Call.operands]) _ h1)
    have e2:=run_bytesOf hR (E y (by simp [Op.operands,Call.operands]) _ h2)
    have:=exec_call (P0:=P) (ty:=ty) (pos:=pos) (af:=af) (args:=[x,y]) (ts:=ts) (dst:=dst) (g:=gd) (fs:=[]) (cs:=[]) (w:=w) act.eval e0
    rw [show (#[x,y] : Array Operand) = [x,y].toArray from rfl,this,hx.h]
    simp only [List.map_cons,List.map_nil,List.nil_append,List.append_nil]
    have key : (Extern.BytealgCompare.compare #[act.eval x,act.eval y]).run P w = .ok (.int .i64 (Lib.compareBytes a b)) w:=by
      change Sem.run P (do pure (goInt (Extern.BytealgCompare.cmp (← Extern.Bytes.bytesOf (act.eval x)) (← Extern.Bytes.bytesOf (act.eval y))))) w = _
      simp only [Sem.run_bind,e1,e2,Result.andThen,Sem.run_pure]
      rw [Lib.cmp_eq];rfl
    rw [show #[act.eval x,act.eval y] = [act.eval x,act.eval y].toArray from rfl] at key
    rw [key];rfl,.sc _⟩)
end
end Go.AL

namespace Go.Proofs
open Go.AL Go.Sort
attribute [local irreducible] Go.AL.W Go.AL.WL Go.AL.WD Go.AL.POp Go.AL.PPOp Go.AL.POpS Go.AL.PC Go.AL.AC Go.AL.YW Go.AL.Ret Go.AL.Le Go.AL.thn Go.AL.inBlk Go.AL.scp
inductive Tr where
  | no : Tr
  | nd (k v : List UInt8) (l r : Tr) (d m : Int) : Tr
abbrev bsA (b : List UInt8) : AV:=.sl none 1 (b.map byteC)
def tA : Tr → AV
  | .no=>.sc (.pointer none)
  | .nd k v l r d m=>.ep [bsA k,bsA v,tA l,tA r,.sc (.int .i64 d),.sc (.int .i64 m)]
theorem pur_tA : ∀ t : Tr,Pur (tA t)
  | .no=>by unfold tA;infer_instance
  | .nd k v l r d m=>by
    have h1:=pur_tA l
    have h2:=pur_tA r
    unfold tA
    infer_instance
instance (t : Tr) : Pur (tA t):=pur_tA t
theorem tA_no : tA .no = .sc (.pointer none):=by rw [tA]
theorem tA_nd (k v : List UInt8) (l r : Tr) (d m : Int) : tA (.nd k v l r d m) = .ep [bsA k,bsA v,tA l,tA r,.sc (.int .i64 d),.sc (.int .i64 m)]:=by rw [tA]
theorem cells_tA (t : Tr) : cellsO (tA t) = some [tA t]:=by
  cases t with
  | no=>rw [tA_no];rfl
  | nd k v l r d m=>rw [tA_nd];rfl
def deepT : Tr → Int
  | .no=>0
  | .nd _ _ _ _ d _=>d
def manyT : Tr → Int
  | .no=>0
  | .nd _ _ _ _ _ m=>m
set_option maxHeartbeats 4000000 in
theorem deep_pc [GlobF Tryz.prog] (t : Tr) : PC Tryz.prog 204 [tA t] (.sc (.int .i64 (deepT t))):=by
  cases t with
  | no =>
    rw [tA_no]
    refine PC.of_body Tryz.func204 Tryz.ntmps204 rfl rfl rfl ?_
    repeat' first
 | (apply p1 (hd:=rfl);case hop=>first|(apply D_move;rfl)|(apply D_assign;rfl)|exact D_peN rfl rfl)
 | refine W_seq ?_
 | refine W_region ?_
 | (refine idC ?_;refine c1 rfl ?_)
 | refine WL_nil ?_
 | refine tn ?_
 | refine tr ?_
 | refine W_ret ?_
 | (refine idR ?_;refine ret1 rfl rfl rfl ?_)
 | (refine Le.int ?_)
    all_goals first|rfl|contradiction|skip
  | nd k v l r d m =>
    rw [tA_nd]
    refine PC.of_body Tryz.func204 Tryz.ntmps204 rfl rfl rfl ?_
    repeat' first
 | (apply p1 (hd:=rfl);case hop=>first|(apply D_move;rfl)|(apply D_assign;rfl)|exact D_peE rfl rfl|exact D_nilE rfl|(apply D_load1;rfl)|(apply D_fld;rfl))
 | refine W_seq ?_
 | refine W_region ?_
 | (refine idC ?_;refine c0 rfl ?_)
 | refine WL_nil ?_
 | refine tn ?_
 | refine W_skip ?_
 | refine W_ret ?_
 | (refine idR ?_;refine ret1 rfl rfl rfl ?_)
 | (refine Le.int ?_)
    all_goals first|rfl|contradiction|skip
set_option maxHeartbeats 4000000 in
theorem many_pc [GlobF Tryz.prog] (t : Tr) : PC Tryz.prog 92 [tA t] (.sc (.int .i64 (manyT t))):=by
  cases t with
  | no =>
    rw [tA_no]
    refine PC.of_body Tryz.func92 Tryz.ntmps92 rfl rfl rfl ?_
    repeat' first
 | (apply p1 (hd:=rfl);case hop=>first|(apply D_move;rfl)|(apply D_assign;rfl)|exact D_peN rfl rfl)
 | refine W_seq ?_
 | refine W_region ?_
 | (refine idC ?_;refine c1 rfl ?_)
 | refine WL_nil ?_
 | refine tn ?_
 | refine tr ?_
 | refine W_ret ?_
 | (refine idR ?_;refine ret1 rfl rfl rfl ?_)
 | (refine Le.int ?_)
    all_goals first|rfl|contradiction|skip
  | nd k v l r d m =>
    rw [tA_nd]
    refine PC.of_body Tryz.func92 Tryz.ntmps92 rfl rfl rfl ?_
    repeat' first
 | (apply p1 (hd:=rfl);case hop=>first|(apply D_move;rfl)|(apply D_assign;rfl)|exact D_peE rfl rfl|exact D_nilE rfl|(apply D_load1;rfl)|(apply D_fld;rfl))
 | refine W_seq ?_
 | refine W_region ?_
 | (refine idC ?_;refine c0 rfl ?_)
 | refine WL_nil ?_
 | refine tn ?_
 | refine W_skip ?_
 | refine W_ret ?_
 | (refine idR ?_;refine ret1 rfl rfl rfl ?_)
 | (refine Le.int ?_)
    all_goals first|rfl|contradiction|skip
def joinT (k v : List UInt8) (l r : Tr) : Tr:=.nd k v l r (IntKind.i64.wrap (1 + max (deepT l) (deepT r))) (IntKind.i64.wrap (IntKind.i64.wrap (1 + manyT l) + manyT r))
set_option maxHeartbeats 4000000 in
theorem join_pc [GlobF Tryz.prog] (k v : List UInt8) (a b : Tr) (d m : Int) (l r : Tr) : PC Tryz.prog 147 [tA (.nd k v a b d m),tA l,tA r] (tA (joinT k v l r)):=by
  rw [tA_nd]
  unfold joinT
  rw [tA_nd]
  refine PC.of_body Tryz.func147 Tryz.ntmps147 rfl rfl rfl ?_
  repeat' first
 | (apply p1 (hd:=rfl);case hop=>first|(apply D_assign;rfl))
 | refine W_seq ?_
 | refine W_region ?_
 | refine WL_nil ?_
 | refine tn ?_
 | refine W_ret ?_
 | (refine idR ?_;refine ret1 rfl rfl rfl ?_)
 | (refine idW ?_;refine W_draw0 rfl ?_)
 | (apply d1 (hd:=rfl);case hop=>first|(apply D_move;rfl)|(apply D_assign;rfl)|exact D_build (fillO_cons rfl rfl rfl rfl (fillO_cons rfl rfl rfl rfl (fillO_cons rfl rfl (cells_tA l) rfl (fillO_cons rfl rfl (cells_tA r) rfl (fillO_cons rfl rfl rfl rfl (fillO_cons rfl rfl rfl rfl rfl))))))|exact D_nilE rfl|exact D_max rfl rfl|(apply D_pc (deep_pc l);rfl;exact .same rfl .nil)|(apply D_pc (deep_pc r);rfl;exact .same rfl .nil)|(apply D_pc (many_pc l);rfl;exact .same rfl .nil)|(apply D_pc (many_pc r);rfl;exact .same rfl .nil)|(apply D_load1;rfl)|(apply D_fld;rfl)|(apply D_int;rfl;rfl;rfl)|(apply D_box;rfl;rfl))
 | (refine WD_nil (by first|decide +kernel|kernel_rfl|rfl) ?_)
  all_goals first|exact Le.of_eq rfl|rfl|contradiction|skip
end Go.Proofs

namespace Go.Proofs
open Go.AL Go.Sort
attribute [local irreducible] Go.AL.W Go.AL.WL Go.AL.WD Go.AL.POp Go.AL.PPOp Go.AL.POpS Go.AL.PC Go.AL.AC Go.AL.YW Go.AL.Ret Go.AL.Le Go.AL.thn Go.AL.inBlk Go.AL.scp
def levelT (k v : List UInt8) (l r : Tr) : Tr :=
  if deepT r + 1 < deepT l then
    match l with
    | .no=>.no
    | .nd lk lv ll lr _ _=>if deepT lr ≤ deepT ll then joinT lk lv ll (joinT k v lr r) else
      match lr with
      | .no=>.no
      | .nd ak av al ar _ _=>joinT ak av (joinT lk lv ll al) (joinT k v ar r)
  else if deepT l + 1 < deepT r then
    match r with
    | .no=>.no
    | .nd rk rv rl rr _ _=>if deepT rl ≤ deepT rr then joinT rk rv (joinT k v l rl) rr else
      match rl with
      | .no=>.no
      | .nd ak av al ar _ _=>joinT ak av (joinT k v l al) (joinT rk rv ar rr)
  else joinT k v l r
def dOk : Tr → Prop
  | .no=>True
  | .nd _ _ l r d _=>1 ≤ d ∧ d ≤ 1152921504606846976 ∧ dOk l ∧ dOk r
theorem dOk_rg {t : Tr} (h : dOk t) : 0 ≤ deepT t ∧ deepT t ≤ 1152921504606846976:=by
  cases t with
  | no=>exact ⟨Int.le_refl _,by decide⟩
  | nd k v l r d m=>unfold dOk at h;exact ⟨by show 0 ≤ d;omega,h.2.1⟩
theorem dOk_nd {t : Tr} (h : 0 < deepT t) : ∃ k v l r d m,t = .nd k v l r d m:=by
  cases t with
  | no=>exact absurd h (by decide)
  | nd k v l r d m=>exact ⟨k,v,l,r,d,m,rfl⟩
theorem level_1 {k v lk lv : List UInt8} {ll lr r : Tr} {ld lm : Int} (h1 : deepT r + 1 < deepT (.nd lk lv ll lr ld lm)) (h2 : deepT lr ≤ deepT ll) : levelT k v (.nd lk lv ll lr ld lm) r = joinT lk lv ll (joinT k v lr r):=by
  simp only [levelT,if_pos h1,if_pos h2]
theorem level_2 {k v lk lv ak av : List UInt8} {ll al ar r : Tr} {ld lm ad am : Int} (h1 : deepT r + 1 < deepT (.nd lk lv ll (.nd ak av al ar ad am) ld lm)) (h2 : ¬ deepT (.nd ak av al ar ad am) ≤ deepT ll) : levelT k v (.nd lk lv ll (.nd ak av al ar ad am) ld lm) r = joinT ak av (joinT lk lv ll al) (joinT k v ar r):=by
  simp only [levelT,if_pos h1,if_neg h2]
theorem level_3 {k v rk rv : List UInt8} {rl rr l : Tr} {rd rm : Int} (h0 : ¬ deepT (.nd rk rv rl rr rd rm) + 1 < deepT l) (h1 : deepT l + 1 < deepT (.nd rk rv rl rr rd rm)) (h2 : deepT rl ≤ deepT rr) : levelT k v l (.nd rk rv rl rr rd rm) = joinT rk rv (joinT k v l rl) rr:=by
  simp only [levelT,if_neg h0,if_pos h1,if_pos h2]
theorem level_4 {k v rk rv ak av : List UInt8} {rr al ar l : Tr} {rd rm ad am : Int} (h0 : ¬ deepT (.nd rk rv (.nd ak av al ar ad am) rr rd rm) + 1 < deepT l) (h1 : deepT l + 1 < deepT (.nd rk rv (.nd ak av al ar ad am) rr rd rm)) (h2 : ¬ deepT (.nd ak av al ar ad am) ≤ deepT rr) : levelT k v l (.nd rk rv (.nd ak av al ar ad am) rr rd rm) = joinT ak av (joinT k v l al) (joinT rk rv ar rr):=by
  simp only [levelT,if_neg h0,if_pos h1,if_neg h2]
theorem level_5 {k v : List UInt8} {l r : Tr} (h0 : ¬ deepT r + 1 < deepT l) (h1 : ¬ deepT l + 1 < deepT r) : levelT k v l r = joinT k v l r:=by
  simp only [levelT,if_neg h0,if_neg h1]
set_option maxHeartbeats 16000000 in
theorem level_pc [GlobF Tryz.prog] (k v : List UInt8) (a b : Tr) (d m : Int) (l r : Tr) (hl : dOk l) (hr : dOk r) : PC Tryz.prog 146 [tA (.nd k v a b d m),tA l,tA r] (tA (levelT k v l r)):=by
  obtain ⟨l1,l2⟩:=dOk_rg hl
  obtain ⟨r1,r2⟩:=dOk_rg hr
  have wr : Value.int .i64 (IntKind.i64.wrap (deepT r + 1)) = .int .i64 (deepT r + 1):=by rw [w64 _ (by omega) (by omega)]
  have wl : Value.int .i64 (IntKind.i64.wrap (deepT l + 1)) = .int .i64 (deepT l + 1):=by rw [w64 _ (by omega) (by omega)]
  have dl:=deep_pc l
  have dr:=deep_pc r
  by_cases c1 : deepT r + 1 < deepT l
  · have e1 : Value.bool (iLt (deepT r + 1) (deepT l)) = .bool true:=by rw [(iLt_t _ _).mpr c1]
    have e0:=e1
    obtain ⟨lk,lv,ll,lr,ld,lm,rfl⟩:=dOk_nd (t:=l) (by omega)
    have hl':=hl
    unfold dOk at hl'
    obtain ⟨_,_,hll,hlr⟩:=hl'
    by_cases c2 : deepT lr ≤ deepT ll
    · rw [level_1 c1 c2]
      have dx:=deep_pc ll
      have dy:=deep_pc lr
      have e2 : Value.bool (iLe (deepT lr) (deepT ll)) = .bool true:=by rw [(iLe_t _ _).mpr c2]
      have j1:=join_pc k v a b d m lr r
      have j2:=join_pc lk lv ll lr ld lm ll (joinT k v lr r)
      generalize joinT k v lr r = X at *
      generalize joinT lk lv ll X = Y at *
      rw [tA_nd] at dl j1 j2 ⊢
      rw [tA_nd]
      refine PC.of_body Tryz.func146 Tryz.ntmps146 rfl rfl rfl ?_
      repeat' first
 | (apply p1 (hd:=rfl);case hop=>first|(apply D_move;rfl)|(apply D_assign;rfl)|(apply D_pc dl;rfl;exact .same rfl .nil)|(apply D_pc dr;rfl;exact .same rfl .nil)|exact D_sc (D_int rfl rfl rfl) wr|exact D_sc (D_int rfl rfl rfl) wl|exact D_sc (D_int rfl rfl rfl) e0|(apply D_int;rfl;rfl;rfl))
 | refine W_seq ?_
 | refine W_region ?_
 | (refine idC ?_;first|refine c0 rfl ?_|refine cs rfl (fun _=>?_) (fun _=>?_))
 | refine WL_nil ?_
 | refine tn ?_
 | refine tr ?_
 | refine br ?_
 | refine bn ?_
 | refine W_skip ?_
 | refine W_block ?_
 | refine W_ret ?_
 | (refine idR ?_;refine ret1 rfl rfl rfl ?_)
 | (refine idW ?_;refine W_draw0 rfl ?_)
 | (apply d1 (hd:=rfl);case hop=>first|(apply D_move;rfl)|(apply D_assign;rfl)|exact D_nilE rfl|(apply D_pc dl;rfl;exact .same rfl .nil)|(apply D_pc dr;rfl;exact .same rfl .nil)|(apply D_pc dx;rfl;exact .same rfl .nil)|(apply D_pc dy;rfl;exact .same rfl .nil)|exact D_sc (D_int rfl rfl rfl) wr|exact D_sc (D_int rfl rfl rfl) wl|exact D_sc (D_int rfl rfl rfl) e0|exact D_sc (D_int rfl rfl rfl) e2|(apply D_pc j1;rfl;exact .same rfl (.same rfl (.same rfl .nil)))|(apply D_pc j2;rfl;exact .same rfl (.same rfl (.same rfl .nil)))|(apply D_load1;rfl)|(apply D_fld;rfl)|(apply D_pickT;rfl;rfl)|(apply D_pickF;rfl;rfl)|(apply D_int;rfl;rfl;rfl))
 | (refine idDg ?_;first|refine dg0t rfl rfl rfl ?_|refine dgr rfl rfl ?_|refine dgs rfl rfl (fun _=>?_) (fun _=>?_))
 | (refine WD_nil (by first|decide +kernel|kernel_rfl|rfl) ?_)
      all_goals first|exact Le.of_eq rfl|rfl|contradiction|skip
    · obtain ⟨ll1,_⟩:=dOk_rg hll
      obtain ⟨ak,av,al,ar,ad,am,rfl⟩:=dOk_nd (t:=lr) (by omega)
      rw [level_2 c1 c2]
      have dx:=deep_pc ll
      have dy:=deep_pc (.nd ak av al ar ad am)
      have e2 : Value.bool (iLe (deepT (.nd ak av al ar ad am)) (deepT ll)) = .bool false:=by rw [(iLe_f _ _).mpr (by omega)]
      have j1:=join_pc lk lv ll (.nd ak av al ar ad am) ld lm ll al
      have j2:=join_pc k v a b d m ar r
      have j3:=join_pc ak av al ar ad am (joinT lk lv ll al) (joinT k v ar r)
      generalize joinT lk lv ll al = X at *
      generalize joinT k v ar r = Y at *
      generalize joinT ak av X Y = Z at *
      simp only [tA_nd] at dl dy j1 j2 j3 ⊢
      refine PC.of_body Tryz.func146 Tryz.ntmps146 rfl rfl rfl ?_
      repeat' first
 | (apply p1 (hd:=rfl);case hop=>first|(apply D_move;rfl)|(apply D_assign;rfl)|(apply D_pc dl;rfl;exact .same rfl .nil)|(apply D_pc dr;rfl;exact .same rfl .nil)|exact D_sc (D_int rfl rfl rfl) wr|exact D_sc (D_int rfl rfl rfl) wl|exact D_sc (D_int rfl rfl rfl) e0|(apply D_int;rfl;rfl;rfl))
 | refine W_seq ?_
 | refine W_region ?_
 | (refine idC ?_;first|refine c0 rfl ?_|refine cs rfl (fun _=>?_) (fun _=>?_))
 | refine WL_nil ?_
 | refine tn ?_
 | refine tr ?_
 | refine br ?_
 | refine bn ?_
 | refine W_skip ?_
 | refine W_block ?_
 | refine W_ret ?_
 | (refine idR ?_;refine ret1 rfl rfl rfl ?_)
 | (refine idW ?_;refine W_draw0 rfl ?_)
 | (apply d1 (hd:=rfl);case hop=>first|(apply D_move;rfl)|(apply D_assign;rfl)|exact D_nilE rfl|(apply D_pc dl;rfl;exact .same rfl .nil)|(apply D_pc dr;rfl;exact .same rfl .nil)|(apply D_pc dx;rfl;exact .same rfl .nil)|(apply D_pc dy;rfl;exact .same rfl .nil)|exact D_sc (D_int rfl rfl rfl) wr|exact D_sc (D_int rfl rfl rfl) wl|exact D_sc (D_int rfl rfl rfl) e0|exact D_sc (D_int rfl rfl rfl) e2|(apply D_pc j1;rfl;exact .same rfl (.same rfl (.same rfl .nil)))|(apply D_pc j2;rfl;exact .same rfl (.same rfl (.same rfl .nil)))|(apply D_pc j3;rfl;exact .same rfl (.same rfl (.same rfl .nil)))|(apply D_load1;rfl)|(apply D_fld;rfl)|(apply D_pickT;rfl;rfl)|(apply D_pickF;rfl;rfl)|(apply D_int;rfl;rfl;rfl))
 | (refine idDg ?_;first|refine dg0t rfl rfl rfl ?_|refine dgr rfl rfl ?_|refine dgs rfl rfl (fun _=>?_) (fun _=>?_))
 | (refine WD_nil (by first|decide +kernel|kernel_rfl|rfl) ?_)
      all_goals first|exact Le.of_eq rfl|rfl|contradiction|skip
  · have e0 : Value.bool (iLt (deepT r + 1) (deepT l)) = .bool false:=by rw [(iLt_f _ _).mpr (by omega)]
    by_cases c3 : deepT l + 1 < deepT r
    · have e1 : Value.bool (iLt (deepT l + 1) (deepT r)) = .bool true:=by rw [(iLt_t _ _).mpr c3]
      obtain ⟨rk,rv,rl,rr,rd,rm,rfl⟩:=dOk_nd (t:=r) (by omega)
      have hr':=hr
      unfold dOk at hr'
      obtain ⟨_,_,hrl,hrr⟩:=hr'
      by_cases c2 : deepT rl ≤ deepT rr
      · rw [level_3 c1 c3 c2]
        have dx:=deep_pc rl
        have dy:=deep_pc rr
        have e2 : Value.bool (iLe (deepT rl) (deepT rr)) = .bool true:=by rw [(iLe_t _ _).mpr c2]
        have j1:=join_pc k v a b d m l rl
        have j2:=join_pc rk rv rl rr rd rm (joinT k v l rl) rr
        generalize joinT k v l rl = X at *
        generalize joinT rk rv X rr = Y at *
        rw [tA_nd] at dr j1 j2
        simp only [tA_nd]
        refine PC.of_body Tryz.func146 Tryz.ntmps146 rfl rfl rfl ?_
        repeat' first
 | (apply p1 (hd:=rfl);case hop=>first|(apply D_move;rfl)|(apply D_assign;rfl)|(apply D_pc dl;rfl;exact .same rfl .nil)|(apply D_pc dr;rfl;exact .same rfl .nil)|exact D_sc (D_int rfl rfl rfl) wr|exact D_sc (D_int rfl rfl rfl) wl|exact D_sc (D_int rfl rfl rfl) e0|exact D_sc (D_int rfl rfl rfl) e1)
 | refine W_seq ?_
 | refine W_region ?_
 | (refine idC ?_;first|refine c0 rfl ?_|refine cs rfl (fun _=>?_) (fun _=>?_))
 | refine WL_nil ?_
 | refine tn ?_
 | refine tr ?_
 | refine br ?_
 | refine bn ?_
 | refine W_skip ?_
 | refine W_block ?_
 | refine W_ret ?_
 | (refine idR ?_;refine ret1 rfl rfl rfl ?_)
 | (refine idW ?_;refine W_draw0 rfl ?_)
 | (apply d1 (hd:=rfl);case hop=>first|(apply D_move;rfl)|(apply D_assign;rfl)|exact D_nilE rfl|(apply D_pc dl;rfl;exact .same rfl .nil)|(apply D_pc dr;rfl;exact .same rfl .nil)|(apply D_pc dx;rfl;exact .same rfl .nil)|(apply D_pc dy;rfl;exact .same rfl .nil)|exact D_sc (D_int rfl rfl rfl) wr|exact D_sc (D_int rfl rfl rfl) wl|exact D_sc (D_int rfl rfl rfl) e0|exact D_sc (D_int rfl rfl rfl) e1|exact D_sc (D_int rfl rfl rfl) e2|(apply D_pc j1;rfl;exact .same rfl (.same rfl (.same rfl .nil)))|(apply D_pc j2;rfl;exact .same rfl (.same rfl (.same rfl .nil)))|(apply D_load1;rfl)|(apply D_fld;rfl)|(apply D_pickT;rfl;rfl)|(apply D_pickF;rfl;rfl))
 | (refine idDg ?_;first|refine dg0t rfl rfl rfl ?_|refine dgr rfl rfl ?_)
 | (refine WD_nil (by first|decide +kernel|kernel_rfl|rfl) ?_)
        all_goals first|exact Le.of_eq rfl|rfl|contradiction|skip
      · obtain ⟨rr1,_⟩:=dOk_rg hrr
        obtain ⟨ak,av,al,ar,ad,am,rfl⟩:=dOk_nd (t:=rl) (by omega)
        rw [level_4 c1 c3 c2]
        have dx:=deep_pc rr
        have dy:=deep_pc (.nd ak av al ar ad am)
        have e2 : Value.bool (iLe (deepT (.nd ak av al ar ad am)) (deepT rr)) = .bool false:=by rw [(iLe_f _ _).mpr (by omega)]
        have j1:=join_pc k v a b d m l al
        have j2:=join_pc rk rv (.nd ak av al ar ad am) rr rd rm ar rr
        have j3:=join_pc ak av al ar ad am (joinT k v l al) (joinT rk rv ar rr)
        generalize joinT k v l al = X at *
        generalize joinT rk rv ar rr = Y at *
        generalize joinT ak av X Y = Z at *
        simp only [tA_nd] at dr dy j1 j2 j3 ⊢
        refine PC.of_body Tryz.func146 Tryz.ntmps146 rfl rfl rfl ?_
        repeat' first
 | (apply p1 (hd:=rfl);case hop=>first|(apply D_move;rfl)|(apply D_assign;rfl)|(apply D_pc dl;rfl;exact .same rfl .nil)|(apply D_pc dr;rfl;exact .same rfl .nil)|exact D_sc (D_int rfl rfl rfl) wr|exact D_sc (D_int rfl rfl rfl) wl|exact D_sc (D_int rfl rfl rfl) e0|exact D_sc (D_int rfl rfl rfl) e1)
 | refine W_seq ?_
 | refine W_region ?_
 | (refine idC ?_;first|refine c0 rfl ?_|refine cs rfl (fun _=>?_) (fun _=>?_))
 | refine WL_nil ?_
 | refine tn ?_
 | refine tr ?_
 | refine br ?_
 | refine bn ?_
 | refine W_skip ?_
 | refine W_block ?_
 | refine W_ret ?_
 | (refine idR ?_;refine ret1 rfl rfl rfl ?_)
 | (refine idW ?_;refine W_draw0 rfl ?_)
 | (apply d1 (hd:=rfl);case hop=>first|(apply D_move;rfl)|(apply D_assign;rfl)|exact D_nilE rfl|(apply D_pc dl;rfl;exact .same rfl .nil)|(apply D_pc dr;rfl;exact .same rfl .nil)|(apply D_pc dx;rfl;exact .same rfl .nil)|(apply D_pc dy;rfl;exact .same rfl .nil)|exact D_sc (D_int rfl rfl rfl) wr|exact D_sc (D_int rfl rfl rfl) wl|exact D_sc (D_int rfl rfl rfl) e0|exact D_sc (D_int rfl rfl rfl) e1|exact D_sc (D_int rfl rfl rfl) e2|(apply D_pc j1;rfl;exact .same rfl (.same rfl (.same rfl .nil)))|(apply D_pc j2;rfl;exact .same rfl (.same rfl (.same rfl .nil)))|(apply D_pc j3;rfl;exact .same rfl (.same rfl (.same rfl .nil)))|(apply D_load1;rfl)|(apply D_fld;rfl)|(apply D_pickT;rfl;rfl)|(apply D_pickF;rfl;rfl))
 | (refine idDg ?_;first|refine dg0t rfl rfl rfl ?_|refine dgr rfl rfl ?_)
 | (refine WD_nil (by first|decide +kernel|kernel_rfl|rfl) ?_)
        all_goals first|exact Le.of_eq rfl|rfl|contradiction|skip
    · rw [level_5 c1 c3]
      have e1 : Value.bool (iLt (deepT l + 1) (deepT r)) = .bool false:=by rw [(iLt_f _ _).mpr (by omega)]
      have e2:=e1
      have dx:=dl
      have dy:=dr
      have j1:=join_pc k v a b d m l r
      generalize joinT k v l r = X at *
      rw [tA_nd] at j1 ⊢
      refine PC.of_body Tryz.func146 Tryz.ntmps146 rfl rfl rfl ?_
      repeat' first
 | (apply p1 (hd:=rfl);case hop=>first|(apply D_move;rfl)|(apply D_assign;rfl)|(apply D_pc dl;rfl;exact .same rfl .nil)|(apply D_pc dr;rfl;exact .same rfl .nil)|exact D_sc (D_int rfl rfl rfl) wr|exact D_sc (D_int rfl rfl rfl) wl|exact D_sc (D_int rfl rfl rfl) e0|exact D_sc (D_int rfl rfl rfl) e1|(apply D_pc j1;rfl;exact .same rfl (.same rfl (.same rfl .nil))))
 | refine W_seq ?_
 | refine W_region ?_
 | (refine idC ?_;refine c0 rfl ?_)
 | refine WL_nil ?_
 | refine tn ?_
 | refine bn ?_
 | refine W_skip ?_
 | refine W_block ?_
 | refine W_ret ?_
 | (refine idR ?_;refine ret1 rfl rfl rfl ?_)
 | (refine idW ?_;refine W_draw0 rfl ?_)
 | (apply d1 (hd:=rfl);case hop=>first|(apply D_move;rfl)|(apply D_assign;rfl)|(apply D_pc dl;rfl;exact .same rfl .nil)|(apply D_pc dr;rfl;exact .same rfl .nil)|exact D_sc (D_int rfl rfl rfl) wr|exact D_sc (D_int rfl rfl rfl) wl|exact D_sc (D_int rfl rfl rfl) e0|exact D_sc (D_int rfl rfl rfl) e1|(apply D_pickF;rfl;rfl))
 | (refine idDg ?_;refine dg0t rfl rfl rfl ?_)
 | (refine WD_nil (by first|decide +kernel|kernel_rfl|rfl) ?_)
      all_goals first|exact Le.of_eq rfl|rfl|contradiction|skip
end Go.Proofs

namespace Go.Proofs
open Go.AL Go.Sort
attribute [local irreducible] Go.AL.W Go.AL.WL Go.AL.WD Go.AL.POp Go.AL.PPOp Go.AL.POpS Go.AL.PC Go.AL.AC Go.AL.YW Go.AL.Ret Go.AL.Le Go.AL.thn Go.AL.inBlk Go.AL.scp
instance : Xt Tryz.prog 203 Extern.BytealgCompare.compare:=⟨run_callFunc_extern Tryz.func203 (by kernel_rfl) (by kernel_rfl) (by kernel_rfl) (by kernel_rfl)⟩
abbrev cbB (a b : List UInt8) : Int:=Lib.compareBytes a b
set_option maxHeartbeats 4000000 in
theorem bcmp_pc [GlobF Tryz.prog] (a b : List UInt8) : PC Tryz.prog 145 [bsA a,bsA b] (.sc (.int .i64 (cbB a b))):=by
  refine PC.of_body Tryz.func145 Tryz.ntmps145 rfl rfl rfl ?_
  repeat' first
 | (apply p1 (hd:=rfl);case hop=>first|(apply D_move;rfl)|(apply D_assign;rfl)|exact D_xcmpB rfl rfl rfl)
 | refine W_seq ?_
 | refine W_region ?_
 | refine WL_nil ?_
 | refine tn ?_
 | refine W_ret ?_
 | (refine idR ?_;refine ret1 rfl rfl rfl ?_)
 | (refine Le.int ?_)
  all_goals first|rfl|contradiction|skip
def ht : Tr → Nat
  | .no=>0
  | .nd _ _ l r _ _=>1 + max (ht l) (ht r)
def sz : Tr → Nat
  | .no=>0
  | .nd _ _ l r _ _=>1 + sz l + sz r
def okT : Tr → Prop
  | .no=>True
  | .nd _ _ l r d m=>d = ((1 + max (ht l) (ht r) : Nat) : Int) ∧ m = ((1 + sz l + sz r : Nat) : Int) ∧ okT l ∧ okT r
theorem ht_sz : ∀ t : Tr,ht t ≤ sz t
  | .no=>Nat.le_refl _
  | .nd _ _ l r _ _=>by
    have h1:=ht_sz l
    have h2:=ht_sz r
    simp only [ht,sz];omega
theorem okT_deep {t : Tr} (h : okT t) : deepT t = (ht t : Int) ∧ manyT t = (sz t : Int):=by
  cases t with
  | no=>exact ⟨rfl,rfl⟩
  | nd k v l r d m=>unfold okT at h;exact ⟨h.1,h.2.1⟩
theorem okT_d : ∀ {t : Tr},okT t → sz t ≤ 1152921504606846976 → dOk t
  | .no,_,_=>trivial
  | .nd k v l r d m,h,hs=>by
    unfold okT at h
    simp only [sz] at hs
    have h1:=ht_sz l
    have h2:=ht_sz r
    unfold dOk
    exact ⟨by omega,by omega,okT_d h.2.2.1 (by omega),okT_d h.2.2.2 (by omega)⟩
def toL : Tr → List (List UInt8 × List UInt8)
  | .no=>[]
  | .nd k v l r _ _=>toL l ++ (k,v) :: toL r
theorem join_ok {k v : List UInt8} {l r : Tr} (hl : okT l) (hr : okT r) (hs : 1 + sz l + sz r ≤ 1152921504606846976) : okT (joinT k v l r) ∧ sz (joinT k v l r) = 1 + sz l + sz r ∧ toL (joinT k v l r) = toL l ++ (k,v) :: toL r ∧ ht (joinT k v l r) = 1 + max (ht l) (ht r):=by
  obtain ⟨l1,l2⟩:=okT_deep hl
  obtain ⟨r1,r2⟩:=okT_deep hr
  have h1:=ht_sz l
  have h2:=ht_sz r
  have e1 : IntKind.i64.wrap (1 + max (deepT l) (deepT r)) = ((1 + max (ht l) (ht r) : Nat) : Int):=by rw [w64 _ (by omega) (by omega)];omega
  have e2 : IntKind.i64.wrap (IntKind.i64.wrap (1 + manyT l) + manyT r) = ((1 + sz l + sz r : Nat) : Int):=by rw [w64 (1 + manyT l) (by omega) (by omega),w64 _ (by omega) (by omega)];omega
  refine ⟨?_,rfl,rfl,rfl⟩
  unfold joinT
  rw [e1,e2]
  exact ⟨rfl,rfl,hl,hr⟩
theorem level_ok {k v : List UInt8} {l r : Tr} (hl : okT l) (hr : okT r) (hs : 1 + sz l + sz r ≤ 1152921504606846976) : okT (levelT k v l r) ∧ sz (levelT k v l r) = 1 + sz l + sz r ∧ toL (levelT k v l r) = toL l ++ (k,v) :: toL r:=by
  obtain ⟨l1,l2⟩:=okT_deep hl
  obtain ⟨r1,r2⟩:=okT_deep hr
  by_cases c1 : deepT r + 1 < deepT l
  · obtain ⟨lk,lv,ll,lr,ld,lm,rfl⟩:=dOk_nd (t:=l) (by omega)
    have hl':=hl
    unfold okT at hl'
    obtain ⟨_,_,hll,hlr⟩:=hl'
    simp only [sz] at hs
    by_cases c2 : deepT lr ≤ deepT ll
    · rw [level_1 c1 c2]
      obtain ⟨a1,a2,a3,_⟩:=join_ok (k:=k) (v:=v) hlr hr (by omega)
      obtain ⟨b1,b2,b3,_⟩:=join_ok (k:=lk) (v:=lv) hll a1 (by omega)
      refine ⟨b1,by rw [b2,a2];simp only [sz];omega,?_⟩
      rw [b3,a3];simp [toL]
    · obtain ⟨x1,_⟩:=okT_deep hll
      obtain ⟨ak,av,al,ar,ad,am,rfl⟩:=dOk_nd (t:=lr) (by omega)
      rw [level_2 c1 c2]
      have hlr':=hlr
      unfold okT at hlr'
      simp only [sz] at hs
      obtain ⟨a1,a2,a3,_⟩:=join_ok (k:=lk) (v:=lv) hll hlr'.2.2.1 (by omega)
      obtain ⟨b1,b2,b3,_⟩:=join_ok (k:=k) (v:=v) hlr'.2.2.2 hr (by omega)
      obtain ⟨d1,d2,d3,_⟩:=join_ok (k:=ak) (v:=av) a1 b1 (by omega)
      refine ⟨d1,by rw [d2,a2,b2];simp only [sz];omega,?_⟩
      rw [d3,a3,b3];simp [toL]
  · by_cases c3 : deepT l + 1 < deepT r
    · obtain ⟨rk,rv,rl,rr,rd,rm,rfl⟩:=dOk_nd (t:=r) (by omega)
      have hr':=hr
      unfold okT at hr'
      obtain ⟨_,_,hrl,hrr⟩:=hr'
      simp only [sz] at hs
      by_cases c2 : deepT rl ≤ deepT rr
      · rw [level_3 c1 c3 c2]
        obtain ⟨a1,a2,a3,_⟩:=join_ok (k:=k) (v:=v) hl hrl (by omega)
        obtain ⟨b1,b2,b3,_⟩:=join_ok (k:=rk) (v:=rv) a1 hrr (by omega)
        refine ⟨b1,by rw [b2,a2];simp only [sz];omega,?_⟩
        rw [b3,a3];simp [toL]
      · obtain ⟨x1,_⟩:=okT_deep hrr
        obtain ⟨ak,av,al,ar,ad,am,rfl⟩:=dOk_nd (t:=rl) (by omega)
        rw [level_4 c1 c3 c2]
        have hrl':=hrl
        unfold okT at hrl'
        simp only [sz] at hs
        obtain ⟨a1,a2,a3,_⟩:=join_ok (k:=k) (v:=v) hl hrl'.2.2.1 (by omega)
        obtain ⟨b1,b2,b3,_⟩:=join_ok (k:=rk) (v:=rv) hrl'.2.2.2 hrr (by omega)
        obtain ⟨d1,d2,d3,_⟩:=join_ok (k:=ak) (v:=av) a1 b1 (by omega)
        refine ⟨d1,by rw [d2,a2,b2];simp only [sz];omega,?_⟩
        rw [d3,a3,b3];simp [toL]
    · rw [level_5 c1 c3]
      obtain ⟨a1,a2,a3,_⟩:=join_ok (k:=k) (v:=v) hl hr hs
      exact ⟨a1,a2,a3⟩
def putT (key val : List UInt8) : Tr → Tr
  | .no=>.nd key val .no .no 1 1
  | .nd k v l r _ _=>if cbB key k < 0 then levelT k v (putT key val l) r else if 0 < cbB key k then levelT k v l (putT key val r) else joinT key val l r
theorem put_no (key val : List UInt8) : putT key val .no = .nd key val .no .no 1 1:=by rw [putT]
theorem put_nd (key val k v : List UInt8) (l r : Tr) (d m : Int) : putT key val (.nd k v l r d m) = if cbB key k < 0 then levelT k v (putT key val l) r else if 0 < cbB key k then levelT k v l (putT key val r) else joinT key val l r:=by rw [putT]
theorem put_ok (key val : List UInt8) : ∀ {t : Tr},okT t → sz t < 1152921504606846976 → okT (putT key val t) ∧ sz (putT key val t) ≤ sz t + 1 ∧ sz t ≤ sz (putT key val t)
  | .no,_,_=>by
    rw [put_no]
    exact ⟨⟨rfl,rfl,trivial,trivial⟩,Nat.le_refl _,Nat.zero_le _⟩
  | .nd k v l r d m,h,hs=>by
    unfold okT at h
    simp only [sz] at hs
    rw [put_nd]
    obtain ⟨a1,a2,a3⟩:=put_ok key val h.2.2.1 (by omega)
    obtain ⟨b1,b2,b3⟩:=put_ok key val h.2.2.2 (by omega)
    split
    · obtain ⟨c1,c2,_⟩:=level_ok (k:=k) (v:=v) a1 h.2.2.2 (by omega)
      refine ⟨c1,?_,?_⟩ <;> (rw [c2];simp only [sz];omega)
    · split
      · obtain ⟨c1,c2,_⟩:=level_ok (k:=k) (v:=v) h.2.2.1 b1 (by omega)
        refine ⟨c1,?_,?_⟩ <;> (rw [c2];simp only [sz];omega)
      · obtain ⟨c1,c2,_⟩:=join_ok (k:=key) (v:=val) h.2.2.1 h.2.2.2 (by omega)
        refine ⟨c1,?_,?_⟩ <;> (rw [c2];simp only [sz];omega)
set_option maxHeartbeats 16000000 in
theorem put_pc [GlobF Tryz.prog] (key val : List UInt8) : ∀ (t : Tr),okT t → sz t < 1152921504606846976 → PC Tryz.prog 94 [tA t,bsA key,bsA val] (tA (putT key val t))
  | .no,_,_=>by
    rw [put_no,tA_nd]
    simp only [tA_no]
    refine PC.of_body Tryz.func94 Tryz.ntmps94 rfl rfl rfl ?_
    repeat' first
 | (apply p1 (hd:=rfl);case hop=>first|(apply D_move;rfl)|(apply D_assign;rfl)|exact D_peN rfl rfl|(apply D_box;rfl;rfl)|exact D_build rfl)
 | refine W_seq ?_
 | refine W_region ?_
 | (refine idC ?_;refine c1 rfl ?_)
 | refine WL_nil ?_
 | refine tn ?_
 | refine tr ?_
 | refine W_ret ?_
 | (refine idR ?_;refine ret1 rfl rfl rfl ?_)
    all_goals first|exact Le.of_eq rfl|rfl|contradiction|skip
  | .nd k v l r d m,h,hs=>by
    have h':=h
    unfold okT at h'
    simp only [sz] at hs
    have hc:=bcmp_pc key k
    have pl:=put_pc key val l h'.2.2.1 (by omega)
    have pr:=put_pc key val r h'.2.2.2 (by omega)
    obtain ⟨a1,a2,a3⟩:=put_ok key val h'.2.2.1 (by omega)
    obtain ⟨b1,b2,b3⟩:=put_ok key val h'.2.2.2 (by omega)
    have vl:=level_pc k v l r d m (putT key val l) r (okT_d a1 (by omega)) (okT_d h'.2.2.2 (by omega))
    have vr:=level_pc k v l r d m l (putT key val r) (okT_d h'.2.2.1 (by omega)) (okT_d b1 (by omega))
    have jn:=join_pc key val .no .no 0 0 l r
    rw [put_nd]
    generalize putT key val l = PL at *
    generalize putT key val r = PR at *
    simp only [tA_nd] at vl vr jn ⊢
    by_cases c1 : cbB key k < 0
    · rw [if_pos c1]
      generalize levelT k v PL r = X at *
      refine PC.of_body Tryz.func94 Tryz.ntmps94 rfl rfl rfl ?_
      repeat' first
 | (apply p1 (hd:=rfl);case hop=>first|(apply D_move;rfl)|(apply D_assign;rfl)|exact D_peE rfl rfl|exact D_nilE rfl|(apply D_pc hc;rfl;exact .same rfl (.same rfl .nil))|(apply D_load1;rfl)|(apply D_fld;rfl)|(apply D_int;rfl;rfl;rfl))
 | refine W_seq ?_
 | refine W_region ?_
 | (refine idC ?_;first|refine c0 rfl ?_|refine cs rfl (fun _=>?_) (fun _=>?_))
 | refine WL_nil ?_
 | refine tn ?_
 | refine tr ?_
 | refine br ?_
 | refine bn ?_
 | refine W_skip ?_
 | refine W_block ?_
 | refine W_ret ?_
 | (refine idR ?_;refine ret1 rfl rfl rfl ?_)
 | (refine idW ?_;refine W_draw0 rfl ?_)
 | (apply d1 (hd:=rfl);case hop=>first|(apply D_move;rfl)|(apply D_assign;rfl)|exact D_nilE rfl|(apply D_pc pl;rfl;exact .same rfl (.same rfl (.same rfl .nil)))|(apply D_pc vl;rfl;exact .same rfl (.same rfl (.same rfl .nil)))|(apply D_load1;rfl)|(apply D_fld;rfl)|(apply D_box;rfl;rfl)|exact D_build rfl)
 | (refine WD_nil (by first|decide +kernel|kernel_rfl|rfl) ?_)
      all_goals first|exact Le.of_eq rfl|rfl|contradiction|(exfalso;omega)|skip
    · rw [if_neg c1]
      by_cases c2 : 0 < cbB key k
      · rw [if_pos c2]
        generalize levelT k v l PR = X at *
        refine PC.of_body Tryz.func94 Tryz.ntmps94 rfl rfl rfl ?_
        repeat' first
 | (apply p1 (hd:=rfl);case hop=>first|(apply D_move;rfl)|(apply D_assign;rfl)|exact D_peE rfl rfl|exact D_nilE rfl|(apply D_pc hc;rfl;exact .same rfl (.same rfl .nil))|(apply D_load1;rfl)|(apply D_fld;rfl)|(apply D_int;rfl;rfl;rfl))
 | refine W_seq ?_
 | refine W_region ?_
 | (refine idC ?_;first|refine c0 rfl ?_|refine cs rfl (fun _=>?_) (fun _=>?_))
 | refine WL_nil ?_
 | refine tn ?_
 | refine tr ?_
 | refine br ?_
 | refine bn ?_
 | refine W_skip ?_
 | refine W_block ?_
 | refine W_ret ?_
 | (refine idR ?_;refine ret1 rfl rfl rfl ?_)
 | (refine idW ?_;refine W_draw0 rfl ?_)
 | (apply d1 (hd:=rfl);case hop=>first|(apply D_move;rfl)|(apply D_assign;rfl)|exact D_nilE rfl|(apply D_pc pr;rfl;exact .same rfl (.same rfl (.same rfl .nil)))|(apply D_pc vr;rfl;exact .same rfl (.same rfl (.same rfl .nil)))|(apply D_load1;rfl)|(apply D_fld;rfl)|(apply D_box;rfl;rfl)|exact D_build rfl)
 | (refine WD_nil (by first|decide +kernel|kernel_rfl|rfl) ?_)
        all_goals first|exact Le.of_eq rfl|rfl|contradiction|(exfalso;omega)|skip
      · rw [if_neg c2]
        generalize joinT key val l r = X at *
        refine PC.of_body Tryz.func94 Tryz.ntmps94 rfl rfl rfl ?_
        repeat' first
 | (apply p1 (hd:=rfl);case hop=>first|(apply D_move;rfl)|(apply D_assign;rfl)|exact D_peE rfl rfl|exact D_nilE rfl|(apply D_pc hc;rfl;exact .same rfl (.same rfl .nil))|(apply D_load1;rfl)|(apply D_fld;rfl)|(apply D_int;rfl;rfl;rfl))
 | refine W_seq ?_
 | refine W_region ?_
 | (refine idC ?_;first|refine c0 rfl ?_|refine cs rfl (fun _=>?_) (fun _=>?_))
 | refine WL_nil ?_
 | refine tn ?_
 | refine bn ?_
 | refine W_skip ?_
 | refine W_block ?_
 | refine W_ret ?_
 | (refine idR ?_;refine ret1 rfl rfl rfl ?_)
 | (refine idW ?_;refine W_draw0 rfl ?_)
 | (apply d1 (hd:=rfl);case hop=>first|(apply D_move;rfl)|(apply D_assign;rfl)|exact D_nilE rfl|(apply D_pc jn;rfl;exact .same rfl (.same rfl (.same rfl .nil)))|(apply D_load1;rfl)|(apply D_fld;rfl)|(apply D_box;rfl;rfl)|exact D_build rfl)
 | (refine WD_nil (by first|decide +kernel|kernel_rfl|rfl) ?_)
        all_goals first|exact Le.of_eq rfl|rfl|contradiction|(exfalso;omega)|skip
end Go.Proofs
