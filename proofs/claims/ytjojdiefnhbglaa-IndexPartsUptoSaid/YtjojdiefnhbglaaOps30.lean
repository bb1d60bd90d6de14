/- Rules of the abstract logic: immutable pointers held against nil. No condition. -/
import Derived.Test.YtjojdiefnhbglaaOps17
import Derived.Test.YtjojdiefnhbglaaOps5
import Derived.Lib.BytesEntry
import Derived.Test.YtjojdiefnhbglaaEC1
namespace Go.AL
section
variable {P : Program} [GlobF P] {ty : TypeId} {pos : String} {af : Array Edge} {dst : Option Nat} {gd : Option (Nat × Bool)} {ρ : Operand → Option AV}
theorem run_neq_ptr_nil {P0 : Program} {t te : TypeId} (hu : P0.underlying t = some (.pointer te)) (a : Option Addr) (w : World) : (binOp .neq t (.pointer a) (.pointer none)).run P0 w = .ok (.bool (!a.isNone)) w := by
  have h : ∀ d : Nat, (Op.equalIn (d + 1) t (.pointer a) (.pointer none)).run P0 w = .ok a.isNone w := fun d => by
    cases a <;> simp [Op.equalIn, run_underlying hu]
  simp only [binOp]
  simp [Op.equal, Op.maxDepth, h 9999]
theorem D_pnN {t te t' : TypeId} {x y : Operand} [hu : Und P t (.pointer te)] (hx : ρ x = some (.sc (.pointer none))) (hy : ρ y = some (.sc (.pointer none))) :
    PPOp P { dst := dst, op := .binOp .neq t x y t', type := ty, pos := pos, after := af, guard := gd } ρ (.sc (.bool false)) :=
  PPOp.val (by simp) (fun B G act w hR E => ⟨.bool false, exec_bin _ (by
    rw [conc_sc (E _ (by first | exact List.Mem.head _ | exact List.Mem.tail _ (List.Mem.head _)) _ hx), conc_sc (E _ (by first | exact List.Mem.tail _ (List.Mem.head _) | exact List.Mem.head _) _ hy), Sem.run_bind, show (eqGuard .neq t x y (.pointer none) (.pointer none)).run P w = .ok () w from rfl]
    exact run_neq_ptr_nil hu.h none w), .sc _⟩)
theorem D_peE {t te t' : TypeId} {x y : Operand} {cs : List AV} [hu : Und P t (.pointer te)] (hx : ρ x = some (.ep cs)) (hy : ρ y = some (.sc (.pointer none))) :
    PPOp P { dst := dst, op := .binOp .eql t x y t', type := ty, pos := pos, after := af, guard := gd } ρ (.sc (.bool false)) :=
  PPOp.val (by simp) (fun B G act w hR E => by
    have ex := E _ (by first | exact List.Mem.head _ | exact List.Mem.tail _ (List.Mem.head _)) _ hx
    have ey := conc_sc (E _ (by first | exact List.Mem.tail _ (List.Mem.head _) | exact List.Mem.head _) _ hy)
    generalize hv : act.eval x = v at ex
    cases ex with
    | @ep b o _ us him hc =>
      exact ⟨.bool false, exec_bin _ (by
        rw [hv, ey, Sem.run_bind, show (eqGuard .eql t x y (.pointer (some ⟨b, o, none⟩)) (.pointer none)).run P w = .ok () w from rfl]
        exact run_eql_ptr_nil hu.h (some ⟨b, o, none⟩) w), .sc _⟩)
theorem D_pnE {t te t' : TypeId} {x y : Operand} {cs : List AV} [hu : Und P t (.pointer te)] (hx : ρ x = some (.ep cs)) (hy : ρ y = some (.sc (.pointer none))) :
    PPOp P { dst := dst, op := .binOp .neq t x y t', type := ty, pos := pos, after := af, guard := gd } ρ (.sc (.bool true)) :=
  PPOp.val (by simp) (fun B G act w hR E => by
    have ex := E _ (by first | exact List.Mem.head _ | exact List.Mem.tail _ (List.Mem.head _)) _ hx
    have ey := conc_sc (E _ (by first | exact List.Mem.tail _ (List.Mem.head _) | exact List.Mem.head _) _ hy)
    generalize hv : act.eval x = v at ex
    cases ex with
    | @ep b o _ us him hc =>
      exact ⟨.bool true, exec_bin _ (by
        rw [hv, ey, Sem.run_bind, show (eqGuard .neq t x y (.pointer (some ⟨b, o, none⟩)) (.pointer none)).run P w = .ok () w from rfl]
        exact run_neq_ptr_nil hu.h (some ⟨b, o, none⟩) w), .sc _⟩)
theorem fillO_cons {pl : Nat → Option (Nat × Nat)} {acc cs els : List AV} {i off size : Nat} {x : Operand} {v : AV} {l : List (Nat × Operand)} (hp : pl i = some (off, size)) (hx : ρ x = some v) (hc : cellsO v = some cs) (hb : (Nat.beq cs.length size && Nat.ble (off + size) acc.length) = true)
    (h : fillO ρ pl (acc.take off ++ cs ++ acc.drop (off + size)) l = some els) : fillO ρ pl acc ((i, x) :: l) = some els := by
  simp only [fillO, hp, hx, hc, hb]; exact h
theorem bytesOf_nums (l : List UInt8) : Lib.bytesOf (l.map fun b => (b.toNat : Int)) = l := by
  unfold Lib.bytesOf
  rw [List.map_map]
  conv => rhs; rw [← List.map_id l]
  refine List.map_congr_left fun b _ => ?_
  simp
theorem run_bytesOf {B : Base P} {G : Gh} {hp : List AObj} {w : World} (hR : RH B G hp w) {v : Value} {tok : Option Nat} {l : List UInt8} (hv : Conc G v (.sl tok 1 (l.map byteC))) : (Extern.Bytes.bytesOf v).run P w = .ok ⟨l.toArray⟩ w := by
  generalize hels : List.map byteC l = els at hv
  cases hv with
  | @sl b o cap _ _ _ us hk hcap him hc ht =>
    subst hels
    have := Lib.run_loadBytesX (P := P) w (l.map fun b => (b.toNat : Int)) ⟨b, o, none⟩ .empty (fun j x hj => by
      have hjl : j < l.length := by have := (List.getElem?_eq_some_iff.1 hj).1; simpa using this
      have h1 := hR.imm _ _ _ (him j 0 (by simpa using hjl) (by omega))
      have h2 := hc j (byteC l[j]) 0 _ (by simp [hjl]) rfl
      rw [conc_sc h2] at h1
      rw [add_none]
      rw [List.getElem?_map, List.getElem?_eq_getElem hjl] at hj
      simp only [Option.map_some, Option.some.injEq] at hj
      subst hj
      simpa using h1)
    rw [List.length_map] at this
    show (Extern.Bytes.loadBytes ⟨b, o, none⟩ (l.map byteC).length .empty).run P w = _
    rw [List.length_map, this, bytesOf_nums]
    congr 1
    apply ByteArray.ext
    simp
  | slnil ht =>
    have : l = [] := by simpa using hels
    subst this; rfl
  | @slz a0 k =>
    have : l = [] := by simpa using hels
    subst this; rfl
theorem D_xcmpB {x y z : Operand} {ts : Array TypeId} {f : FuncId} {a b : List UInt8} {tok tok' : Option Nat} [hx : Xt P f Extern.BytealgCompare.compare] (hz : ρ z = some (.sc (.func (.func f) #[] #[]))) (h1 : ρ x = some (.sl tok 1 (a.map byteC))) (h2 : ρ y = some (.sl tok' 1 (b.map byteC))) :
    PPOp P { dst := dst, op := .call { callee := .value z, args := #[x, y], argTypes := ts }, type := ty, pos := pos, after := af, guard := gd } ρ (.sc (.int .i64 (Lib.compareBytes a b))) :=
  PPOp.val (by simp) (fun B G act w hR E => ⟨.int .i64 (Lib.compareBytes a b), by
    have e0 := conc_sc (E z (by simp [Op.operands, Call.operands]) _ hz)
    have e1 := run_bytesOf hR (E x (by simp [Op.operands, Call.operands]) _ h1)
    have e2 := run_bytesOf hR (E y (by simp [Op.operands, Call.operands]) _ h2)
    have := exec_call (P0 := P) (ty := ty) (pos := pos) (af := af) (args := [x, y]) (ts := ts) (dst := dst) (g := gd) (fs := []) (cs := []) (w := w) act.eval e0
    rw [show (#[x, y] : Array Operand) = [x, y].toArray from rfl, this, hx.h]
    simp only [List.map_cons, List.map_nil, List.nil_append, List.append_nil]
    have key : (Extern.BytealgCompare.compare #[act.eval x, act.eval y]).run P w = .ok (.int .i64 (Lib.compareBytes a b)) w := by
      change Sem.run P (do pure (goInt (Extern.BytealgCompare.cmp (← Extern.Bytes.bytesOf (act.eval x)) (← Extern.Bytes.bytesOf (act.eval y))))) w = _
      simp only [Sem.run_bind, e1, e2, Result.andThen, Sem.run_pure]
      rw [Lib.cmp_eq]; rfl
    rw [show #[act.eval x, act.eval y] = [act.eval x, act.eval y].toArray from rfl] at key
    rw [key]; rfl, .sc _⟩)
end
end Go.AL

namespace Go.Proofs
open Go.AL Go.Sort
attribute [local irreducible] Go.AL.W Go.AL.WL Go.AL.WD Go.AL.POp Go.AL.PPOp Go.AL.POpS Go.AL.PC Go.AL.AC Go.AL.YW Go.AL.Ret Go.AL.Le Go.AL.thn Go.AL.inBlk Go.AL.scp
inductive Tr where
  | no : Tr
  | nd (k v : List UInt8) (l r : Tr) (d m : Int) : Tr
abbrev bsA (b : List UInt8) : AV := .sl none 1 (b.map byteC)
def tA : Tr → AV
  | .no => .sc (.pointer none)
  | .nd k v l r d m => .ep [bsA k, bsA v, tA l, tA r, .sc (.int .i64 d), .sc (.int .i64 m)]
theorem pur_tA : ∀ t : Tr, Pur (tA t)
  | .no => by unfold tA; infer_instance
  | .nd k v l r d m => by
    have h1 := pur_tA l
    have h2 := pur_tA r
    unfold tA
    infer_instance
instance (t : Tr) : Pur (tA t) := pur_tA t
theorem tA_no : tA .no = .sc (.pointer none) := by rw [tA]
theorem tA_nd (k v : List UInt8) (l r : Tr) (d m : Int) : tA (.nd k v l r d m) = .ep [bsA k, bsA v, tA l, tA r, .sc (.int .i64 d), .sc (.int .i64 m)] := by rw [tA]
theorem cells_tA (t : Tr) : cellsO (tA t) = some [tA t] := by
  cases t with
  | no => rw [tA_no]; rfl
  | nd k v l r d m => rw [tA_nd]; rfl
def deepT : Tr → Int
  | .no => 0
  | .nd _ _ _ _ d _ => d
def manyT : Tr → Int
  | .no => 0
  | .nd _ _ _ _ _ m => m
set_option maxHeartbeats 4000000 in
theorem deep_pc [GlobF Try.prog] (t : Tr) : PC Try.prog 134 [tA t] (.sc (.int .i64 (deepT t))) := by
  cases t with
  | no =>
    rw [tA_no]
    refine PC.of_body Try.func134 Try.ntmps134 rfl rfl rfl ?_
    repeat' first
      | (apply p1 (hd := rfl); case hop => first | (apply D_move; rfl) | (apply D_assign; rfl) | exact D_peN rfl rfl | (apply D_load1; rfl) | (apply D_fld; rfl) | (apply D_loadW; rfl; rfl) | (apply D_loadA; rfl; rfl) | exact D_fldB rfl | (apply D_nilB; rfl) | (apply D_nilE; rfl))
      | refine W_seq ?_
      | refine W_region ?_
      | (refine idC ?_; first | refine c1 rfl ?_ | refine c0 rfl ?_ | refine cs rfl (fun _ => ?_) (fun _ => ?_))
      | refine WL_nil ?_
      | refine tn ?_
      | refine tr ?_
      | refine br ?_
      | refine bn ?_
      | refine te ?_
      | (refine idB ?_; first | refine bh rfl ?_ | refine bm rfl ?_)
      | refine W_skip ?_
      | refine W_block ?_
      | refine W_exit ?_
      | refine W_ret ?_
      | refine W_label ?_
      | refine W_scope ?_
      | refine sn ?_
      | refine sr ?_
      | refine se ?_
      | (refine idR ?_; first | refine ret1 rfl rfl rfl ?_ | refine rL1 rfl (by first | exact trivial | exact ⟨rfl, trivial⟩) (by first | exact ResO.tmp rfl | exact ResO.cellBA rfl rfl rfl | exact ResO.cellB1 rfl rfl rfl | exact ResO.cellEA rfl rfl | exact ResO.cellE1 rfl) ?_)
      | (refine idLd ?_; first | refine p1L (D_loadB1 rfl rfl rfl) rfl ?_ | refine p1L (D_loadBA rfl rfl rfl) rfl ?_ | refine p1L (D_loadB1 rfl (by (repeat first | assumption | exact get_last | (refine get_last2 ?_; focus (simp; done)) | apply get_set | apply get_app | (apply get_ne; focus omega) | (apply get_ne; focus (simp only [List.length_set, List.length_append, List.length_cons, List.length_nil]; omega))); done) (by rfl)) rfl ?_ | refine p1L (D_loadBA rfl (by (repeat first | assumption | exact get_last | (refine get_last2 ?_; focus (simp; done)) | apply get_set | apply get_app | (apply get_ne; focus omega) | (apply get_ne; focus (simp only [List.length_set, List.length_append, List.length_cons, List.length_nil]; omega))); done) (by rfl)) rfl ?_)
      | refine Le.bool ?_
      | refine Le.int ?_
      | refine Le.str ?_
    all_goals first | rfl | contradiction | skip
    all_goals trace_state
  | nd k v l r d m =>
    rw [tA_nd]
    refine PC.of_body Try.func134 Try.ntmps134 rfl rfl rfl ?_
    repeat' first
      | (apply p1 (hd := rfl); case hop => first | (apply D_move; rfl) | (apply D_assign; rfl) | exact D_peE rfl rfl | exact D_nilE rfl | (apply D_load1; rfl) | (apply D_fld; rfl) | (apply D_loadW; rfl; rfl) | (apply D_loadA; rfl; rfl) | exact D_fldB rfl | (apply D_nilB; rfl) | (apply D_nilE; rfl))
      | refine W_seq ?_
      | refine W_region ?_
      | (refine idC ?_; first | refine c1 rfl ?_ | refine c0 rfl ?_ | refine cs rfl (fun _ => ?_) (fun _ => ?_))
      | refine WL_nil ?_
      | refine tn ?_
      | refine tr ?_
      | refine br ?_
      | refine bn ?_
      | refine te ?_
      | (refine idB ?_; first | refine bh rfl ?_ | refine bm rfl ?_)
      | refine W_skip ?_
      | refine W_block ?_
      | refine W_exit ?_
      | refine W_ret ?_
      | refine W_label ?_
      | refine W_scope ?_
      | refine sn ?_
      | refine sr ?_
      | refine se ?_
      | (refine idR ?_; first | refine ret1 rfl rfl rfl ?_ | refine rL1 rfl (by first | exact trivial | exact ⟨rfl, trivial⟩) (by first | exact ResO.tmp rfl | exact ResO.cellBA rfl rfl rfl | exact ResO.cellB1 rfl rfl rfl | exact ResO.cellEA rfl rfl | exact ResO.cellE1 rfl) ?_)
      | (refine idLd ?_; first | refine p1L (D_loadB1 rfl rfl rfl) rfl ?_ | refine p1L (D_loadBA rfl rfl rfl) rfl ?_ | refine p1L (D_loadB1 rfl (by (repeat first | assumption | exact get_last | (refine get_last2 ?_; focus (simp; done)) | apply get_set | apply get_app | (apply get_ne; focus omega) | (apply get_ne; focus (simp only [List.length_set, List.length_append, List.length_cons, List.length_nil]; omega))); done) (by rfl)) rfl ?_ | refine p1L (D_loadBA rfl (by (repeat first | assumption | exact get_last | (refine get_last2 ?_; focus (simp; done)) | apply get_set | apply get_app | (apply get_ne; focus omega) | (apply get_ne; focus (simp only [List.length_set, List.length_append, List.length_cons, List.length_nil]; omega))); done) (by rfl)) rfl ?_)
      | refine Le.bool ?_
      | refine Le.int ?_
      | refine Le.str ?_
    all_goals first | rfl | contradiction | skip
    all_goals trace_state
set_option maxHeartbeats 4000000 in
theorem many_pc [GlobF Try.prog] (t : Tr) : PC Try.prog 62 [tA t] (.sc (.int .i64 (manyT t))) := by
  cases t with
  | no =>
    rw [tA_no]
    refine PC.of_body Try.func62 Try.ntmps62 rfl rfl rfl ?_
    repeat' first
      | (apply p1 (hd := rfl); case hop => first | (apply D_move; rfl) | (apply D_assign; rfl) | exact D_peN rfl rfl | (apply D_load1; rfl) | (apply D_fld; rfl) | (apply D_loadW; rfl; rfl) | (apply D_loadA; rfl; rfl) | exact D_fldB rfl | (apply D_nilB; rfl) | (apply D_nilE; rfl))
      | refine W_seq ?_
      | refine W_region ?_
      | (refine idC ?_; first | refine c1 rfl ?_ | refine c0 rfl ?_ | refine cs rfl (fun _ => ?_) (fun _ => ?_))
      | refine WL_nil ?_
      | refine tn ?_
      | refine tr ?_
      | refine br ?_
      | refine bn ?_
      | refine te ?_
      | (refine idB ?_; first | refine bh rfl ?_ | refine bm rfl ?_)
      | refine W_skip ?_
      | refine W_block ?_
      | refine W_exit ?_
      | refine W_ret ?_
      | refine W_label ?_
      | refine W_scope ?_
      | refine sn ?_
      | refine sr ?_
      | refine se ?_
      | (refine idR ?_; first | refine ret1 rfl rfl rfl ?_ | refine rL1 rfl (by first | exact trivial | exact ⟨rfl, trivial⟩) (by first | exact ResO.tmp rfl | exact ResO.cellBA rfl rfl rfl | exact ResO.cellB1 rfl rfl rfl | exact ResO.cellEA rfl rfl | exact ResO.cellE1 rfl) ?_)
      | (refine idLd ?_; first | refine p1L (D_loadB1 rfl rfl rfl) rfl ?_ | refine p1L (D_loadBA rfl rfl rfl) rfl ?_ | refine p1L (D_loadB1 rfl (by (repeat first | assumption | exact get_last | (refine get_last2 ?_; focus (simp; done)) | apply get_set | apply get_app | (apply get_ne; focus omega) | (apply get_ne; focus (simp only [List.length_set, List.length_append, List.length_cons, List.length_nil]; omega))); done) (by rfl)) rfl ?_ | refine p1L (D_loadBA rfl (by (repeat first | assumption | exact get_last | (refine get_last2 ?_; focus (simp; done)) | apply get_set | apply get_app | (apply get_ne; focus omega) | (apply get_ne; focus (simp only [List.length_set, List.length_append, List.length_cons, List.length_nil]; omega))); done) (by rfl)) rfl ?_)
      | refine Le.bool ?_
      | refine Le.int ?_
      | refine Le.str ?_
    all_goals first | rfl | contradiction | skip
    all_goals trace_state
  | nd k v l r d m =>
    rw [tA_nd]
    refine PC.of_body Try.func62 Try.ntmps62 rfl rfl rfl ?_
    repeat' first
      | (apply p1 (hd := rfl); case hop => first | (apply D_move; rfl) | (apply D_assign; rfl) | exact D_peE rfl rfl | exact D_nilE rfl | (apply D_load1; rfl) | (apply D_fld; rfl) | (apply D_loadW; rfl; rfl) | (apply D_loadA; rfl; rfl) | exact D_fldB rfl | (apply D_nilB; rfl) | (apply D_nilE; rfl))
      | refine W_seq ?_
      | refine W_region ?_
      | (refine idC ?_; first | refine c1 rfl ?_ | refine c0 rfl ?_ | refine cs rfl (fun _ => ?_) (fun _ => ?_))
      | refine WL_nil ?_
      | refine tn ?_
      | refine tr ?_
      | refine br ?_
      | refine bn ?_
      | refine te ?_
      | (refine idB ?_; first | refine bh rfl ?_ | refine bm rfl ?_)
      | refine W_skip ?_
      | refine W_block ?_
      | refine W_exit ?_
      | refine W_ret ?_
      | refine W_label ?_
      | refine W_scope ?_
      | refine sn ?_
      | refine sr ?_
      | refine se ?_
      | (refine idR ?_; first | refine ret1 rfl rfl rfl ?_ | refine rL1 rfl (by first | exact trivial | exact ⟨rfl, trivial⟩) (by first | exact ResO.tmp rfl | exact ResO.cellBA rfl rfl rfl | exact ResO.cellB1 rfl rfl rfl | exact ResO.cellEA rfl rfl | exact ResO.cellE1 rfl) ?_)
      | (refine idLd ?_; first | refine p1L (D_loadB1 rfl rfl rfl) rfl ?_ | refine p1L (D_loadBA rfl rfl rfl) rfl ?_ | refine p1L (D_loadB1 rfl (by (repeat first | assumption | exact get_last | (refine get_last2 ?_; focus (simp; done)) | apply get_set | apply get_app | (apply get_ne; focus omega) | (apply get_ne; focus (simp only [List.length_set, List.length_append, List.length_cons, List.length_nil]; omega))); done) (by rfl)) rfl ?_ | refine p1L (D_loadBA rfl (by (repeat first | assumption | exact get_last | (refine get_last2 ?_; focus (simp; done)) | apply get_set | apply get_app | (apply get_ne; focus omega) | (apply get_ne; focus (simp only [List.length_set, List.length_append, List.length_cons, List.length_nil]; omega))); done) (by rfl)) rfl ?_)
      | refine Le.bool ?_
      | refine Le.int ?_
      | refine Le.str ?_
    all_goals first | rfl | contradiction | skip
    all_goals trace_state
def joinT (k v : List UInt8) (l r : Tr) : Tr := .nd k v l r (IntKind.i64.wrap (1 + max (deepT l) (deepT r))) (IntKind.i64.wrap (IntKind.i64.wrap (1 + manyT l) + manyT r))
set_option maxHeartbeats 4000000 in
theorem join_pc [GlobF Try.prog] (k v : List UInt8) (a b : Tr) (d m : Int) (l r : Tr) : PC Try.prog 98 [tA (.nd k v a b d m), tA l, tA r] (tA (joinT k v l r)) := by
  rw [tA_nd]
  unfold joinT
  rw [tA_nd]
  refine PC.of_body Try.func98 Try.ntmps98 rfl rfl rfl ?_
  repeat' first
    | (apply p1 (hd := rfl); case hop => first | (apply D_move; rfl) | (apply D_assign; rfl) | exact D_build (fillO_cons rfl rfl rfl rfl (fillO_cons rfl rfl rfl rfl (fillO_cons rfl rfl (cells_tA l) rfl (fillO_cons rfl rfl (cells_tA r) rfl (fillO_cons rfl rfl rfl rfl (fillO_cons rfl rfl rfl rfl rfl)))))) | exact D_nilE rfl | exact D_max rfl rfl | (apply D_pc (deep_pc l); rfl; exact .same rfl .nil) | (apply D_pc (deep_pc r); rfl; exact .same rfl .nil) | (apply D_pc (many_pc l); rfl; exact .same rfl .nil) | (apply D_pc (many_pc r); rfl; exact .same rfl .nil) | (apply D_load1; rfl) | (apply D_fld; rfl) | (apply D_int; rfl; rfl; rfl) | (apply D_loadW; rfl; rfl) | (apply D_loadA; rfl; rfl) | (apply D_box; rfl; rfl) | exact D_build rfl | exact D_buildA rfl | exact D_fldB rfl | (apply D_nilB; rfl) | (apply D_nilE; rfl))
    | refine W_seq ?_
    | refine W_region ?_
    | refine WL_nil ?_
    | refine tn ?_
    | refine tr ?_
    | refine br ?_
    | refine bn ?_
    | refine te ?_
    | (refine idB ?_; first | refine bh rfl ?_ | refine bm rfl ?_)
    | refine W_skip ?_
    | refine W_block ?_
    | refine W_exit ?_
    | refine W_ret ?_
    | refine W_label ?_
    | refine W_scope ?_
    | refine sn ?_
    | refine sr ?_
    | refine se ?_
    | (refine idR ?_; first | refine ret1 rfl rfl rfl ?_ | refine rL1 rfl (by first | exact trivial | exact ⟨rfl, trivial⟩) (by first | exact ResO.tmp rfl | exact ResO.cellBA rfl rfl rfl | exact ResO.cellB1 rfl rfl rfl | exact ResO.cellEA rfl rfl | exact ResO.cellE1 rfl) ?_)
    | (refine idLd ?_; first | refine p1L (D_loadB1 rfl rfl rfl) rfl ?_ | refine p1L (D_loadBA rfl rfl rfl) rfl ?_ | refine p1L (D_loadB1 rfl (by (repeat first | assumption | exact get_last | (refine get_last2 ?_; focus (simp; done)) | apply get_set | apply get_app | (apply get_ne; focus omega) | (apply get_ne; focus (simp only [List.length_set, List.length_append, List.length_cons, List.length_nil]; omega))); done) (by rfl)) rfl ?_ | refine p1L (D_loadBA rfl (by (repeat first | assumption | exact get_last | (refine get_last2 ?_; focus (simp; done)) | apply get_set | apply get_app | (apply get_ne; focus omega) | (apply get_ne; focus (simp only [List.length_set, List.length_append, List.length_cons, List.length_nil]; omega))); done) (by rfl)) rfl ?_)
    | refine Le.bool ?_
    | refine Le.int ?_
    | refine Le.str ?_
    | (refine idW ?_; first | refine W_draw0 rfl ?_ | refine W_draw1 rfl ?_ | refine W_draw2 rfl ?_ | refine W_draw3 rfl ?_)
    | (apply d1 (hd := rfl); case hop => first | (apply D_move; rfl) | (apply D_assign; rfl) | exact D_build (fillO_cons rfl rfl rfl rfl (fillO_cons rfl rfl rfl rfl (fillO_cons rfl rfl (cells_tA l) rfl (fillO_cons rfl rfl (cells_tA r) rfl (fillO_cons rfl rfl rfl rfl (fillO_cons rfl rfl rfl rfl rfl)))))) | exact D_nilE rfl | exact D_max rfl rfl | (apply D_pc (deep_pc l); rfl; exact .same rfl .nil) | (apply D_pc (deep_pc r); rfl; exact .same rfl .nil) | (apply D_pc (many_pc l); rfl; exact .same rfl .nil) | (apply D_pc (many_pc r); rfl; exact .same rfl .nil) | (apply D_load1; rfl) | (apply D_fld; rfl) | (apply D_int; rfl; rfl; rfl) | (apply D_loadW; rfl; rfl) | (apply D_loadA; rfl; rfl) | (apply D_box; rfl; rfl) | exact D_build rfl | exact D_buildA rfl | exact D_fldB rfl | (apply D_nilB; rfl) | (apply D_nilE; rfl))
    | (refine idDn ?_; first | refine dL _ (fun hp' hs => D_loadB1 rfl (hs.trans rfl) rfl) rfl ?_ | refine dL _ (fun hp' hs => D_loadBA rfl (hs.trans rfl) rfl) rfl ?_ | refine dS (S_store rfl rfl rfl rfl rfl rfl rfl) rfl ?_ | refine dV (S_alloc 0 rfl) rfl rfl ?_ | refine dV (S_alloc 1 rfl) rfl rfl ?_ | refine dV (S_alloc 2 rfl) rfl rfl ?_ | refine dV (S_alloc 3 rfl) rfl rfl ?_ | refine dV (S_alloc 4 rfl) rfl rfl ?_ | refine dV (S_alloc 5 rfl) rfl rfl ?_ | refine dV (S_alloc 6 rfl) rfl rfl ?_ | refine dV (S_alloc 7 rfl) rfl rfl ?_)
    | refine WD_nil (by first | decide +kernel | kernel_rfl | rfl) ?_
  all_goals first | exact Le.of_eq rfl | rfl | contradiction | skip
  all_goals trace_state
end Go.Proofs

namespace Go.Proofs
open Go.AL Go.Sort
attribute [local irreducible] Go.AL.W Go.AL.WL Go.AL.WD Go.AL.POp Go.AL.PPOp Go.AL.POpS Go.AL.PC Go.AL.AC Go.AL.YW Go.AL.Ret Go.AL.Le Go.AL.thn Go.AL.inBlk Go.AL.scp
def levelT (k v : List UInt8) (l r : Tr) : Tr :=
  if deepT r + 1 < deepT l then
    match l with
    | .no => .no
    | .nd lk lv ll lr _ _ => if deepT lr ≤ deepT ll then joinT lk lv ll (joinT k v lr r) else
      match lr with
      | .no => .no
      | .nd ak av al ar _ _ => joinT ak av (joinT lk lv ll al) (joinT k v ar r)
  else if deepT l + 1 < deepT r then
    match r with
    | .no => .no
    | .nd rk rv rl rr _ _ => if deepT rl ≤ deepT rr then joinT rk rv (joinT k v l rl) rr else
      match rl with
      | .no => .no
      | .nd ak av al ar _ _ => joinT ak av (joinT k v l al) (joinT rk rv ar rr)
  else joinT k v l r
def dOk : Tr → Prop
  | .no => True
  | .nd _ _ l r d _ => 1 ≤ d ∧ d ≤ 1152921504606846976 ∧ dOk l ∧ dOk r
theorem dOk_rg {t : Tr} (h : dOk t) : 0 ≤ deepT t ∧ deepT t ≤ 1152921504606846976 := by
  cases t with
  | no => exact ⟨Int.le_refl _, by decide⟩
  | nd k v l r d m => unfold dOk at h; exact ⟨by show 0 ≤ d; omega, h.2.1⟩
theorem dOk_nd {t : Tr} (h : 0 < deepT t) : ∃ k v l r d m, t = .nd k v l r d m := by
  cases t with
  | no => exact absurd h (by decide)
  | nd k v l r d m => exact ⟨k, v, l, r, d, m, rfl⟩
theorem level_1 {k v lk lv : List UInt8} {ll lr r : Tr} {ld lm : Int} (h1 : deepT r + 1 < deepT (.nd lk lv ll lr ld lm)) (h2 : deepT lr ≤ deepT ll) : levelT k v (.nd lk lv ll lr ld lm) r = joinT lk lv ll (joinT k v lr r) := by
  simp only [levelT, if_pos h1, if_pos h2]
theorem level_2 {k v lk lv ak av : List UInt8} {ll al ar r : Tr} {ld lm ad am : Int} (h1 : deepT r + 1 < deepT (.nd lk lv ll (.nd ak av al ar ad am) ld lm)) (h2 : ¬ deepT (.nd ak av al ar ad am) ≤ deepT ll) : levelT k v (.nd lk lv ll (.nd ak av al ar ad am) ld lm) r = joinT ak av (joinT lk lv ll al) (joinT k v ar r) := by
  simp only [levelT, if_pos h1, if_neg h2]
theorem level_3 {k v rk rv : List UInt8} {rl rr l : Tr} {rd rm : Int} (h0 : ¬ deepT (.nd rk rv rl rr rd rm) + 1 < deepT l) (h1 : deepT l + 1 < deepT (.nd rk rv rl rr rd rm)) (h2 : deepT rl ≤ deepT rr) : levelT k v l (.nd rk rv rl rr rd rm) = joinT rk rv (joinT k v l rl) rr := by
  simp only [levelT, if_neg h0, if_pos h1, if_pos h2]
theorem level_4 {k v rk rv ak av : List UInt8} {rr al ar l : Tr} {rd rm ad am : Int} (h0 : ¬ deepT (.nd rk rv (.nd ak av al ar ad am) rr rd rm) + 1 < deepT l) (h1 : deepT l + 1 < deepT (.nd rk rv (.nd ak av al ar ad am) rr rd rm)) (h2 : ¬ deepT (.nd ak av al ar ad am) ≤ deepT rr) : levelT k v l (.nd rk rv (.nd ak av al ar ad am) rr rd rm) = joinT ak av (joinT k v l al) (joinT rk rv ar rr) := by
  simp only [levelT, if_neg h0, if_pos h1, if_neg h2]
theorem level_5 {k v : List UInt8} {l r : Tr} (h0 : ¬ deepT r + 1 < deepT l) (h1 : ¬ deepT l + 1 < deepT r) : levelT k v l r = joinT k v l r := by
  simp only [levelT, if_neg h0, if_neg h1]
set_option maxHeartbeats 16000000 in
theorem level_pc [GlobF Try.prog] (k v : List UInt8) (a b : Tr) (d m : Int) (l r : Tr) (hl : dOk l) (hr : dOk r) : PC Try.prog 97 [tA (.nd k v a b d m), tA l, tA r] (tA (levelT k v l r)) := by
  obtain ⟨l1, l2⟩ := dOk_rg hl
  obtain ⟨r1, r2⟩ := dOk_rg hr
  have wr : Value.int .i64 (IntKind.i64.wrap (deepT r + 1)) = .int .i64 (deepT r + 1) := by rw [w64 _ (by omega) (by omega)]
  have wl : Value.int .i64 (IntKind.i64.wrap (deepT l + 1)) = .int .i64 (deepT l + 1) := by rw [w64 _ (by omega) (by omega)]
  have dl := deep_pc l
  have dr := deep_pc r
  by_cases c1 : deepT r + 1 < deepT l
  · have e1 : Value.bool (iLt (deepT r + 1) (deepT l)) = .bool true := by rw [(iLt_t _ _).mpr c1]
    have e0 := e1
    obtain ⟨lk, lv, ll, lr, ld, lm, rfl⟩ := dOk_nd (t := l) (by omega)
    have hl' := hl
    unfold dOk at hl'
    obtain ⟨_, _, hll, hlr⟩ := hl'
    by_cases c2 : deepT lr ≤ deepT ll
    · rw [level_1 c1 c2]
      have dx := deep_pc ll
      have dy := deep_pc lr
      have e2 : Value.bool (iLe (deepT lr) (deepT ll)) = .bool true := by rw [(iLe_t _ _).mpr c2]
      have j1 := join_pc k v a b d m lr r
      have j2 := join_pc lk lv ll lr ld lm ll (joinT k v lr r)
      generalize joinT k v lr r = X at *
      generalize joinT lk lv ll X = Y at *
      rw [tA_nd] at dl j1 j2 ⊢
      rw [tA_nd]
      refine PC.of_body Try.func97 Try.ntmps97 rfl rfl rfl ?_
      repeat' first
        | (apply p1 (hd := rfl); case hop => first | (apply D_move; rfl) | (apply D_assign; rfl) | (apply D_pc dl; rfl; exact .same rfl .nil) | (apply D_pc dr; rfl; exact .same rfl .nil) | exact D_sc (D_int rfl rfl rfl) wr | exact D_sc (D_int rfl rfl rfl) wl | exact D_sc (D_int rfl rfl rfl) e0 | (apply D_int; rfl; rfl; rfl))
        | refine W_seq ?_
        | refine W_region ?_
        | (refine idC ?_; first | refine c0 rfl ?_ | refine cs rfl (fun _ => ?_) (fun _ => ?_))
        | refine WL_nil ?_
        | refine tn ?_
        | refine tr ?_
        | refine br ?_
        | refine bn ?_
        | refine W_skip ?_
        | refine W_block ?_
        | refine W_ret ?_
        | (refine idR ?_; first | refine ret1 rfl rfl rfl ?_)
        | (refine idW ?_; first | refine W_draw0 rfl ?_)
        | (apply d1 (hd := rfl); case hop => first | (apply D_move; rfl) | (apply D_assign; rfl) | exact D_nilE rfl | (apply D_pc dl; rfl; exact .same rfl .nil) | (apply D_pc dr; rfl; exact .same rfl .nil) | (apply D_pc dx; rfl; exact .same rfl .nil) | (apply D_pc dy; rfl; exact .same rfl .nil) | exact D_sc (D_int rfl rfl rfl) wr | exact D_sc (D_int rfl rfl rfl) wl | exact D_sc (D_int rfl rfl rfl) e0 | exact D_sc (D_int rfl rfl rfl) e2 | (apply D_pc j1; rfl; exact .same rfl (.same rfl (.same rfl .nil))) | (apply D_pc j2; rfl; exact .same rfl (.same rfl (.same rfl .nil))) | (apply D_load1; rfl) | (apply D_fld; rfl) | (apply D_pickT; rfl; rfl) | (apply D_pickF; rfl; rfl) | (apply D_int; rfl; rfl; rfl))
        | (refine idDg ?_; first | refine dg0t rfl rfl rfl ?_ | refine dgr rfl rfl ?_ | refine dgs rfl rfl (fun _ => ?_) (fun _ => ?_))
        | refine WD_nil (by first | decide +kernel | kernel_rfl | rfl) ?_
      all_goals first | exact Le.of_eq rfl | rfl | contradiction | skip
    · obtain ⟨ll1, _⟩ := dOk_rg hll
      obtain ⟨ak, av, al, ar, ad, am, rfl⟩ := dOk_nd (t := lr) (by omega)
      rw [level_2 c1 c2]
      have dx := deep_pc ll
      have dy := deep_pc (.nd ak av al ar ad am)
      have e2 : Value.bool (iLe (deepT (.nd ak av al ar ad am)) (deepT ll)) = .bool false := by rw [(iLe_f _ _).mpr (by omega)]
      have j1 := join_pc lk lv ll (.nd ak av al ar ad am) ld lm ll al
      have j2 := join_pc k v a b d m ar r
      have j3 := join_pc ak av al ar ad am (joinT lk lv ll al) (joinT k v ar r)
      generalize joinT lk lv ll al = X at *
      generalize joinT k v ar r = Y at *
      generalize joinT ak av X Y = Z at *
      simp only [tA_nd] at dl dy j1 j2 j3 ⊢
      refine PC.of_body Try.func97 Try.ntmps97 rfl rfl rfl ?_
      repeat' first
        | (apply p1 (hd := rfl); case hop => first | (apply D_move; rfl) | (apply D_assign; rfl) | (apply D_pc dl; rfl; exact .same rfl .nil) | (apply D_pc dr; rfl; exact .same rfl .nil) | exact D_sc (D_int rfl rfl rfl) wr | exact D_sc (D_int rfl rfl rfl) wl | exact D_sc (D_int rfl rfl rfl) e0 | (apply D_int; rfl; rfl; rfl))
        | refine W_seq ?_
        | refine W_region ?_
        | (refine idC ?_; first | refine c0 rfl ?_ | refine cs rfl (fun _ => ?_) (fun _ => ?_))
        | refine WL_nil ?_
        | refine tn ?_
        | refine tr ?_
        | refine br ?_
        | refine bn ?_
        | refine W_skip ?_
        | refine W_block ?_
        | refine W_ret ?_
        | (refine idR ?_; first | refine ret1 rfl rfl rfl ?_)
        | (refine idW ?_; first | refine W_draw0 rfl ?_)
        | (apply d1 (hd := rfl); case hop => first | (apply D_move; rfl) | (apply D_assign; rfl) | exact D_nilE rfl | (apply D_pc dl; rfl; exact .same rfl .nil) | (apply D_pc dr; rfl; exact .same rfl .nil) | (apply D_pc dx; rfl; exact .same rfl .nil) | (apply D_pc dy; rfl; exact .same rfl .nil) | exact D_sc (D_int rfl rfl rfl) wr | exact D_sc (D_int rfl rfl rfl) wl | exact D_sc (D_int rfl rfl rfl) e0 | exact D_sc (D_int rfl rfl rfl) e2 | (apply D_pc j1; rfl; exact .same rfl (.same rfl (.same rfl .nil))) | (apply D_pc j2; rfl; exact .same rfl (.same rfl (.same rfl .nil))) | (apply D_pc j3; rfl; exact .same rfl (.same rfl (.same rfl .nil))) | (apply D_load1; rfl) | (apply D_fld; rfl) | (apply D_pickT; rfl; rfl) | (apply D_pickF; rfl; rfl) | (apply D_int; rfl; rfl; rfl))
        | (refine idDg ?_; first | refine dg0t rfl rfl rfl ?_ | refine dgr rfl rfl ?_ | refine dgs rfl rfl (fun _ => ?_) (fun _ => ?_))
        | refine WD_nil (by first | decide +kernel | kernel_rfl | rfl) ?_
      all_goals first | exact Le.of_eq rfl | rfl | contradiction | skip
  · have e0 : Value.bool (iLt (deepT r + 1) (deepT l)) = .bool false := by rw [(iLt_f _ _).mpr (by omega)]
    by_cases c3 : deepT l + 1 < deepT r
    · have e1 : Value.bool (iLt (deepT l + 1) (deepT r)) = .bool true := by rw [(iLt_t _ _).mpr c3]
      obtain ⟨rk, rv, rl, rr, rd, rm, rfl⟩ := dOk_nd (t := r) (by omega)
      have hr' := hr
      unfold dOk at hr'
      obtain ⟨_, _, hrl, hrr⟩ := hr'
      by_cases c2 : deepT rl ≤ deepT rr
      · rw [level_3 c1 c3 c2]
        have dx := deep_pc rl
        have dy := deep_pc rr
        have e2 : Value.bool (iLe (deepT rl) (deepT rr)) = .bool true := by rw [(iLe_t _ _).mpr c2]
        have j1 := join_pc k v a b d m l rl
        have j2 := join_pc rk rv rl rr rd rm (joinT k v l rl) rr
        generalize joinT k v l rl = X at *
        generalize joinT rk rv X rr = Y at *
        rw [tA_nd] at dr j1 j2
        simp only [tA_nd]
        refine PC.of_body Try.func97 Try.ntmps97 rfl rfl rfl ?_
        repeat' first
          | (apply p1 (hd := rfl); case hop => first | (apply D_move; rfl) | (apply D_assign; rfl) | (apply D_pc dl; rfl; exact .same rfl .nil) | (apply D_pc dr; rfl; exact .same rfl .nil) | exact D_sc (D_int rfl rfl rfl) wr | exact D_sc (D_int rfl rfl rfl) wl | exact D_sc (D_int rfl rfl rfl) e0 | exact D_sc (D_int rfl rfl rfl) e1)
          | refine W_seq ?_
          | refine W_region ?_
          | (refine idC ?_; first | refine c0 rfl ?_ | refine cs rfl (fun _ => ?_) (fun _ => ?_))
          | refine WL_nil ?_
          | refine tn ?_
          | refine tr ?_
          | refine br ?_
          | refine bn ?_
          | refine W_skip ?_
          | refine W_block ?_
          | refine W_ret ?_
          | (refine idR ?_; first | refine ret1 rfl rfl rfl ?_)
          | (refine idW ?_; first | refine W_draw0 rfl ?_)
          | (apply d1 (hd := rfl); case hop => first | (apply D_move; rfl) | (apply D_assign; rfl) | exact D_nilE rfl | (apply D_pc dl; rfl; exact .same rfl .nil) | (apply D_pc dr; rfl; exact .same rfl .nil) | (apply D_pc dx; rfl; exact .same rfl .nil) | (apply D_pc dy; rfl; exact .same rfl .nil) | exact D_sc (D_int rfl rfl rfl) wr | exact D_sc (D_int rfl rfl rfl) wl | exact D_sc (D_int rfl rfl rfl) e0 | exact D_sc (D_int rfl rfl rfl) e1 | exact D_sc (D_int rfl rfl rfl) e2 | (apply D_pc j1; rfl; exact .same rfl (.same rfl (.same rfl .nil))) | (apply D_pc j2; rfl; exact .same rfl (.same rfl (.same rfl .nil))) | (apply D_load1; rfl) | (apply D_fld; rfl) | (apply D_pickT; rfl; rfl) | (apply D_pickF; rfl; rfl))
          | (refine idDg ?_; first | refine dg0t rfl rfl rfl ?_ | refine dgr rfl rfl ?_)
          | refine WD_nil (by first | decide +kernel | kernel_rfl | rfl) ?_
        all_goals first | exact Le.of_eq rfl | rfl | contradiction | skip
      · obtain ⟨rr1, _⟩ := dOk_rg hrr
        obtain ⟨ak, av, al, ar, ad, am, rfl⟩ := dOk_nd (t := rl) (by omega)
        rw [level_4 c1 c3 c2]
        have dx := deep_pc rr
        have dy := deep_pc (.nd ak av al ar ad am)
        have e2 : Value.bool (iLe (deepT (.nd ak av al ar ad am)) (deepT rr)) = .bool false := by rw [(iLe_f _ _).mpr (by omega)]
        have j1 := join_pc k v a b d m l al
        have j2 := join_pc rk rv (.nd ak av al ar ad am) rr rd rm ar rr
        have j3 := join_pc ak av al ar ad am (joinT k v l al) (joinT rk rv ar rr)
        generalize joinT k v l al = X at *
        generalize joinT rk rv ar rr = Y at *
        generalize joinT ak av X Y = Z at *
        simp only [tA_nd] at dr dy j1 j2 j3 ⊢
        refine PC.of_body Try.func97 Try.ntmps97 rfl rfl rfl ?_
        repeat' first
          | (apply p1 (hd := rfl); case hop => first | (apply D_move; rfl) | (apply D_assign; rfl) | (apply D_pc dl; rfl; exact .same rfl .nil) | (apply D_pc dr; rfl; exact .same rfl .nil) | exact D_sc (D_int rfl rfl rfl) wr | exact D_sc (D_int rfl rfl rfl) wl | exact D_sc (D_int rfl rfl rfl) e0 | exact D_sc (D_int rfl rfl rfl) e1)
          | refine W_seq ?_
          | refine W_region ?_
          | (refine idC ?_; first | refine c0 rfl ?_ | refine cs rfl (fun _ => ?_) (fun _ => ?_))
          | refine WL_nil ?_
          | refine tn ?_
          | refine tr ?_
          | refine br ?_
          | refine bn ?_
          | refine W_skip ?_
          | refine W_block ?_
          | refine W_ret ?_
          | (refine idR ?_; first | refine ret1 rfl rfl rfl ?_)
          | (refine idW ?_; first | refine W_draw0 rfl ?_)
          | (apply d1 (hd := rfl); case hop => first | (apply D_move; rfl) | (apply D_assign; rfl) | exact D_nilE rfl | (apply D_pc dl; rfl; exact .same rfl .nil) | (apply D_pc dr; rfl; exact .same rfl .nil) | (apply D_pc dx; rfl; exact .same rfl .nil) | (apply D_pc dy; rfl; exact .same rfl .nil) | exact D_sc (D_int rfl rfl rfl) wr | exact D_sc (D_int rfl rfl rfl) wl | exact D_sc (D_int rfl rfl rfl) e0 | exact D_sc (D_int rfl rfl rfl) e1 | exact D_sc (D_int rfl rfl rfl) e2 | (apply D_pc j1; rfl; exact .same rfl (.same rfl (.same rfl .nil))) | (apply D_pc j2; rfl; exact .same rfl (.same rfl (.same rfl .nil))) | (apply D_pc j3; rfl; exact .same rfl (.same rfl (.same rfl .nil))) | (apply D_load1; rfl) | (apply D_fld; rfl) | (apply D_pickT; rfl; rfl) | (apply D_pickF; rfl; rfl))
          | (refine idDg ?_; first | refine dg0t rfl rfl rfl ?_ | refine dgr rfl rfl ?_)
          | refine WD_nil (by first | decide +kernel | kernel_rfl | rfl) ?_
        all_goals first | exact Le.of_eq rfl | rfl | contradiction | skip
    · rw [level_5 c1 c3]
      have e1 : Value.bool (iLt (deepT l + 1) (deepT r)) = .bool false := by rw [(iLt_f _ _).mpr (by omega)]
      have e2 := e1
      have dx := dl
      have dy := dr
      have j1 := join_pc k v a b d m l r
      generalize joinT k v l r = X at *
      rw [tA_nd] at j1 ⊢
      refine PC.of_body Try.func97 Try.ntmps97 rfl rfl rfl ?_
      repeat' first
        | (apply p1 (hd := rfl); case hop => first | (apply D_move; rfl) | (apply D_assign; rfl) | (apply D_pc dl; rfl; exact .same rfl .nil) | (apply D_pc dr; rfl; exact .same rfl .nil) | exact D_sc (D_int rfl rfl rfl) wr | exact D_sc (D_int rfl rfl rfl) wl | exact D_sc (D_int rfl rfl rfl) e0 | exact D_sc (D_int rfl rfl rfl) e1 | (apply D_pc j1; rfl; exact .same rfl (.same rfl (.same rfl .nil))))
        | refine W_seq ?_
        | refine W_region ?_
        | (refine idC ?_; first | refine c0 rfl ?_)
        | refine WL_nil ?_
        | refine tn ?_
        | refine bn ?_
        | refine W_skip ?_
        | refine W_block ?_
        | refine W_ret ?_
        | (refine idR ?_; first | refine ret1 rfl rfl rfl ?_)
        | (refine idW ?_; first | refine W_draw0 rfl ?_)
        | (apply d1 (hd := rfl); case hop => first | (apply D_move; rfl) | (apply D_assign; rfl) | (apply D_pc dl; rfl; exact .same rfl .nil) | (apply D_pc dr; rfl; exact .same rfl .nil) | exact D_sc (D_int rfl rfl rfl) wr | exact D_sc (D_int rfl rfl rfl) wl | exact D_sc (D_int rfl rfl rfl) e0 | exact D_sc (D_int rfl rfl rfl) e1 | (apply D_pickF; rfl; rfl))
        | (refine idDg ?_; first | refine dg0t rfl rfl rfl ?_)
        | refine WD_nil (by first | decide +kernel | kernel_rfl | rfl) ?_
      all_goals first | exact Le.of_eq rfl | rfl | contradiction | skip
end Go.Proofs
