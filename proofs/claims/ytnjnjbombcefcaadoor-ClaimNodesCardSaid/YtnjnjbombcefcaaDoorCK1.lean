/- Contracts of forms' functions: may one be? -/
import Derived.Test.YtnjnjbombcefcaaDoorCN3
import Derived.Test.YtnjnjbombcefcaaDoorOps11
namespace Go.Proofs
open Go.AL
attribute [local irreducible] Go.AL.W Go.AL.WL Go.AL.WD Go.AL.POp Go.AL.PPOp Go.AL.POpS Go.AL.PC Go.AL.AC Go.AL.YW Go.AL.Ret Go.AL.Le Go.AL.thn Go.AL.inBlk Go.AL.scp

def val0 : Val := ⟨0, 0, []⟩
structure Ent where
  kind : Int
  n : Int
  name : List UInt8
  v : Val
abbrev eC (x : Ent) : List AV := [.sc (.int .i64 x.kind), .sc (.int .i64 x.n), str x.name, .sc (.int .i64 x.v.kind), .sc (.int .i64 x.v.n), str x.v.s]
def ent0 : Ent := ⟨0, 0, [], val0⟩
structure Trm where
  isEnt : Bool
  v : Val
  e : Ent
abbrev tC (x : Trm) : List AV := [.sc (.bool x.isEnt), .sc (.int .i64 x.v.kind), .sc (.int .i64 x.v.n), str x.v.s, .sc (.int .i64 x.e.kind), .sc (.int .i64 x.e.n), str x.e.name, .sc (.int .i64 x.e.v.kind), .sc (.int .i64 x.e.v.n), str x.e.v.s]
def trm0 : Trm := ⟨false, val0, ent0⟩
structure Frm where
  op : Int
  e : Ent
  a : List UInt8
  v : Trm
  old : Trm
  fr : Int
  to : Int
abbrev fC (f : Frm) : List AV := [.sc (.int .i64 f.op), .sc (.int .i64 f.e.kind), .sc (.int .i64 f.e.n), str f.e.name, .sc (.int .i64 f.e.v.kind), .sc (.int .i64 f.e.v.n), str f.e.v.s, str f.a,
  .sc (.bool f.v.isEnt), .sc (.int .i64 f.v.v.kind), .sc (.int .i64 f.v.v.n), str f.v.v.s, .sc (.int .i64 f.v.e.kind), .sc (.int .i64 f.v.e.n), str f.v.e.name, .sc (.int .i64 f.v.e.v.kind), .sc (.int .i64 f.v.e.v.n), str f.v.e.v.s,
  .sc (.bool f.old.isEnt), .sc (.int .i64 f.old.v.kind), .sc (.int .i64 f.old.v.n), str f.old.v.s, .sc (.int .i64 f.old.e.kind), .sc (.int .i64 f.old.e.n), str f.old.e.name, .sc (.int .i64 f.old.e.v.kind), .sc (.int .i64 f.old.e.v.n), str f.old.e.v.s,
  .sc (.int .i64 f.fr), .sc (.int .i64 f.to)]
def val0P (v : Val) : Prop := v.kind = 0 ∧ v.n = 0 ∧ v.s = []
def ent0P (x : Ent) : Prop := x.kind = 0 ∧ x.n = 0 ∧ x.name = [] ∧ val0P x.v
def trm0P (x : Trm) : Prop := x.isEnt = false ∧ val0P x.v ∧ ent0P x.e
def wordV (s : List UInt8) : Val := ⟨7, 0, s⟩
def entP (x : Ent) : Prop := (x.kind = 1 ∧ x.name = [] ∧ val0P x.v ∧ 0 ≤ x.n ∧ x.n < 9007199254740992) ∨ (x.kind = 2 ∧ x.n = 0 ∧ val0P x.v ∧ NamedP x.name) ∨ (x.kind = 3 ∧ x.n = 0 ∧ mayB (wordV x.name) = true ∧ mayB x.v = true)
def trmP (x : Trm) : Prop := (x.isEnt = true ∧ val0P x.v ∧ entP x.e) ∨ (x.isEnt = false ∧ ent0P x.e ∧ x.v.kind ≠ 5 ∧ mayB x.v = true)
def frmP (f : Frm) : Prop := f.fr < f.to ∧ entP f.e ∧ (((f.op = 1 ∨ f.op = 2) ∧ trmP f.v ∧ trm0P f.old ∧ mayB (wordV f.a) = true) ∨ (f.op = 4 ∧ trmP f.v ∧ trmP f.old ∧ mayB (wordV f.a) = true) ∨ (f.op = 3 ∧ f.a = [] ∧ trm0P f.v ∧ trm0P f.old))
theorem ref_may (n : Int) : mayB ⟨5, n, []⟩ = dP (0 ≤ n ∧ n < 9007199254740992) := by
  unfold mayB
  congr 1
  simp [MayP]
theorem chkP (p : Prop) [Decidable p] : (iEq (if p then 0 else 10) 0 = true) = p := by rw [iEq_t]; split <;> simp_all
theorem chkE (b : Bool) : (iEq (if b = true then 0 else 10) 0 = true) = (b = true) := by rw [iEq_t]; cases b <;> simp
theorem chkI (b : Bool) : ((if b = true then (0 : Int) else 10) = 0) = (b = true) := by cases b <;> simp
def entS (x : Ent) : Prop := x.name.length < 4611686018427387904 ∧ x.v.s.length < 4611686018427387904
def trmS (x : Trm) : Prop := entS x.e ∧ x.v.s.length < 4611686018427387904
def frmS (f : Frm) : Prop := entS f.e ∧ f.a.length < 4611686018427387904 ∧ trmS f.v ∧ trmS f.old

set_option maxHeartbeats 4000000 in
theorem word_v_pc [GlobF Tryd.prog] (s : List UInt8) : PC Tryd.prog 52 [str s] (eV (wordV s)) := by
  refine PC.of_body Tryd.func52 Tryd.ntmps52 rfl rfl rfl ?_
  repeat' first
    | (apply p1 (hd := rfl); case hop => first | (apply D_move; rfl) | exact D_build rfl | exact D_buildA rfl)
    | refine W_seq ?_
    | refine W_region ?_
    | refine WL_nil ?_
    | refine tn ?_
    | refine tr ?_
    | refine br ?_
    | refine bn ?_
    | refine te ?_
    | (refine idB ?_; first | refine bh rfl ?_ | refine bm rfl ?_)
    | refine W_skip ?_
    | refine W_block ?_
    | refine W_exit ?_
    | refine W_ret ?_
    | refine W_label ?_
    | refine W_scope ?_
    | refine sn ?_
    | refine sr ?_
    | refine se ?_
    | (refine idR ?_; first | refine ret1 rfl rfl rfl ?_ | refine rL1 rfl (by first | exact trivial | exact ⟨rfl, trivial⟩) (by first | exact ResO.tmp rfl | exact ResO.cellBA rfl rfl rfl | exact ResO.cellB1 rfl rfl rfl | exact ResO.cellEA rfl rfl | exact ResO.cellE1 rfl) ?_)
    | (refine idA ?_; first | refine m_var rfl rfl rfl rfl rfl rfl rfl ?_ | refine m_alloc rfl ?_)
    | (refine idS ?_; first | refine pS (S_store rfl rfl rfl rfl rfl rfl rfl) ?_ | refine pS (S_store rfl rfl rfl (by (repeat first | assumption | exact get_last | (refine get_last2 ?_; focus (simp; done)) | apply get_set | apply get_app | (apply get_ne; focus omega) | (apply get_ne; focus (simp only [List.length_set, List.length_append, List.length_cons, List.length_nil]; omega))); done) (by rfl) (by rfl) (by rfl)) ?_)
    | refine Le.bool ?_
    | refine Le.int ?_
    | refine Le.str ?_
  all_goals exact Le.of_eq rfl
set_option maxHeartbeats 4000000 in
theorem entity_pc [GlobF Tryd.prog] (x : Ent) (hs : entS x) : PC Tryd.prog 49 [.ag (eC x)] (.sc (.bool (dP (entP x)))) := by
  have h1 := hs.1
  have h2 := hs.2
  refine PC.of_body Tryd.func49 Tryd.ntmps49 rfl rfl rfl ?_
  repeat' first
    | (apply p1 (hd := rfl); case hop => first | (apply D_move; rfl) | (apply D_assign; rfl) | (apply D_pc (check_pc ⟨5, x.n, []⟩ (by show 0 < 9223372036854775808; decide)); rfl; exact .same rfl .nil) | (apply D_pc (named_pc x.name h1); rfl; exact .same rfl .nil) | (apply D_pc (word_v_pc x.name); rfl; exact .same rfl .nil) | (apply D_pc (check_pc (wordV x.name) (by show x.name.length < 9223372036854775808; omega)); rfl; exact .same rfl .nil) | (apply D_pc (check_pc x.v (by omega)); rfl; exact .same rfl .nil) | (apply D_load1; rfl) | (apply D_fld; rfl) | (apply D_pickT; rfl; rfl) | (apply D_pickF; rfl; rfl) | (apply D_int; rfl; rfl; rfl) | (apply D_loadW; rfl; rfl) | (apply D_loadA; rfl; rfl) | (apply D_box; rfl; rfl) | exact D_build rfl | exact D_buildA rfl | exact D_fldB rfl | exact D_eqA rfl rfl rfl rfl rfl rfl rfl | exact D_neA rfl rfl rfl rfl rfl rfl rfl)
    | refine W_seq ?_
    | refine W_region ?_
    | (refine idC ?_; first | refine c1 rfl ?_ | refine c0 rfl ?_ | refine cs rfl (fun _ => ?_) (fun _ => ?_))
    | refine WL_nil ?_
    | (refine idG ?_; first | refine g0t rfl rfl rfl ?_ | refine g0f rfl rfl rfl ?_ | refine g0u rfl rfl rfl ?_ | refine gr rfl rfl ?_ | refine gs rfl rfl (fun _ => ?_) (fun _ => ?_) | refine grn rfl rfl ?_)
    | refine tn ?_
    | refine tr ?_
    | refine br ?_
    | refine bn ?_
    | refine te ?_
    | (refine idB ?_; first | refine bh rfl ?_ | refine bm rfl ?_)
    | refine W_skip ?_
    | refine W_block ?_
    | refine W_exit ?_
    | refine W_ret ?_
    | refine W_label ?_
    | refine W_scope ?_
    | refine sn ?_
    | refine sr ?_
    | refine se ?_
    | (refine idR ?_; first | refine ret1 rfl rfl rfl ?_ | refine rL1 rfl (by first | exact trivial | exact ⟨rfl, trivial⟩) (by first | exact ResO.tmp rfl | exact ResO.cellBA rfl rfl rfl | exact ResO.cellB1 rfl rfl rfl | exact ResO.cellEA rfl rfl | exact ResO.cellE1 rfl) ?_)
    | (refine idLd ?_; first | refine p1L (D_loadB1 rfl rfl rfl) rfl ?_ | refine p1L (D_loadBA rfl rfl rfl) rfl ?_ | refine p1L (D_loadB1 rfl (by (repeat first | assumption | exact get_last | (refine get_last2 ?_; focus (simp; done)) | apply get_set | apply get_app | (apply get_ne; focus omega) | (apply get_ne; focus (simp only [List.length_set, List.length_append, List.length_cons, List.length_nil]; omega))); done) (by rfl)) rfl ?_ | refine p1L (D_loadBA rfl (by (repeat first | assumption | exact get_last | (refine get_last2 ?_; focus (simp; done)) | apply get_set | apply get_app | (apply get_ne; focus omega) | (apply get_ne; focus (simp only [List.length_set, List.length_append, List.length_cons, List.length_nil]; omega))); done) (by rfl)) rfl ?_)
    | refine Le.bool ?_
    | refine Le.int ?_
    | refine Le.str ?_
  all_goals
    refine dP_eq ?_
    simp_all [entP, val0P, chkP, ref_may, dP_t]

set_option maxHeartbeats 4000000 in
theorem term_pc [GlobF Tryd.prog] (x : Trm) (hs : trmS x) : PC Tryd.prog 50 [.ag (tC x)] (.sc (.bool (dP (trmP x)))) := by
  have h1 := hs.1
  have h2 := hs.2
  refine PC.of_body Tryd.func50 Tryd.ntmps50 rfl rfl rfl ?_
  repeat' first
    | (apply p1 (hd := rfl); case hop => first | (apply D_move; rfl) | (apply D_assign; rfl) | (apply D_pc (entity_pc x.e h1); rfl; exact .same rfl .nil) | (apply D_pc (check_pc x.v (by omega)); rfl; exact .same rfl .nil) | (apply D_load1; rfl) | (apply D_fld; rfl) | (apply D_pickT; rfl; rfl) | (apply D_pickF; rfl; rfl) | (apply D_int; rfl; rfl; rfl) | (apply D_loadW; rfl; rfl) | (apply D_loadA; rfl; rfl) | (apply D_box; rfl; rfl) | exact D_build rfl | exact D_buildA rfl | exact D_fldB rfl | exact D_eqA rfl rfl rfl rfl rfl rfl rfl | exact D_neA rfl rfl rfl rfl rfl rfl rfl)
    | refine W_seq ?_
    | refine W_region ?_
    | (refine idC ?_; first | refine c1 rfl ?_ | refine c0 rfl ?_ | refine cs rfl (fun _ => ?_) (fun _ => ?_))
    | refine WL_nil ?_
    | (refine idG ?_; first | refine g0t rfl rfl rfl ?_ | refine g0f rfl rfl rfl ?_ | refine g0u rfl rfl rfl ?_ | refine gr rfl rfl ?_ | refine gs rfl rfl (fun _ => ?_) (fun _ => ?_) | refine grn rfl rfl ?_)
    | refine tn ?_
    | refine tr ?_
    | refine br ?_
    | refine bn ?_
    | refine te ?_
    | (refine idB ?_; first | refine bh rfl ?_ | refine bm rfl ?_)
    | refine W_skip ?_
    | refine W_block ?_
    | refine W_exit ?_
    | refine W_ret ?_
    | refine W_label ?_
    | refine W_scope ?_
    | refine sn ?_
    | refine sr ?_
    | refine se ?_
    | (refine idR ?_; first | refine ret1 rfl rfl rfl ?_ | refine rL1 rfl (by first | exact trivial | exact ⟨rfl, trivial⟩) (by first | exact ResO.tmp rfl | exact ResO.cellBA rfl rfl rfl | exact ResO.cellB1 rfl rfl rfl | exact ResO.cellEA rfl rfl | exact ResO.cellE1 rfl) ?_)
    | (refine idLd ?_; first | refine p1L (D_loadB1 rfl rfl rfl) rfl ?_ | refine p1L (D_loadBA rfl rfl rfl) rfl ?_ | refine p1L (D_loadB1 rfl (by (repeat first | assumption | exact get_last | (refine get_last2 ?_; focus (simp; done)) | apply get_set | apply get_app | (apply get_ne; focus omega) | (apply get_ne; focus (simp only [List.length_set, List.length_append, List.length_cons, List.length_nil]; omega))); done) (by rfl)) rfl ?_ | refine p1L (D_loadBA rfl (by (repeat first | assumption | exact get_last | (refine get_last2 ?_; focus (simp; done)) | apply get_set | apply get_app | (apply get_ne; focus omega) | (apply get_ne; focus (simp only [List.length_set, List.length_append, List.length_cons, List.length_nil]; omega))); done) (by rfl)) rfl ?_)
    | refine Le.bool ?_
    | refine Le.int ?_
    | refine Le.str ?_
  all_goals
    refine dP_eq ?_
    simp_all [trmP, ent0P, val0P, chkP, dP_t]
end Go.Proofs
