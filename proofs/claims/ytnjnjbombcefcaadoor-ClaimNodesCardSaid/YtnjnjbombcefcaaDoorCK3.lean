/- Contracts of forms' functions: nodes. -/
import Derived.Test.YtnjnjbombcefcaaDoorCK2
namespace Go.Proofs
open Go.AL
attribute [local irreducible] Go.AL.W Go.AL.WL Go.AL.WD Go.AL.POp Go.AL.PPOp Go.AL.POpS Go.AL.PC Go.AL.AC Go.AL.YW Go.AL.Ret Go.AL.Le Go.AL.thn Go.AL.inBlk Go.AL.scp

structure Nod where
  k : Int
  v : Val
  s : List UInt8
  kids : List (List AV)
abbrev nC (x : Nod) : List AV := [.sc (.int .i64 x.k), .sc (.int .i64 x.v.kind), .sc (.int .i64 x.v.n), str x.v.s, str x.s, .sl none 8 x.kids, .sc (.int .i64 0), .sc (.int .i64 0)]
abbrev noV (v : Val) : Nod := ⟨1, v, [], []⟩
abbrev noS (s : List UInt8) : Nod := ⟨2, val0, s, []⟩
abbrev noL (k : Int) (l : List (List AV)) : Nod := ⟨k, val0, [], l⟩
abbrev nod0 : Nod := ⟨0, val0, [], []⟩
theorem nodk {a b c d e f g : AV} : Wkn (.ag [a, b, c, d, e, .sc (.slice none 0 0), f, g]) (.ag [a, b, c, d, e, .sl none 8 [], f, g]) :=
  Wkn.ag ⟨.refl _, .refl _, .refl _, .refl _, .refl _, .nil, .refl _, .refl _, trivial⟩
theorem nodi {a b c d e f g h : AV} : Wkn (.ag [a, b, c, d, e, f, g, h]) (.ag [a, b, c, d, e, f, g, h]) := Wkn.refl _
def who (x : Ent) : Nod := if x.kind = 1 then noV ⟨5, x.n, []⟩ else if x.kind = 2 then noS x.name else noL 4 [nC (noV (wordV x.name)), nC (noV x.v)]
def what (t : Trm) : Nod := if t.isEnt = true then who t.e else noV t.v
instance (x : Ent) : PurLL (who x).kids := by
  unfold who
  split
  · exact inferInstanceAs (PurLL [])
  · split
    · exact inferInstanceAs (PurLL [])
    · exact inferInstanceAs (PurLL [nC (noV (wordV x.name)), nC (noV x.v)])
instance (t : Trm) : PurLL (what t).kids := by
  unfold what
  split
  · exact inferInstance
  · exact inferInstanceAs (PurLL [])

set_option maxHeartbeats 4000000 in
theorem node_pc [GlobF Tryd.prog] (v : Val) : PC Tryd.prog 54 [eV v] (.ag (nC (noV v))) := by
  refine PC.of_body Tryd.func54 Tryd.ntmps54 rfl rfl rfl ?_
  repeat' first
    | (apply p1 (hd := rfl); case hop => first | exact PPOp.wk (D_build rfl) nodk | (apply D_load1; rfl) | (apply D_loadW; rfl; rfl) | (apply D_loadA; rfl; rfl) | (apply D_box; rfl; rfl) | exact D_build rfl | exact D_buildA rfl)
    | refine W_seq ?_
    | refine W_region ?_
    | refine WL_nil ?_
    | refine tn ?_
    | refine tr ?_
    | refine br ?_
    | refine bn ?_
    | refine te ?_
    | (refine idB ?_; first | refine bh rfl ?_ | refine bm rfl ?_)
    | refine W_skip ?_
    | refine W_block ?_
    | refine W_exit ?_
    | refine W_ret ?_
    | refine W_label ?_
    | refine W_scope ?_
    | refine sn ?_
    | refine sr ?_
    | refine se ?_
    | (refine idR ?_; first | refine ret1 rfl rfl rfl ?_ | refine rL1 rfl (by first | exact trivial | exact ⟨rfl, trivial⟩) (by first | exact ResO.tmp rfl | exact ResO.cellBA rfl rfl rfl | exact ResO.cellB1 rfl rfl rfl | exact ResO.cellEA rfl rfl | exact ResO.cellE1 rfl) ?_)
    | (refine idLd ?_; first | refine p1L (D_loadB1 rfl rfl rfl) rfl ?_ | refine p1L (D_loadBA rfl rfl rfl) rfl ?_ | refine p1L (D_loadB1 rfl (by (repeat first | assumption | exact get_last | (refine get_last2 ?_; focus (simp; done)) | apply get_set | apply get_app | (apply get_ne; focus omega) | (apply get_ne; focus (simp only [List.length_set, List.length_append, List.length_cons, List.length_nil]; omega))); done) (by rfl)) rfl ?_ | refine p1L (D_loadBA rfl (by (repeat first | assumption | exact get_last | (refine get_last2 ?_; focus (simp; done)) | apply get_set | apply get_app | (apply get_ne; focus omega) | (apply get_ne; focus (simp only [List.length_set, List.length_append, List.length_cons, List.length_nil]; omega))); done) (by rfl)) rfl ?_)
    | (refine idA ?_; first | refine m_var rfl rfl rfl rfl rfl rfl rfl ?_ | refine m_alloc rfl ?_)
    | (refine idS ?_; first | refine pS (S_store rfl rfl rfl rfl rfl rfl rfl) ?_ | refine pS (S_store rfl rfl rfl (by (repeat first | assumption | exact get_last | (refine get_last2 ?_; focus (simp; done)) | apply get_set | apply get_app | (apply get_ne; focus omega) | (apply get_ne; focus (simp only [List.length_set, List.length_append, List.length_cons, List.length_nil]; omega))); done) (by rfl) (by rfl) (by rfl)) ?_)
    | refine Le.bool ?_
    | refine Le.int ?_
    | refine Le.str ?_
  all_goals exact Le.of_eq rfl
set_option maxHeartbeats 4000000 in
theorem nodeOf_pc [GlobF Tryd.prog] (x : Ent) : PC Tryd.prog 53 [.ag (eC x)] (.ag (nC (who x))) := by
  refine PC.of_body Tryd.func53 Tryd.ntmps53 rfl rfl rfl ?_
  repeat' first
    | (apply p1 (hd := rfl); case hop => first | (apply D_assign; rfl) | exact PPOp.wk (D_build rfl) nodk | (apply D_pc (word_v_pc x.name); rfl; exact .same rfl .nil) | (apply D_pc (node_pc ⟨5, x.n, []⟩); rfl; exact .same rfl .nil) | (apply D_pc (node_pc (wordV x.name)); rfl; exact .same rfl .nil) | (apply D_pc (node_pc x.v); rfl; exact .same rfl .nil) | (apply D_load1; rfl) | (apply D_fld; rfl) | (apply D_int; rfl; rfl; rfl) | (apply D_loadW; rfl; rfl) | (apply D_loadA; rfl; rfl) | (apply D_box; rfl; rfl) | (apply D_lit; rfl; rfl; rfl; rfl) | exact D_build rfl | exact D_buildA rfl | exact D_fldB rfl)
    | refine W_seq ?_
    | refine W_region ?_
    | (refine idC ?_; first | refine c1 rfl ?_ | refine c0 rfl ?_ | refine cs rfl (fun _ => ?_) (fun _ => ?_))
    | refine WL_nil ?_
    | refine tn ?_
    | refine tr ?_
    | refine br ?_
    | refine bn ?_
    | refine te ?_
    | (refine idB ?_; first | refine bh rfl ?_ | refine bm rfl ?_)
    | refine W_skip ?_
    | refine W_block ?_
    | refine W_exit ?_
    | refine W_ret ?_
    | refine W_label ?_
    | refine W_scope ?_
    | refine sn ?_
    | refine sr ?_
    | refine se ?_
    | (refine idR ?_; first | refine ret1 rfl rfl rfl ?_ | refine rL1 rfl (by first | exact trivial | exact ⟨rfl, trivial⟩) (by first | exact ResO.tmp rfl | exact ResO.cellBA rfl rfl rfl | exact ResO.cellB1 rfl rfl rfl | exact ResO.cellEA rfl rfl | exact ResO.cellE1 rfl) ?_)
    | (refine idLd ?_; first | refine p1L (D_loadB1 rfl rfl rfl) rfl ?_ | refine p1L (D_loadBA rfl rfl rfl) rfl ?_ | refine p1L (D_loadB1 rfl (by (repeat first | assumption | exact get_last | (refine get_last2 ?_; focus (simp; done)) | apply get_set | apply get_app | (apply get_ne; focus omega) | (apply get_ne; focus (simp only [List.length_set, List.length_append, List.length_cons, List.length_nil]; omega))); done) (by rfl)) rfl ?_ | refine p1L (D_loadBA rfl (by (repeat first | assumption | exact get_last | (refine get_last2 ?_; focus (simp; done)) | apply get_set | apply get_app | (apply get_ne; focus omega) | (apply get_ne; focus (simp only [List.length_set, List.length_append, List.length_cons, List.length_nil]; omega))); done) (by rfl)) rfl ?_)
    | (refine idA ?_; first | refine m_var rfl rfl rfl rfl rfl rfl rfl ?_ | refine m_alloc rfl ?_)
    | (refine idS ?_; first | refine pS (S_store rfl rfl rfl rfl rfl rfl rfl) ?_ | refine pS (S_store rfl rfl rfl (by (repeat first | assumption | exact get_last | (refine get_last2 ?_; focus (simp; done)) | apply get_set | apply get_app | (apply get_ne; focus omega) | (apply get_ne; focus (simp only [List.length_set, List.length_append, List.length_cons, List.length_nil]; omega))); done) (by rfl) (by rfl) (by rfl)) ?_)
    | refine Le.bool ?_
    | refine Le.int ?_
    | refine Le.str ?_
    | (refine idW ?_; first | refine W_draw0 rfl ?_ | refine W_draw1 rfl ?_ | refine W_draw2 rfl ?_ | refine W_draw3 rfl ?_)
    | (apply d1 (hd := rfl); case hop => first | (apply D_assign; rfl) | exact PPOp.wk (D_build rfl) nodk | (apply D_pc (word_v_pc x.name); rfl; exact .same rfl .nil) | (apply D_pc (node_pc ⟨5, x.n, []⟩); rfl; exact .same rfl .nil) | (apply D_pc (node_pc (wordV x.name)); rfl; exact .same rfl .nil) | (apply D_pc (node_pc x.v); rfl; exact .same rfl .nil) | (apply D_load1; rfl) | (apply D_fld; rfl) | (apply D_int; rfl; rfl; rfl) | (apply D_loadW; rfl; rfl) | (apply D_loadA; rfl; rfl) | (apply D_box; rfl; rfl) | (apply D_lit; rfl; rfl; rfl; rfl) | exact D_build rfl | exact D_buildA rfl | exact D_fldB rfl)
    | (refine idDn ?_; first | refine dL _ (fun hp' hs => D_loadB1 rfl (hs.trans rfl) rfl) rfl ?_ | refine dL _ (fun hp' hs => D_loadBA rfl (hs.trans rfl) rfl) rfl ?_ | refine dS (S_store rfl rfl rfl rfl rfl rfl rfl) rfl ?_ | refine dV (S_alloc 0 rfl) rfl rfl ?_ | refine dV (S_alloc 1 rfl) rfl rfl ?_ | refine dV (S_alloc 2 rfl) rfl rfl ?_ | refine dV (S_alloc 3 rfl) rfl rfl ?_ | refine dV (S_alloc 4 rfl) rfl rfl ?_ | refine dV (S_alloc 5 rfl) rfl rfl ?_ | refine dV (S_alloc 6 rfl) rfl rfl ?_ | refine dV (S_alloc 7 rfl) rfl rfl ?_)
    | refine WD_nil (by first | decide +kernel | kernel_rfl | rfl) ?_
  · rename_i h
    rw [who, if_pos h]; exact Le.of_eq rfl
  · rename_i h h'
    rw [who, if_neg h, if_pos h']; exact Le.of_eq rfl
  · rename_i h h'
    rw [who, if_neg h, if_neg h']; exact Le.of_eq rfl
set_option maxHeartbeats 4000000 in
theorem said_pc [GlobF Tryd.prog] (t : Trm) : PC Tryd.prog 55 [.ag (tC t)] (.ag (nC (what t))) := by
  refine PC.of_body Tryd.func55 Tryd.ntmps55 rfl rfl rfl ?_
  repeat' first
    | (apply p1 (hd := rfl); case hop => first | (apply D_pc (nodeOf_pc t.e); rfl; exact .same rfl .nil) | (apply D_pc (node_pc t.v); rfl; exact .same rfl .nil) | (apply D_load1; rfl) | (apply D_fld; rfl) | (apply D_loadW; rfl; rfl) | (apply D_loadA; rfl; rfl) | (apply D_box; rfl; rfl) | exact D_fldB rfl)
    | refine W_seq ?_
    | refine W_region ?_
    | (refine idC ?_; first | refine c1 rfl ?_ | refine c0 rfl ?_ | refine cs rfl (fun _ => ?_) (fun _ => ?_))
    | refine WL_nil ?_
    | refine tn ?_
    | refine tr ?_
    | refine br ?_
    | refine bn ?_
    | refine te ?_
    | (refine idB ?_; first | refine bh rfl ?_ | refine bm rfl ?_)
    | refine W_skip ?_
    | refine W_block ?_
    | refine W_exit ?_
    | refine W_ret ?_
    | refine W_label ?_
    | refine W_scope ?_
    | refine sn ?_
    | refine sr ?_
    | refine se ?_
    | (refine idR ?_; first | refine ret1 rfl rfl rfl ?_ | refine rL1 rfl (by first | exact trivial | exact ⟨rfl, trivial⟩) (by first | exact ResO.tmp rfl | exact ResO.cellBA rfl rfl rfl | exact ResO.cellB1 rfl rfl rfl | exact ResO.cellEA rfl rfl | exact ResO.cellE1 rfl) ?_)
    | (refine idLd ?_; first | refine p1L (D_loadB1 rfl rfl rfl) rfl ?_ | refine p1L (D_loadBA rfl rfl rfl) rfl ?_ | refine p1L (D_loadB1 rfl (by (repeat first | assumption | exact get_last | (refine get_last2 ?_; focus (simp; done)) | apply get_set | apply get_app | (apply get_ne; focus omega) | (apply get_ne; focus (simp only [List.length_set, List.length_append, List.length_cons, List.length_nil]; omega))); done) (by rfl)) rfl ?_ | refine p1L (D_loadBA rfl (by (repeat first | assumption | exact get_last | (refine get_last2 ?_; focus (simp; done)) | apply get_set | apply get_app | (apply get_ne; focus omega) | (apply get_ne; focus (simp only [List.length_set, List.length_append, List.length_cons, List.length_nil]; omega))); done) (by rfl)) rfl ?_)
    | (refine idA ?_; first | refine m_var rfl rfl rfl rfl rfl rfl rfl ?_ | refine m_alloc rfl ?_)
    | (refine idS ?_; first | refine pS (S_store rfl rfl rfl rfl rfl rfl rfl) ?_ | refine pS (S_store rfl rfl rfl (by (repeat first | assumption | exact get_last | (refine get_last2 ?_; focus (simp; done)) | apply get_set | apply get_app | (apply get_ne; focus omega) | (apply get_ne; focus (simp only [List.length_set, List.length_append, List.length_cons, List.length_nil]; omega))); done) (by rfl) (by rfl) (by rfl)) ?_)
    | refine Le.bool ?_
    | refine Le.int ?_
    | refine Le.str ?_
  · rename_i h
    rw [what, if_pos h]; exact Le.of_eq rfl
  · rename_i h
    rw [what, if_neg (by rw [h]; decide)]; exact Le.of_eq rfl
/-! The reference's. -/
set_option maxHeartbeats 4000000 in
theorem node1_pc [GlobF Tryd.prog] (v : Val) : PC Tryd.prog 96 [eV v] (.ag (nC (noV v))) := by
  refine PC.of_body Tryd.func96 Tryd.ntmps96 rfl rfl rfl ?_
  repeat' first
    | (apply p1 (hd := rfl); case hop => first | exact PPOp.wk (D_build rfl) nodk | (apply D_load1; rfl) | (apply D_loadW; rfl; rfl) | (apply D_loadA; rfl; rfl) | (apply D_box; rfl; rfl) | exact D_build rfl | exact D_buildA rfl)
    | refine W_seq ?_
    | refine W_region ?_
    | refine WL_nil ?_
    | refine tn ?_
    | refine tr ?_
    | refine br ?_
    | refine bn ?_
    | refine te ?_
    | (refine idB ?_; first | refine bh rfl ?_ | refine bm rfl ?_)
    | refine W_skip ?_
    | refine W_block ?_
    | refine W_exit ?_
    | refine W_ret ?_
    | refine W_label ?_
    | refine W_scope ?_
    | refine sn ?_
    | refine sr ?_
    | refine se ?_
    | (refine idR ?_; first | refine ret1 rfl rfl rfl ?_ | refine rL1 rfl (by first | exact trivial | exact ⟨rfl, trivial⟩) (by first | exact ResO.tmp rfl | exact ResO.cellBA rfl rfl rfl | exact ResO.cellB1 rfl rfl rfl | exact ResO.cellEA rfl rfl | exact ResO.cellE1 rfl) ?_)
    | (refine idLd ?_; first | refine p1L (D_loadB1 rfl rfl rfl) rfl ?_ | refine p1L (D_loadBA rfl rfl rfl) rfl ?_ | refine p1L (D_loadB1 rfl (by (repeat first | assumption | exact get_last | (refine get_last2 ?_; focus (simp; done)) | apply get_set | apply get_app | (apply get_ne; focus omega) | (apply get_ne; focus (simp only [List.length_set, List.length_append, List.length_cons, List.length_nil]; omega))); done) (by rfl)) rfl ?_ | refine p1L (D_loadBA rfl (by (repeat first | assumption | exact get_last | (refine get_last2 ?_; focus (simp; done)) | apply get_set | apply get_app | (apply get_ne; focus omega) | (apply get_ne; focus (simp only [List.length_set, List.length_append, List.length_cons, List.length_nil]; omega))); done) (by rfl)) rfl ?_)
    | (refine idA ?_; first | refine m_var rfl rfl rfl rfl rfl rfl rfl ?_ | refine m_alloc rfl ?_)
    | (refine idS ?_; first | refine pS (S_store rfl rfl rfl rfl rfl rfl rfl) ?_ | refine pS (S_store rfl rfl rfl (by (repeat first | assumption | exact get_last | (refine get_last2 ?_; focus (simp; done)) | apply get_set | apply get_app | (apply get_ne; focus omega) | (apply get_ne; focus (simp only [List.length_set, List.length_append, List.length_cons, List.length_nil]; omega))); done) (by rfl) (by rfl) (by rfl)) ?_)
    | refine Le.bool ?_
    | refine Le.int ?_
    | refine Le.str ?_
  all_goals exact Le.of_eq rfl
set_option maxHeartbeats 4000000 in
theorem name1_pc [GlobF Tryd.prog] (s : List UInt8) : PC Tryd.prog 94 [str s] (.ag (nC (noS s))) := by
  refine PC.of_body Tryd.func94 Tryd.ntmps94 rfl rfl rfl ?_
  repeat' first
    | (apply p1 (hd := rfl); case hop => first | (apply D_move; rfl) | exact PPOp.wk (D_build rfl) nodk | exact D_build rfl | exact D_buildA rfl)
    | refine W_seq ?_
    | refine W_region ?_
    | refine WL_nil ?_
    | refine tn ?_
    | refine tr ?_
    | refine br ?_
    | refine bn ?_
    | refine te ?_
    | (refine idB ?_; first | refine bh rfl ?_ | refine bm rfl ?_)
    | refine W_skip ?_
    | refine W_block ?_
    | refine W_exit ?_
    | refine W_ret ?_
    | refine W_label ?_
    | refine W_scope ?_
    | refine sn ?_
    | refine sr ?_
    | refine se ?_
    | (refine idR ?_; first | refine ret1 rfl rfl rfl ?_ | refine rL1 rfl (by first | exact trivial | exact ⟨rfl, trivial⟩) (by first | exact ResO.tmp rfl | exact ResO.cellBA rfl rfl rfl | exact ResO.cellB1 rfl rfl rfl | exact ResO.cellEA rfl rfl | exact ResO.cellE1 rfl) ?_)
    | (refine idA ?_; first | refine m_var rfl rfl rfl rfl rfl rfl rfl ?_ | refine m_alloc rfl ?_)
    | (refine idS ?_; first | refine pS (S_store rfl rfl rfl rfl rfl rfl rfl) ?_ | refine pS (S_store rfl rfl rfl (by (repeat first | assumption | exact get_last | (refine get_last2 ?_; focus (simp; done)) | apply get_set | apply get_app | (apply get_ne; focus omega) | (apply get_ne; focus (simp only [List.length_set, List.length_append, List.length_cons, List.length_nil]; omega))); done) (by rfl) (by rfl) (by rfl)) ?_)
    | refine Le.bool ?_
    | refine Le.int ?_
    | refine Le.str ?_
  all_goals exact Le.of_eq rfl
set_option maxHeartbeats 4000000 in
theorem who1_pc [GlobF Tryd.prog] (x : Ent) : PC Tryd.prog 95 [.ag (eC x)] (.ag (nC (who x))) := by
  refine PC.of_body Tryd.func95 Tryd.ntmps95 rfl rfl rfl ?_
  repeat' first
    | (apply p1 (hd := rfl); case hop => first | exact PPOp.wk (D_build rfl) nodk | (apply D_pc (name1_pc x.name); rfl; exact .same rfl .nil) | (apply D_pc (node1_pc ⟨5, x.n, []⟩); rfl; exact .same rfl .nil) | (apply D_pc (node1_pc (wordV x.name)); rfl; exact .same rfl .nil) | (apply D_pc (node1_pc x.v); rfl; exact .same rfl .nil) | (apply D_load1; rfl) | (apply D_fld; rfl) | (apply D_int; rfl; rfl; rfl) | (apply D_loadW; rfl; rfl) | (apply D_loadA; rfl; rfl) | (apply D_box; rfl; rfl) | (apply D_lit; rfl; rfl; rfl; rfl) | exact D_build rfl | exact D_buildA rfl | exact D_fldB rfl)
    | refine W_seq ?_
    | refine W_region ?_
    | (refine idC ?_; first | refine c1 rfl ?_ | refine c0 rfl ?_ | refine cs rfl (fun _ => ?_) (fun _ => ?_))
    | refine WL_nil ?_
    | refine tn ?_
    | refine tr ?_
    | refine br ?_
    | refine bn ?_
    | refine te ?_
    | (refine idB ?_; first | refine bh rfl ?_ | refine bm rfl ?_)
    | refine W_skip ?_
    | refine W_block ?_
    | refine W_exit ?_
    | refine W_ret ?_
    | refine W_label ?_
    | refine W_scope ?_
    | refine sn ?_
    | refine sr ?_
    | refine se ?_
    | (refine idR ?_; first | refine ret1 rfl rfl rfl ?_ | refine rL1 rfl (by first | exact trivial | exact ⟨rfl, trivial⟩) (by first | exact ResO.tmp rfl | exact ResO.cellBA rfl rfl rfl | exact ResO.cellB1 rfl rfl rfl | exact ResO.cellEA rfl rfl | exact ResO.cellE1 rfl) ?_)
    | (refine idLd ?_; first | refine p1L (D_loadB1 rfl rfl rfl) rfl ?_ | refine p1L (D_loadBA rfl rfl rfl) rfl ?_ | refine p1L (D_loadB1 rfl (by (repeat first | assumption | exact get_last | (refine get_last2 ?_; focus (simp; done)) | apply get_set | apply get_app | (apply get_ne; focus omega) | (apply get_ne; focus (simp only [List.length_set, List.length_append, List.length_cons, List.length_nil]; omega))); done) (by rfl)) rfl ?_ | refine p1L (D_loadBA rfl (by (repeat first | assumption | exact get_last | (refine get_last2 ?_; focus (simp; done)) | apply get_set | apply get_app | (apply get_ne; focus omega) | (apply get_ne; focus (simp only [List.length_set, List.length_append, List.length_cons, List.length_nil]; omega))); done) (by rfl)) rfl ?_)
    | (refine idA ?_; first | refine m_var rfl rfl rfl rfl rfl rfl rfl ?_ | refine m_alloc rfl ?_)
    | (refine idS ?_; first | refine pS (S_store rfl rfl rfl rfl rfl rfl rfl) ?_ | refine pS (S_store rfl rfl rfl (by (repeat first | assumption | exact get_last | (refine get_last2 ?_; focus (simp; done)) | apply get_set | apply get_app | (apply get_ne; focus omega) | (apply get_ne; focus (simp only [List.length_set, List.length_append, List.length_cons, List.length_nil]; omega))); done) (by rfl) (by rfl) (by rfl)) ?_)
    | refine Le.bool ?_
    | refine Le.int ?_
    | refine Le.str ?_
    | (refine idW ?_; first | refine W_draw0 rfl ?_ | refine W_draw1 rfl ?_ | refine W_draw2 rfl ?_ | refine W_draw3 rfl ?_)
    | (apply d1 (hd := rfl); case hop => first | exact PPOp.wk (D_build rfl) nodk | (apply D_pc (name1_pc x.name); rfl; exact .same rfl .nil) | (apply D_pc (node1_pc ⟨5, x.n, []⟩); rfl; exact .same rfl .nil) | (apply D_pc (node1_pc (wordV x.name)); rfl; exact .same rfl .nil) | (apply D_pc (node1_pc x.v); rfl; exact .same rfl .nil) | (apply D_load1; rfl) | (apply D_fld; rfl) | (apply D_int; rfl; rfl; rfl) | (apply D_loadW; rfl; rfl) | (apply D_loadA; rfl; rfl) | (apply D_box; rfl; rfl) | (apply D_lit; rfl; rfl; rfl; rfl) | exact D_build rfl | exact D_buildA rfl | exact D_fldB rfl)
    | (refine idDn ?_; first | refine dL _ (fun hp' hs => D_loadB1 rfl (hs.trans rfl) rfl) rfl ?_ | refine dL _ (fun hp' hs => D_loadBA rfl (hs.trans rfl) rfl) rfl ?_ | refine dS (S_store rfl rfl rfl rfl rfl rfl rfl) rfl ?_ | refine dV (S_alloc 0 rfl) rfl rfl ?_ | refine dV (S_alloc 1 rfl) rfl rfl ?_ | refine dV (S_alloc 2 rfl) rfl rfl ?_ | refine dV (S_alloc 3 rfl) rfl rfl ?_ | refine dV (S_alloc 4 rfl) rfl rfl ?_ | refine dV (S_alloc 5 rfl) rfl rfl ?_ | refine dV (S_alloc 6 rfl) rfl rfl ?_ | refine dV (S_alloc 7 rfl) rfl rfl ?_)
    | refine WD_nil (by first | decide +kernel | kernel_rfl | rfl) ?_
  · rename_i h
    rw [who, if_pos h]; exact Le.of_eq rfl
  · rename_i h h'
    rw [who, if_neg h, if_pos h']; exact Le.of_eq rfl
  · rename_i h h'
    rw [who, if_neg h, if_neg h']; exact Le.of_eq rfl
set_option maxHeartbeats 4000000 in
theorem what1_pc [GlobF Tryd.prog] (t : Trm) : PC Tryd.prog 97 [.ag (tC t)] (.ag (nC (what t))) := by
  refine PC.of_body Tryd.func97 Tryd.ntmps97 rfl rfl rfl ?_
  repeat' first
    | (apply p1 (hd := rfl); case hop => first | (apply D_pc (who1_pc t.e); rfl; exact .same rfl .nil) | (apply D_pc (node1_pc t.v); rfl; exact .same rfl .nil) | (apply D_load1; rfl) | (apply D_fld; rfl) | (apply D_loadW; rfl; rfl) | (apply D_loadA; rfl; rfl) | (apply D_box; rfl; rfl) | exact D_fldB rfl)
    | refine W_seq ?_
    | refine W_region ?_
    | (refine idC ?_; first | refine c1 rfl ?_ | refine c0 rfl ?_ | refine cs rfl (fun _ => ?_) (fun _ => ?_))
    | refine WL_nil ?_
    | refine tn ?_
    | refine tr ?_
    | refine br ?_
    | refine bn ?_
    | refine te ?_
    | (refine idB ?_; first | refine bh rfl ?_ | refine bm rfl ?_)
    | refine W_skip ?_
    | refine W_block ?_
    | refine W_exit ?_
    | refine W_ret ?_
    | refine W_label ?_
    | refine W_scope ?_
    | refine sn ?_
    | refine sr ?_
    | refine se ?_
    | (refine idR ?_; first | refine ret1 rfl rfl rfl ?_ | refine rL1 rfl (by first | exact trivial | exact ⟨rfl, trivial⟩) (by first | exact ResO.tmp rfl | exact ResO.cellBA rfl rfl rfl | exact ResO.cellB1 rfl rfl rfl | exact ResO.cellEA rfl rfl | exact ResO.cellE1 rfl) ?_)
    | (refine idLd ?_; first | refine p1L (D_loadB1 rfl rfl rfl) rfl ?_ | refine p1L (D_loadBA rfl rfl rfl) rfl ?_ | refine p1L (D_loadB1 rfl (by (repeat first | assumption | exact get_last | (refine get_last2 ?_; focus (simp; done)) | apply get_set | apply get_app | (apply get_ne; focus omega) | (apply get_ne; focus (simp only [List.length_set, List.length_append, List.length_cons, List.length_nil]; omega))); done) (by rfl)) rfl ?_ | refine p1L (D_loadBA rfl (by (repeat first | assumption | exact get_last | (refine get_last2 ?_; focus (simp; done)) | apply get_set | apply get_app | (apply get_ne; focus omega) | (apply get_ne; focus (simp only [List.length_set, List.length_append, List.length_cons, List.length_nil]; omega))); done) (by rfl)) rfl ?_)
    | (refine idA ?_; first | refine m_var rfl rfl rfl rfl rfl rfl rfl ?_ | refine m_alloc rfl ?_)
    | (refine idS ?_; first | refine pS (S_store rfl rfl rfl rfl rfl rfl rfl) ?_ | refine pS (S_store rfl rfl rfl (by (repeat first | assumption | exact get_last | (refine get_last2 ?_; focus (simp; done)) | apply get_set | apply get_app | (apply get_ne; focus omega) | (apply get_ne; focus (simp only [List.length_set, List.length_append, List.length_cons, List.length_nil]; omega))); done) (by rfl) (by rfl) (by rfl)) ?_)
    | refine Le.bool ?_
    | refine Le.int ?_
    | refine Le.str ?_
  · rename_i h
    rw [what, if_pos h]; exact Le.of_eq rfl
  · rename_i h
    rw [what, if_neg (by rw [h]; decide)]; exact Le.of_eq rfl
end Go.Proofs
