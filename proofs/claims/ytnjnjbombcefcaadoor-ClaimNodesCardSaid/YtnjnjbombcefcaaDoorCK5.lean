/- Contracts of forms' functions: the reference's Write. -/
import Derived.Test.YtnjnjbombcefcaaDoorCK4
namespace Go.Proofs
open Go.AL
attribute [local irreducible] Go.AL.W Go.AL.WL Go.AL.WD Go.AL.POp Go.AL.PPOp Go.AL.POpS Go.AL.PC Go.AL.AC Go.AL.YW Go.AL.Ret Go.AL.Le Go.AL.thn Go.AL.inBlk Go.AL.scp

noncomputable def formB (f : Frm) (b : Bool) : List (List AV) := [nC (noS (wordS f.op)), nC (who f.e)] ++ opt (f.op ≠ 3) (noV (wordV f.a)) ++ opt (f.op = 4) (what f.old) ++ opt (f.op ≠ 3) (what f.v) ++ opt (b = true) (noL 4 [nC (noV ⟨6, f.fr, []⟩), nC (noV ⟨6, f.to, []⟩)])
instance (f : Frm) (b : Bool) : PurLL (formB f b) := by unfold formB; infer_instance
theorem formB_eq {f : Frm} {b : Bool} (h : b = true ↔ spanP f) : formB f b = formL f := by
  unfold formB formL
  rw [show (b = true) = spanP f from propext h]
set_option maxHeartbeats 16000000 in
theorem fnode1_pc [GlobF Tryd.prog] (f : Frm) (b : Bool) (ho1 : 1 ≤ f.op) (ho4 : f.op ≤ 4) : PC Tryd.prog 56 [.ag (fC f), .sc (.bool b)] (.ag (nC (noL 3 (formB f b)))) := by
  have he : (wl.map fun s => [str s])[f.op.toNat]? = some [str (wordS f.op)] := by
    have : f.op = 1 ∨ f.op = 2 ∨ f.op = 3 ∨ f.op = 4 := by omega
    rcases this with h | h | h | h <;> rw [h] <;> rfl
  refine PC.of_body Tryd.func56 Tryd.ntmps56 rfl rfl rfl ?_
  refine W_resv 1 ?_
  repeat' first
    | (refine dV (d := 19) (S_lit 0 rfl rfl rfl rfl rfl rfl) rfl rfl ?_)
    | (apply p1 (hd := rfl); case hop => first | (apply D_move; rfl) | (apply D_assign; rfl) | exact PPOp.wk (D_build rfl) nodk | exact PPOp.wk (D_build rfl) nodi | exact D_idxE rfl rfl (by omega) he | (apply D_pc (who1_pc f.e); rfl; exact .same rfl .nil) | (apply D_pc (name1_pc (wordS f.op)); rfl; exact .same rfl .nil) | (apply D_pc (node1_pc (wordV f.a)); rfl; exact .same rfl .nil) | (apply D_pc (what1_pc f.old); rfl; exact .same rfl .nil) | (apply D_pc (what1_pc f.v); rfl; exact .same rfl .nil) | (apply D_pc (node1_pc ⟨6, f.fr, []⟩); rfl; exact .same rfl .nil) | (apply D_pc (node1_pc ⟨6, f.to, []⟩); rfl; exact .same rfl .nil) | (apply D_load1; rfl) | (apply D_fld; rfl) | (apply D_int; rfl; rfl; rfl) | (apply D_loadW; rfl; rfl) | (apply D_loadA; rfl; rfl) | (apply D_box; rfl; rfl) | (apply D_idxAn; rfl; rfl; (first | omega | (simp; done))) | (apply D_idxA; rfl; rfl; omega; (first | omega | (simp; done) | (simp; omega))) | (apply D_idxA0; rfl; rfl; omega; (first | omega | (simp; done) | (simp; omega))) | (apply D_lit; rfl; rfl; rfl; rfl) | exact D_build rfl | exact D_buildA rfl | exact D_fldB rfl | (apply D_ixRn; rfl; rfl; (first | omega | (simp; done))) | (apply D_ixR; rfl; rfl; all_goals first | omega | ((repeat rw [w64 _ (by omega) (by omega)]); omega) | decide))
    | refine W_seq ?_
    | refine W_region ?_
    | (refine idC ?_; first | refine c1 rfl ?_ | refine c0 rfl ?_ | refine cs rfl (fun _ => ?_) (fun _ => ?_))
    | refine WL_nil ?_
    | refine tn ?_
    | refine tr ?_
    | refine br ?_
    | refine bn ?_
    | refine te ?_
    | (refine idB ?_; first | refine bh rfl ?_ | refine bm rfl ?_)
    | refine W_skip ?_
    | refine W_block ?_
    | refine W_exit ?_
    | refine W_ret ?_
    | refine W_label ?_
    | refine W_scope ?_
    | refine sn ?_
    | refine sr ?_
    | refine se ?_
    | (refine idR ?_; first | refine ret1 rfl rfl rfl ?_ | refine rL1 rfl (by first | exact trivial | exact ⟨rfl, trivial⟩) (by first | exact ResO.tmp rfl | exact ResO.cellBA rfl rfl rfl | exact ResO.cellB1 rfl rfl rfl | exact ResO.cellEA rfl rfl | exact ResO.cellE1 rfl) ?_)
    | (refine idLd ?_; first | refine p1L (D_loadB1 rfl rfl rfl) rfl ?_ | refine p1L (D_loadBA rfl rfl rfl) rfl ?_ | refine p1L (D_loadB1 rfl (by (repeat first | assumption | exact get_last | (refine get_last2 ?_; focus (simp; done)) | apply get_set | apply get_app | (apply get_ne; focus omega) | (apply get_ne; focus (simp only [List.length_set, List.length_append, List.length_cons, List.length_nil]; omega))); done) (by rfl)) rfl ?_ | refine p1L (D_loadBA rfl (by (repeat first | assumption | exact get_last | (refine get_last2 ?_; focus (simp; done)) | apply get_set | apply get_app | (apply get_ne; focus omega) | (apply get_ne; focus (simp only [List.length_set, List.length_append, List.length_cons, List.length_nil]; omega))); done) (by rfl)) rfl ?_)
    | (refine idA ?_; first | refine m_var rfl rfl rfl rfl rfl rfl rfl ?_ | refine m_alloc rfl ?_)
    | (refine idS ?_; first | refine pS (S_store rfl rfl rfl rfl rfl rfl rfl) ?_ | refine pS (S_store rfl rfl rfl (by (repeat first | assumption | exact get_last | (refine get_last2 ?_; focus (simp; done)) | apply get_set | apply get_app | (apply get_ne; focus omega) | (apply get_ne; focus (simp only [List.length_set, List.length_append, List.length_cons, List.length_nil]; omega))); done) (by rfl) (by rfl) (by rfl)) ?_)
    | refine Le.bool ?_
    | refine Le.int ?_
    | refine Le.str ?_
    | (refine idAp ?_; refine m_app rfl rfl (by first | rfl | assumption | exact get_set (by assumption) | exact get_set (get_set (by assumption)) | exact get_set (get_set (get_set (by assumption))) | ((repeat first | assumption | exact get_last | (refine get_last2 ?_; focus (simp; done)) | apply get_set | apply get_app | (apply get_ne; focus omega)); done)) ?_ rfl rfl ?_ ?_ rfl ?_; (first | rfl | focus (simp only [List.length_map, List.length_append, List.length_cons, List.length_nil]; omega) | focus (simp; done) | focus (simp; omega)); (first | focus (simp only [List.length_map, List.length_append, List.length_cons, List.length_nil]; omega) | focus (simp; done) | focus (simp; omega)); (first | focus (simp only [List.length_map, List.length_append, List.length_cons, List.length_nil]; omega) | focus (simp; done) | focus (simp; omega)))
    | (refine idAp ?_; refine m_appB rfl rfl rfl (by first | rfl | assumption | exact get_set (by assumption) | exact get_set (get_set (by assumption)) | exact get_set (get_set (get_set (by assumption))) | ((repeat first | assumption | exact get_last | (refine get_last2 ?_; focus (simp; done)) | apply get_set | apply get_app | (apply get_ne; focus omega)); done)) ?_ rfl rfl ?_ ?_ rfl ?_; (first | rfl | focus (simp only [List.length_map, List.length_append, List.length_cons, List.length_nil]; omega) | focus (simp; done) | focus (simp; omega)); (first | focus (simp only [List.length_map, List.length_append, List.length_cons, List.length_nil]; omega) | focus (simp; done) | focus (simp; omega)); (first | focus (simp only [List.length_map, List.length_append, List.length_cons, List.length_nil]; omega) | focus (simp; done) | focus (simp; omega)))
    | (refine idW ?_; first | refine W_draw0 rfl ?_ | refine W_draw1 rfl ?_ | refine W_draw2 rfl ?_ | refine W_draw3 rfl ?_)
    | (apply d1 (hd := rfl); case hop => first | (apply D_move; rfl) | (apply D_assign; rfl) | exact PPOp.wk (D_build rfl) nodk | exact PPOp.wk (D_build rfl) nodi | exact D_idxE rfl rfl (by omega) he | (apply D_pc (who1_pc f.e); rfl; exact .same rfl .nil) | (apply D_pc (name1_pc (wordS f.op)); rfl; exact .same rfl .nil) | (apply D_pc (node1_pc (wordV f.a)); rfl; exact .same rfl .nil) | (apply D_pc (what1_pc f.old); rfl; exact .same rfl .nil) | (apply D_pc (what1_pc f.v); rfl; exact .same rfl .nil) | (apply D_pc (node1_pc ⟨6, f.fr, []⟩); rfl; exact .same rfl .nil) | (apply D_pc (node1_pc ⟨6, f.to, []⟩); rfl; exact .same rfl .nil) | (apply D_load1; rfl) | (apply D_fld; rfl) | (apply D_int; rfl; rfl; rfl) | (apply D_loadW; rfl; rfl) | (apply D_loadA; rfl; rfl) | (apply D_box; rfl; rfl) | (apply D_idxAn; rfl; rfl; (first | omega | (simp; done))) | (apply D_idxA; rfl; rfl; omega; (first | omega | (simp; done) | (simp; omega))) | (apply D_idxA0; rfl; rfl; omega; (first | omega | (simp; done) | (simp; omega))) | (apply D_lit; rfl; rfl; rfl; rfl) | exact D_build rfl | exact D_buildA rfl | exact D_fldB rfl | (apply D_ixRn; rfl; rfl; (first | omega | (simp; done))) | (apply D_ixR; rfl; rfl; all_goals first | omega | ((repeat rw [w64 _ (by omega) (by omega)]); omega) | decide))
    | (refine idDn ?_; first | refine dL _ (fun hp' hs => D_loadB1 rfl (hs.trans rfl) rfl) rfl ?_ | refine dL _ (fun hp' hs => D_loadBA rfl (hs.trans rfl) rfl) rfl ?_ | refine dS (S_store rfl rfl rfl rfl rfl rfl rfl) rfl ?_ | refine dV (S_alloc 0 rfl) rfl rfl ?_ | refine dV (S_alloc 1 rfl) rfl rfl ?_ | refine dV (S_alloc 2 rfl) rfl rfl ?_ | refine dV (S_alloc 3 rfl) rfl rfl ?_ | refine dV (S_alloc 4 rfl) rfl rfl ?_ | refine dV (S_alloc 5 rfl) rfl rfl ?_ | refine dV (S_alloc 6 rfl) rfl rfl ?_ | refine dV (S_alloc 7 rfl) rfl rfl ?_)
    | refine WD_nil (by first | decide +kernel | kernel_rfl | rfl) ?_
  all_goals first
    | (exfalso; omega)
    | (refine le_node 3 _ ?_; clear he; simp_all [formB, opt, val0]; done)
    | trace_state
end Go.Proofs
