/- Contracts of forms' functions: Write. -/
import Derived.Test.YtnjnjbombcefcaaDoorCK3
namespace Go.Proofs
open Go.AL
attribute [local irreducible] Go.AL.W Go.AL.WL Go.AL.WD Go.AL.POp Go.AL.PPOp Go.AL.POpS Go.AL.PC Go.AL.AC Go.AL.YW Go.AL.Ret Go.AL.Le Go.AL.thn Go.AL.inBlk Go.AL.scp

def wl : List (List UInt8) := [[], [97, 100, 100], [99, 117, 116], [103, 111, 110, 101], [115, 119, 97, 112]]
def wordS (i : Int) : List UInt8 := wl.getD i.toNat []
/-- What the package's table of words holds. -/
def WordsOK [GlobF Tryd.prog] : Prop := ∀ i : Nat, i < 5 → GlobF.f Tryd.prog 0 i = some (.string ⟨(wl.getD i []).toArray⟩)
open Classical in
noncomputable def opt (p : Prop) (x : Nod) : List (List AV) := if p then [nC x] else []
theorem opt_t {p : Prop} {x : Nod} (h : p) : opt p x = [nC x] := if_pos h
theorem opt_f {p : Prop} {x : Nod} (h : ¬ p) : opt p x = [] := if_neg h
def spanP (f : Frm) : Prop := f.fr ≠ -9223372036854775808 ∨ f.to ≠ 9223372036854775807
noncomputable def formL (f : Frm) : List (List AV) := [nC (noS (wordS f.op)), nC (who f.e)] ++ opt (f.op ≠ 3) (noV (wordV f.a)) ++ opt (f.op = 4) (what f.old) ++ opt (f.op ≠ 3) (what f.v) ++ opt (spanP f) (noL 4 [nC (noV ⟨6, f.fr, []⟩), nC (noV ⟨6, f.to, []⟩)])
open Classical in
noncomputable def wrN (f : Frm) : Nod := if frmP f then noL 3 (formL f) else nod0
open Classical in
noncomputable def wrE (f : Frm) : Int := if frmP f then 0 else 90
theorem frm_op {f : Frm} (h : frmP f) : 1 ≤ f.op ∧ f.op ≤ 4 := by
  rcases h.2.2 with ⟨h, _⟩ | ⟨h, _⟩ | ⟨h, _⟩ <;> omega
theorem le_node (k : Int) (tok : Option Nat) {els els' : List (List AV)} (h : els = els') [hs : PurLL els'] : Le (.ag [.sc (.int .i64 k), .sc (.int .i64 0), .sc (.int .i64 0), str [], str [], .sl tok 8 els, .sc (.int .i64 0), .sc (.int .i64 0)]) (.ag (nC (noL k els'))) :=
  Le.ag ⟨Le.of_eq rfl, Le.of_eq rfl, Le.of_eq rfl, Le.of_eq rfl, Le.of_eq rfl, Le.tokq h, Le.of_eq rfl, Le.of_eq rfl, trivial⟩
instance (p : Prop) (x : Nod) [h : PurLL x.kids] : PurLL (opt p x) := by
  unfold opt
  split
  · exact inferInstanceAs (PurLL [nC x])
  · exact inferInstanceAs (PurLL [])
instance (f : Frm) : PurLL (formL f) := by unfold formL; infer_instance

set_option maxHeartbeats 16000000 in
theorem fwrite_pc [GlobF Tryd.prog] (hW : WordsOK) (f : Frm) (hs : frmS f) : PC Tryd.prog 23 [.ag (fC f)] (.tu [.ag (nC (wrN f)), .sc (.int .i64 (wrE f))]) := by
  have hc := fcheck_pc f hs
  by_cases hp : frmP f
  rotate_left 1
  · rw [dP_f.mpr hp, if_neg (by decide)] at hc
    rw [wrN, wrE, if_neg hp, if_neg hp]
    refine PC.of_body Tryd.func23 Tryd.ntmps23 rfl rfl rfl ?_
    repeat' first
      | (apply p1 (hd := rfl); case hop => first | (apply D_move; rfl) | (apply D_assign; rfl) | exact PPOp.wk (D_build rfl) nodk | exact PPOp.wk (D_build rfl) nodi | (apply D_pc hc; rfl; exact .same rfl .nil) | exact D_neD rfl rfl | (apply D_load1; rfl) | (apply D_fld; rfl) | (apply D_pickT; rfl; rfl) | (apply D_pickF; rfl; rfl) | (apply D_int; rfl; rfl; rfl) | (apply D_loadW; rfl; rfl) | (apply D_loadA; rfl; rfl) | (apply D_box; rfl; rfl) | (apply D_lit; rfl; rfl; rfl; rfl) | exact D_build rfl | exact D_buildA rfl | exact D_fldB rfl | (apply D_ixPE; rfl; rfl; all_goals first | omega | ((repeat rw [w64 _ (by omega) (by omega)]); omega) | decide) | (apply D_ixPB; rfl; rfl; all_goals first | omega | ((repeat rw [w64 _ (by omega) (by omega)]); omega) | decide))
      | refine W_seq ?_
      | refine W_region ?_
      | (refine idC ?_; first | refine c1 rfl ?_ | refine c0 rfl ?_ | refine cs rfl (fun _ => ?_) (fun _ => ?_))
      | refine WL_nil ?_
      | (refine idG ?_; first | refine g0t rfl rfl rfl ?_ | refine g0f rfl rfl rfl ?_ | refine g0u rfl rfl rfl ?_ | refine gr rfl rfl ?_ | refine gs rfl rfl (fun _ => ?_) (fun _ => ?_) | refine grn rfl rfl ?_)
      | refine tn ?_
      | refine tr ?_
      | refine br ?_
      | refine bn ?_
      | refine te ?_
      | (refine idB ?_; first | refine bh rfl ?_ | refine bm rfl ?_)
      | refine W_skip ?_
      | refine W_block ?_
      | refine W_exit ?_
      | refine W_ret ?_
      | refine W_label ?_
      | refine W_scope ?_
      | refine sn ?_
      | refine sr ?_
      | refine se ?_
      | (refine idR ?_; first | refine ret2 rfl rfl rfl rfl ?_ ?_ | refine rL2 rfl (by first | exact trivial | exact ⟨rfl, trivial⟩) (by first | exact ResO.tmp rfl | exact ResO.cellBA rfl rfl rfl | exact ResO.cellB1 rfl rfl rfl | exact ResO.cellEA rfl rfl | exact ResO.cellE1 rfl) (by first | exact ResO.tmp rfl | exact ResO.cellBA rfl rfl rfl | exact ResO.cellB1 rfl rfl rfl | exact ResO.cellEA rfl rfl | exact ResO.cellE1 rfl) ?_ ?_)
      | (refine idLd ?_; first | refine p1L (D_loadB1 rfl rfl rfl) rfl ?_ | refine p1L (D_loadBA rfl rfl rfl) rfl ?_ | refine p1L (D_loadB1 rfl (by (repeat first | assumption | exact get_last | (refine get_last2 ?_; focus (simp; done)) | apply get_set | apply get_app | (apply get_ne; focus omega) | (apply get_ne; focus (simp only [List.length_set, List.length_append, List.length_cons, List.length_nil]; omega))); done) (by rfl)) rfl ?_ | refine p1L (D_loadBA rfl (by (repeat first | assumption | exact get_last | (refine get_last2 ?_; focus (simp; done)) | apply get_set | apply get_app | (apply get_ne; focus omega) | (apply get_ne; focus (simp only [List.length_set, List.length_append, List.length_cons, List.length_nil]; omega))); done) (by rfl)) rfl ?_)
      | (refine idA ?_; first | refine m_var rfl rfl rfl rfl rfl rfl rfl ?_ | refine m_alloc rfl ?_)
      | (refine idS ?_; first | refine pS (S_store rfl rfl rfl rfl rfl rfl rfl) ?_ | refine pS (S_store rfl rfl rfl (by (repeat first | assumption | exact get_last | (refine get_last2 ?_; focus (simp; done)) | apply get_set | apply get_app | (apply get_ne; focus omega) | (apply get_ne; focus (simp only [List.length_set, List.length_append, List.length_cons, List.length_nil]; omega))); done) (by rfl) (by rfl) (by rfl)) ?_)
      | refine Le.bool ?_
      | refine Le.int ?_
      | refine Le.str ?_
      | (refine idAp ?_; refine m_app rfl rfl (by first | rfl | assumption | exact get_set (by assumption) | exact get_set (get_set (by assumption)) | exact get_set (get_set (get_set (by assumption))) | ((repeat first | assumption | exact get_last | (refine get_last2 ?_; focus (simp; done)) | apply get_set | apply get_app | (apply get_ne; focus omega)); done)) ?_ rfl rfl ?_ ?_ rfl ?_; (first | rfl | focus (simp only [List.length_map, List.length_append, List.length_cons, List.length_nil]; omega) | focus (simp; done) | focus (simp; omega)); (first | focus (simp only [List.length_map, List.length_append, List.length_cons, List.length_nil]; omega) | focus (simp; done) | focus (simp; omega)); (first | focus (simp only [List.length_map, List.length_append, List.length_cons, List.length_nil]; omega) | focus (simp; done) | focus (simp; omega)))
      | (refine idAp ?_; refine m_appB rfl rfl rfl (by first | rfl | assumption | exact get_set (by assumption) | exact get_set (get_set (by assumption)) | exact get_set (get_set (get_set (by assumption))) | ((repeat first | assumption | exact get_last | (refine get_last2 ?_; focus (simp; done)) | apply get_set | apply get_app | (apply get_ne; focus omega)); done)) ?_ rfl rfl ?_ ?_ rfl ?_; (first | rfl | focus (simp only [List.length_map, List.length_append, List.length_cons, List.length_nil]; omega) | focus (simp; done) | focus (simp; omega)); (first | focus (simp only [List.length_map, List.length_append, List.length_cons, List.length_nil]; omega) | focus (simp; done) | focus (simp; omega)); (first | focus (simp only [List.length_map, List.length_append, List.length_cons, List.length_nil]; omega) | focus (simp; done) | focus (simp; omega)))
      | (refine idW ?_; first | refine W_draw0 rfl ?_ | refine W_draw1 rfl ?_ | refine W_draw2 rfl ?_ | refine W_draw3 rfl ?_)
      | (apply d1 (hd := rfl); case hop => first | (apply D_move; rfl) | (apply D_assign; rfl) | exact PPOp.wk (D_build rfl) nodk | exact PPOp.wk (D_build rfl) nodi | (apply D_pc hc; rfl; exact .same rfl .nil) | exact D_neD rfl rfl | (apply D_load1; rfl) | (apply D_fld; rfl) | (apply D_pickT; rfl; rfl) | (apply D_pickF; rfl; rfl) | (apply D_int; rfl; rfl; rfl) | (apply D_loadW; rfl; rfl) | (apply D_loadA; rfl; rfl) | (apply D_box; rfl; rfl) | (apply D_lit; rfl; rfl; rfl; rfl) | exact D_build rfl | exact D_buildA rfl | exact D_fldB rfl | (apply D_ixPE; rfl; rfl; all_goals first | omega | ((repeat rw [w64 _ (by omega) (by omega)]); omega) | decide) | (apply D_ixPB; rfl; rfl; all_goals first | omega | ((repeat rw [w64 _ (by omega) (by omega)]); omega) | decide))
      | (refine idDg ?_; first | refine dg0t rfl rfl rfl ?_ | refine dg0f rfl rfl rfl ?_ | refine dg0u rfl rfl rfl ?_ | refine dgr rfl rfl ?_ | refine dgs rfl rfl (fun _ => ?_) (fun _ => ?_))
      | (refine idDn ?_; first | refine dL _ (fun hp' hs => D_loadB1 rfl (hs.trans rfl) rfl) rfl ?_ | refine dL _ (fun hp' hs => D_loadBA rfl (hs.trans rfl) rfl) rfl ?_ | refine dS (S_store rfl rfl rfl rfl rfl rfl rfl) rfl ?_ | refine dV (S_alloc 0 rfl) rfl rfl ?_ | refine dV (S_alloc 1 rfl) rfl rfl ?_ | refine dV (S_alloc 2 rfl) rfl rfl ?_ | refine dV (S_alloc 3 rfl) rfl rfl ?_ | refine dV (S_alloc 4 rfl) rfl rfl ?_ | refine dV (S_alloc 5 rfl) rfl rfl ?_ | refine dV (S_alloc 6 rfl) rfl rfl ?_ | refine dV (S_alloc 7 rfl) rfl rfl ?_)
      | refine WD_nil (by first | decide +kernel | kernel_rfl | rfl) ?_
    all_goals first
      | exact Le.of_eq rfl
      | rfl
      | trace_state
  rw [dP_t.mpr hp, if_pos rfl] at hc
  rw [wrN, wrE, if_pos hp, if_pos hp]
  obtain ⟨ho1, ho4⟩ := frm_op hp
  have hg : GlobF.f Tryd.prog 0 (f.op.toNat * 1) = some (.string ⟨(wordS f.op).toArray⟩) := by
    rw [Nat.mul_one]; exact hW _ (by omega)
  refine PC.of_body Tryd.func23 Tryd.ntmps23 rfl rfl rfl ?_
  refine W_resv 1 ?_
  repeat' first
    | (refine dV (d := 20) (S_lit 0 rfl rfl rfl rfl rfl rfl) rfl rfl ?_)
    | (refine dV (d := 69) (S_app rfl rfl rfl ?_ rfl rfl ?_ ?_) rfl rfl ?_; (first | rfl | focus (simp; done)); (focus (simp; done)); (focus (simp; done)))
    | (apply p1 (hd := rfl); case hop => first | (apply D_move; rfl) | (apply D_assign; rfl) | exact PPOp.wk (D_build rfl) nodk | exact PPOp.wk (D_build rfl) nodi | (apply D_pc hc; rfl; exact .same rfl .nil) | (apply D_pc (nodeOf_pc f.e); rfl; exact .same rfl .nil) | exact D_ixG rfl rfl (by omega) (by omega) hg | (apply D_pc (word_v_pc f.a); rfl; exact .same rfl .nil) | (apply D_pc (node_pc (wordV f.a)); rfl; exact .same rfl .nil) | (apply D_pc (said_pc f.old); rfl; exact .same rfl .nil) | (apply D_pc (said_pc f.v); rfl; exact .same rfl .nil) | (apply D_pc (node_pc ⟨6, f.fr, []⟩); rfl; exact .same rfl .nil) | (apply D_pc (node_pc ⟨6, f.to, []⟩); rfl; exact .same rfl .nil) | (apply D_load1; rfl) | (apply D_fld; rfl) | (apply D_pickT; rfl; rfl) | (apply D_pickF; rfl; rfl) | (apply D_int; rfl; rfl; rfl) | (apply D_loadW; rfl; rfl) | (apply D_loadA; rfl; rfl) | (apply D_box; rfl; rfl) | (apply D_lit; rfl; rfl; rfl; rfl) | exact D_build rfl | exact D_buildA rfl | exact D_fldB rfl | (apply D_ixPE; rfl; rfl; all_goals first | omega | ((repeat rw [w64 _ (by omega) (by omega)]); omega) | decide) | (apply D_ixPB; rfl; rfl; all_goals first | omega | ((repeat rw [w64 _ (by omega) (by omega)]); omega) | decide))
    | refine W_seq ?_
    | refine W_region ?_
    | (refine idC ?_; first | refine c1 rfl ?_ | refine c0 rfl ?_ | refine cs rfl (fun _ => ?_) (fun _ => ?_))
    | refine WL_nil ?_
    | (refine idG ?_; first | refine g0t rfl rfl rfl ?_ | refine g0f rfl rfl rfl ?_ | refine g0u rfl rfl rfl ?_ | refine gr rfl rfl ?_ | refine gs rfl rfl (fun _ => ?_) (fun _ => ?_) | refine grn rfl rfl ?_)
    | refine tn ?_
    | refine tr ?_
    | refine br ?_
    | refine bn ?_
    | refine te ?_
    | (refine idB ?_; first | refine bh rfl ?_ | refine bm rfl ?_)
    | refine W_skip ?_
    | refine W_block ?_
    | refine W_exit ?_
    | refine W_ret ?_
    | refine W_label ?_
    | refine W_scope ?_
    | refine sn ?_
    | refine sr ?_
    | refine se ?_
    | (refine idR ?_; first | refine ret2 rfl rfl rfl rfl ?_ ?_ | refine rL2 rfl (by first | exact trivial | exact ⟨rfl, trivial⟩) (by first | exact ResO.tmp rfl | exact ResO.cellBA rfl rfl rfl | exact ResO.cellB1 rfl rfl rfl | exact ResO.cellEA rfl rfl | exact ResO.cellE1 rfl) (by first | exact ResO.tmp rfl | exact ResO.cellBA rfl rfl rfl | exact ResO.cellB1 rfl rfl rfl | exact ResO.cellEA rfl rfl | exact ResO.cellE1 rfl) ?_ ?_)
    | (refine idLd ?_; first | refine p1L (D_loadB1 rfl rfl rfl) rfl ?_ | refine p1L (D_loadBA rfl rfl rfl) rfl ?_ | refine p1L (D_loadB1 rfl (by (repeat first | assumption | exact get_last | (refine get_last2 ?_; focus (simp; done)) | apply get_set | apply get_app | (apply get_ne; focus omega) | (apply get_ne; focus (simp only [List.length_set, List.length_append, List.length_cons, List.length_nil]; omega))); done) (by rfl)) rfl ?_ | refine p1L (D_loadBA rfl (by (repeat first | assumption | exact get_last | (refine get_last2 ?_; focus (simp; done)) | apply get_set | apply get_app | (apply get_ne; focus omega) | (apply get_ne; focus (simp only [List.length_set, List.length_append, List.length_cons, List.length_nil]; omega))); done) (by rfl)) rfl ?_)
    | (refine idA ?_; first | refine m_var rfl rfl rfl rfl rfl rfl rfl ?_ | refine m_alloc rfl ?_)
    | (refine idS ?_; first | refine pS (S_store rfl rfl rfl rfl rfl rfl rfl) ?_ | refine pS (S_store rfl rfl rfl (by (repeat first | assumption | exact get_last | (refine get_last2 ?_; focus (simp; done)) | apply get_set | apply get_app | (apply get_ne; focus omega) | (apply get_ne; focus (simp only [List.length_set, List.length_append, List.length_cons, List.length_nil]; omega))); done) (by rfl) (by rfl) (by rfl)) ?_)
    | refine Le.bool ?_
    | refine Le.int ?_
    | refine Le.str ?_
    | (refine idAp ?_; refine m_app rfl rfl (by first | rfl | assumption | exact get_set (by assumption) | exact get_set (get_set (by assumption)) | exact get_set (get_set (get_set (by assumption))) | ((repeat first | assumption | exact get_last | (refine get_last2 ?_; focus (simp; done)) | apply get_set | apply get_app | (apply get_ne; focus omega)); done)) ?_ rfl rfl ?_ ?_ rfl ?_; (first | rfl | focus (simp only [List.length_map, List.length_append, List.length_cons, List.length_nil]; omega) | focus (simp; done) | focus (simp; omega)); (first | focus (simp only [List.length_map, List.length_append, List.length_cons, List.length_nil]; omega) | focus (simp; done) | focus (simp; omega)); (first | focus (simp only [List.length_map, List.length_append, List.length_cons, List.length_nil]; omega) | focus (simp; done) | focus (simp; omega)))
    | (refine idAp ?_; refine m_appB rfl rfl rfl (by first | rfl | assumption | exact get_set (by assumption) | exact get_set (get_set (by assumption)) | exact get_set (get_set (get_set (by assumption))) | ((repeat first | assumption | exact get_last | (refine get_last2 ?_; focus (simp; done)) | apply get_set | apply get_app | (apply get_ne; focus omega)); done)) ?_ rfl rfl ?_ ?_ rfl ?_; (first | rfl | focus (simp only [List.length_map, List.length_append, List.length_cons, List.length_nil]; omega) | focus (simp; done) | focus (simp; omega)); (first | focus (simp only [List.length_map, List.length_append, List.length_cons, List.length_nil]; omega) | focus (simp; done) | focus (simp; omega)); (first | focus (simp only [List.length_map, List.length_append, List.length_cons, List.length_nil]; omega) | focus (simp; done) | focus (simp; omega)))
    | (refine idW ?_; first | refine W_draw0 rfl ?_ | refine W_draw1 rfl ?_ | refine W_draw2 rfl ?_ | refine W_draw3 rfl ?_)
    | (apply d1 (hd := rfl); case hop => first | (apply D_move; rfl) | (apply D_assign; rfl) | exact PPOp.wk (D_build rfl) nodk | exact PPOp.wk (D_build rfl) nodi | (apply D_pc hc; rfl; exact .same rfl .nil) | (apply D_pc (nodeOf_pc f.e); rfl; exact .same rfl .nil) | exact D_ixG rfl rfl (by omega) (by omega) hg | (apply D_pc (word_v_pc f.a); rfl; exact .same rfl .nil) | (apply D_pc (node_pc (wordV f.a)); rfl; exact .same rfl .nil) | (apply D_pc (said_pc f.old); rfl; exact .same rfl .nil) | (apply D_pc (said_pc f.v); rfl; exact .same rfl .nil) | (apply D_pc (node_pc ⟨6, f.fr, []⟩); rfl; exact .same rfl .nil) | (apply D_pc (node_pc ⟨6, f.to, []⟩); rfl; exact .same rfl .nil) | (apply D_load1; rfl) | (apply D_fld; rfl) | (apply D_pickT; rfl; rfl) | (apply D_pickF; rfl; rfl) | (apply D_int; rfl; rfl; rfl) | (apply D_loadW; rfl; rfl) | (apply D_loadA; rfl; rfl) | (apply D_box; rfl; rfl) | (apply D_lit; rfl; rfl; rfl; rfl) | exact D_build rfl | exact D_buildA rfl | exact D_fldB rfl | (apply D_ixPE; rfl; rfl; all_goals first | omega | ((repeat rw [w64 _ (by omega) (by omega)]); omega) | decide) | (apply D_ixPB; rfl; rfl; all_goals first | omega | ((repeat rw [w64 _ (by omega) (by omega)]); omega) | decide))
    | (refine idDg ?_; first | refine dg0t rfl rfl rfl ?_ | refine dg0f rfl rfl rfl ?_ | refine dg0u rfl rfl rfl ?_ | refine dgr rfl rfl ?_ | refine dgs rfl rfl (fun _ => ?_) (fun _ => ?_))
    | (refine idDn ?_; first | refine dL _ (fun hp' hs => D_loadB1 rfl (hs.trans rfl) rfl) rfl ?_ | refine dL _ (fun hp' hs => D_loadBA rfl (hs.trans rfl) rfl) rfl ?_ | refine dS (S_store rfl rfl rfl rfl rfl rfl rfl) rfl ?_ | refine dV (S_alloc 0 rfl) rfl rfl ?_ | refine dV (S_alloc 1 rfl) rfl rfl ?_ | refine dV (S_alloc 2 rfl) rfl rfl ?_ | refine dV (S_alloc 3 rfl) rfl rfl ?_ | refine dV (S_alloc 4 rfl) rfl rfl ?_ | refine dV (S_alloc 5 rfl) rfl rfl ?_ | refine dV (S_alloc 6 rfl) rfl rfl ?_ | refine dV (S_alloc 7 rfl) rfl rfl ?_)
    | refine WD_nil (by first | decide +kernel | kernel_rfl | rfl) ?_
  all_goals first
    | (exfalso; rename_i h; exact absurd rfl h)
    | (exfalso; omega)
    | rfl
    | (refine le_node 3 _ ?_; clear hg hc hs hp hW; simp_all [formL, opt, spanP, val0]; done)
    | trace_state
end Go.Proofs
