/- Contracts of facts' functions: groups, told one by one. -/
import Derived.Test.YtfnmipagllofiaaGreatFF1
namespace Go.Proofs
open Go.AL Go.Sort
attribute [local irreducible] Go.AL.W Go.AL.WL Go.AL.WD Go.AL.POp Go.AL.PPOp Go.AL.POpS Go.AL.PC Go.AL.AC Go.AL.YW Go.AL.Ret Go.AL.Le Go.AL.thn Go.AL.inBlk Go.AL.scp

set_option maxHeartbeats 16000000 in
theorem groups1_ac [GlobF Tryz.prog] (whole : Bool) (l q : Nat) (I : List Dat → List AObj → Prop) (Stop : List AObj → Prop) {h0 : List AObj} {r0 : List Dat} (hr0 : r0.length < 4611686018427387904) (hI : I r0 h0)
    (hb : ∀ r h, I r h → h[q]? = some (.cells [sl9 r]))
    (hy : ∀ r h n, I r h → 0 < n → n ≤ r.length → grpL (grP whole) r = r.take n :: grpL (grP whole) (r.drop n) → YW Tryz.prog l [sl9 (r.take n)] h (fun bo h' => (bo = true ∧ h'[q]? = some (.cells [sl9 r]) ∧ I (r.drop n) (h'.set q (.cells [sl9 (r.drop n)]))) ∨ (bo = false ∧ Stop h'))) :
    AC Tryz.prog 82 [.sc (.func (.yield l) #[] #[]), .bp q 0, .ep [.sc (.bool whole)]] h0 (fun _ h' => I [] h' ∨ Stop h') := by
  refine AC.of_body Tryz.func82 Tryz.ntmps82 rfl rfl rfl ?_
  repeat' first
    | (apply p1 (hd := rfl); case hop => first | (apply D_move; rfl) | (apply D_assign; rfl) | (apply D_load1; rfl) | (apply D_fld; rfl) | (apply D_pickT; rfl; rfl) | (apply D_pickF; rfl; rfl) | (apply D_int; rfl; rfl; rfl) | (apply D_lenM; rfl) | (apply D_len_sl; rfl) | (apply D_not; rfl) | (apply D_loadW; rfl; rfl) | (apply D_loadA; rfl; rfl) | (apply D_len_nil; rfl) | (apply D_idxAn; rfl; rfl; (first | omega | (simp; done))) | (apply D_idxA; rfl; rfl; omega; (first | omega | (simp; done) | (simp; omega))) | (apply D_idxA0; rfl; rfl; omega; (first | omega | (simp; done) | (simp; omega))) | exact D_xcmp rfl rfl rfl | exact D_xidx rfl rfl rfl | (apply D_slVM; rfl; rfl; rfl; all_goals first | omega | ((repeat rw [w64 _ (by omega) (by omega)]); omega) | decide) | (apply D_slVhM; rfl; rfl; all_goals first | omega | ((repeat rw [w64 _ (by omega) (by omega)]); omega) | decide) | (apply D_slVlM; rfl; rfl; all_goals first | omega | ((repeat rw [w64 _ (by omega) (by omega)]); omega) | decide) | (apply D_slV; rfl; rfl; rfl; all_goals first | omega | ((repeat rw [w64 _ (by omega) (by omega)]); omega) | decide) | (apply D_slVh; rfl; rfl; all_goals first | omega | ((repeat rw [w64 _ (by omega) (by omega)]); omega) | decide) | (apply D_slVl; rfl; rfl; all_goals first | omega | ((repeat rw [w64 _ (by omega) (by omega)]); omega) | decide) | exact D_fldB rfl | (apply D_lenR; rfl) | (apply D_ixRn; rfl; rfl; (first | omega | (simp; done))) | (apply D_ixR; rfl; rfl; all_goals first | omega | ((repeat rw [w64 _ (by omega) (by omega)]); omega) | decide) | (apply D_slRl; rfl; rfl; all_goals first | omega | ((repeat rw [w64 _ (by omega) (by omega)]); omega) | decide) | (apply D_slRh; rfl; rfl; all_goals first | omega | ((repeat rw [w64 _ (by omega) (by omega)]); omega) | decide))
    | refine W_seq ?_
    | refine W_region ?_
    | (refine idC ?_; first | refine c1 rfl ?_ | refine c0 rfl ?_ | refine cs rfl (fun _ => ?_) (fun _ => ?_))
    | refine WL_nil ?_
    | (refine idG ?_; first | refine g0t rfl rfl rfl ?_ | refine g0f rfl rfl rfl ?_ | refine g0u rfl rfl rfl ?_ | refine gr rfl rfl ?_ | refine gs rfl rfl (fun _ => ?_) (fun _ => ?_) | refine grn rfl rfl ?_)
    | refine tn ?_
    | refine tr ?_
    | refine br ?_
    | refine bn ?_
    | refine te ?_
    | (refine idB ?_; first | refine bh rfl ?_ | refine bm rfl ?_)
    | refine W_skip ?_
    | refine W_block ?_
    | refine W_exit ?_
    | refine W_ret ?_
    | refine W_label ?_
    | refine W_scope ?_
    | refine sn ?_
    | refine sr ?_
    | refine se ?_
    | (refine idLd ?_; first | refine p1L (D_loadB1 rfl rfl rfl) rfl ?_ | refine p1L (D_loadBA rfl rfl rfl) rfl ?_ | refine p1L (D_loadB1 rfl (by (repeat first | assumption | exact get_last | (refine get_last2 ?_; focus (simp; done)) | apply get_set | apply get_app | (apply get_ne; focus omega) | (apply get_ne; focus (simp only [List.length_set, List.length_append, List.length_cons, List.length_nil]; omega))); done) (by rfl)) rfl ?_ | refine p1L (D_loadBA rfl (by (repeat first | assumption | exact get_last | (refine get_last2 ?_; focus (simp; done)) | apply get_set | apply get_app | (apply get_ne; focus omega) | (apply get_ne; focus (simp only [List.length_set, List.length_append, List.length_cons, List.length_nil]; omega))); done) (by rfl)) rfl ?_)
    | (refine idS ?_; first | refine pS (S_store rfl rfl rfl rfl rfl rfl rfl) ?_ | refine pS (S_store rfl rfl rfl (by (repeat first | assumption | exact get_last | (refine get_last2 ?_; focus (simp; done)) | apply get_set | apply get_app | (apply get_ne; focus omega) | (apply get_ne; focus (simp only [List.length_set, List.length_append, List.length_cons, List.length_nil]; omega))); done) (by rfl) (by rfl) (by rfl)) ?_)
    | refine Le.bool ?_
    | refine Le.int ?_
    | refine Le.str ?_
    | (refine idW ?_; first | refine W_draw0 rfl ?_ | refine W_draw1 rfl ?_ | refine W_draw2 rfl ?_ | refine W_draw3 rfl ?_)
    | (apply d1 (hd := rfl); case hop => first | (apply D_move; rfl) | (apply D_assign; rfl) | (apply D_load1; rfl) | (apply D_fld; rfl) | (apply D_pickT; rfl; rfl) | (apply D_pickF; rfl; rfl) | (apply D_int; rfl; rfl; rfl) | (apply D_lenM; rfl) | (apply D_len_sl; rfl) | (apply D_not; rfl) | (apply D_loadW; rfl; rfl) | (apply D_loadA; rfl; rfl) | (apply D_len_nil; rfl) | (apply D_idxAn; rfl; rfl; (first | omega | (simp; done))) | (apply D_idxA; rfl; rfl; omega; (first | omega | (simp; done) | (simp; omega))) | (apply D_idxA0; rfl; rfl; omega; (first | omega | (simp; done) | (simp; omega))) | exact D_xcmp rfl rfl rfl | exact D_xidx rfl rfl rfl | (apply D_slVM; rfl; rfl; rfl; all_goals first | omega | ((repeat rw [w64 _ (by omega) (by omega)]); omega) | decide) | (apply D_slVhM; rfl; rfl; all_goals first | omega | ((repeat rw [w64 _ (by omega) (by omega)]); omega) | decide) | (apply D_slVlM; rfl; rfl; all_goals first | omega | ((repeat rw [w64 _ (by omega) (by omega)]); omega) | decide) | (apply D_slV; rfl; rfl; rfl; all_goals first | omega | ((repeat rw [w64 _ (by omega) (by omega)]); omega) | decide) | (apply D_slVh; rfl; rfl; all_goals first | omega | ((repeat rw [w64 _ (by omega) (by omega)]); omega) | decide) | (apply D_slVl; rfl; rfl; all_goals first | omega | ((repeat rw [w64 _ (by omega) (by omega)]); omega) | decide) | exact D_fldB rfl | (apply D_lenR; rfl) | (apply D_ixRn; rfl; rfl; (first | omega | (simp; done))) | (apply D_ixR; rfl; rfl; all_goals first | omega | ((repeat rw [w64 _ (by omega) (by omega)]); omega) | decide) | (apply D_slRl; rfl; rfl; all_goals first | omega | ((repeat rw [w64 _ (by omega) (by omega)]); omega) | decide) | (apply D_slRh; rfl; rfl; all_goals first | omega | ((repeat rw [w64 _ (by omega) (by omega)]); omega) | decide))
    | (refine idDg ?_; first | refine dg0t rfl rfl rfl ?_ | refine dg0f rfl rfl rfl ?_ | refine dg0u rfl rfl rfl ?_ | refine dgr rfl rfl ?_ | refine dgs rfl rfl (fun _ => ?_) (fun _ => ?_))
    | (refine idDn ?_; first | refine dL _ (fun hp' hs => D_loadB1 rfl (hs.trans rfl) rfl) rfl ?_ | refine dL _ (fun hp' hs => D_loadBA rfl (hs.trans rfl) rfl) rfl ?_ | refine dS (S_store rfl rfl rfl rfl rfl rfl rfl) rfl ?_ | refine dV (S_alloc 0 rfl) rfl rfl ?_ | refine dV (S_alloc 1 rfl) rfl rfl ?_ | refine dV (S_alloc 2 rfl) rfl rfl ?_ | refine dV (S_alloc 3 rfl) rfl rfl ?_ | refine dV (S_alloc 4 rfl) rfl rfl ?_ | refine dV (S_alloc 5 rfl) rfl rfl ?_ | refine dV (S_alloc 6 rfl) rfl rfl ?_ | refine dV (S_alloc 7 rfl) rfl rfl ?_)
    | refine WD_nil (by first | decide +kernel | kernel_rfl | rfl) ?_
  refine W_loopL (X := List Dat × List AObj) (fun _ => [(0, .sc (.func (.yield l) #[] #[])), (1, .bp q 0), (2, .ep [.sc (.bool whole)])]) (fun x => x.2)
    (fun x => I x.1 x.2 ∧ x.1.length ≤ r0.length) (fun x => x.1.length) (r0, h0) ⟨hI, Nat.le_refl _⟩ ⟨rfl, rfl, rfl, trivial⟩ rfl ?_
  rintro ⟨r, h⟩ ⟨hI, hlen⟩
  simp only at hI hlen ⊢
  have hq := hb r h hI
  by_cases hr : r.length = 0
  · have e : r = [] := List.length_eq_zero_iff.1 hr
    subst e
    repeat' first
      | (apply p1 (hd := rfl); case hop => first | (apply D_move; rfl) | (apply D_assign; rfl) | (apply D_load1; rfl) | (apply D_fld; rfl) | (apply D_pickT; rfl; rfl) | (apply D_pickF; rfl; rfl) | (apply D_int; rfl; rfl; rfl) | (apply D_lenM; rfl) | (apply D_len_sl; rfl) | (apply D_not; rfl) | (apply D_loadW; rfl; rfl) | (apply D_loadA; rfl; rfl) | (apply D_len_nil; rfl) | (apply D_idxAn; rfl; rfl; (first | omega | (simp; done))) | (apply D_idxA; rfl; rfl; omega; (first | omega | (simp; done) | (simp; omega))) | (apply D_idxA0; rfl; rfl; omega; (first | omega | (simp; done) | (simp; omega))) | exact D_xcmp rfl rfl rfl | exact D_xidx rfl rfl rfl | (apply D_slVM; rfl; rfl; rfl; all_goals first | omega | ((repeat rw [w64 _ (by omega) (by omega)]); omega) | decide) | (apply D_slVhM; rfl; rfl; all_goals first | omega | ((repeat rw [w64 _ (by omega) (by omega)]); omega) | decide) | (apply D_slVlM; rfl; rfl; all_goals first | omega | ((repeat rw [w64 _ (by omega) (by omega)]); omega) | decide) | (apply D_slV; rfl; rfl; rfl; all_goals first | omega | ((repeat rw [w64 _ (by omega) (by omega)]); omega) | decide) | (apply D_slVh; rfl; rfl; all_goals first | omega | ((repeat rw [w64 _ (by omega) (by omega)]); omega) | decide) | (apply D_slVl; rfl; rfl; all_goals first | omega | ((repeat rw [w64 _ (by omega) (by omega)]); omega) | decide) | exact D_fldB rfl | (apply D_lenR; rfl) | (apply D_ixRn; rfl; rfl; (first | omega | (simp; done))) | (apply D_ixR; rfl; rfl; all_goals first | omega | ((repeat rw [w64 _ (by omega) (by omega)]); omega) | decide) | (apply D_slRl; rfl; rfl; all_goals first | omega | ((repeat rw [w64 _ (by omega) (by omega)]); omega) | decide) | (apply D_slRh; rfl; rfl; all_goals first | omega | ((repeat rw [w64 _ (by omega) (by omega)]); omega) | decide))
      | refine W_seq ?_
      | refine W_region ?_
      | (refine idC ?_; first | refine c1 rfl ?_ | refine c0 rfl ?_ | refine cs rfl (fun _ => ?_) (fun _ => ?_))
      | refine WL_nil ?_
      | (refine idG ?_; first | refine g0t rfl rfl rfl ?_ | refine g0f rfl rfl rfl ?_ | refine g0u rfl rfl rfl ?_ | refine gr rfl rfl ?_ | refine gs rfl rfl (fun _ => ?_) (fun _ => ?_) | refine grn rfl rfl ?_)
      | refine tn ?_
      | refine tr ?_
      | refine br ?_
      | refine bn ?_
      | refine te ?_
      | (refine idB ?_; first | refine bh rfl ?_ | refine bm rfl ?_)
      | refine W_skip ?_
      | refine W_block ?_
      | refine W_exit ?_
      | refine W_ret ?_
      | refine W_label ?_
      | refine W_scope ?_
      | refine sn ?_
      | refine sr ?_
      | refine se ?_
      | (refine idLd ?_; first | refine p1L (D_loadB1 rfl rfl rfl) rfl ?_ | refine p1L (D_loadBA rfl rfl rfl) rfl ?_ | refine p1L (D_loadB1 rfl (by (repeat first | assumption | exact get_last | (refine get_last2 ?_; focus (simp; done)) | apply get_set | apply get_app | (apply get_ne; focus omega) | (apply get_ne; focus (simp only [List.length_set, List.length_append, List.length_cons, List.length_nil]; omega))); done) (by rfl)) rfl ?_ | refine p1L (D_loadBA rfl (by (repeat first | assumption | exact get_last | (refine get_last2 ?_; focus (simp; done)) | apply get_set | apply get_app | (apply get_ne; focus omega) | (apply get_ne; focus (simp only [List.length_set, List.length_append, List.length_cons, List.length_nil]; omega))); done) (by rfl)) rfl ?_)
      | (refine idS ?_; first | refine pS (S_store rfl rfl rfl rfl rfl rfl rfl) ?_ | refine pS (S_store rfl rfl rfl (by (repeat first | assumption | exact get_last | (refine get_last2 ?_; focus (simp; done)) | apply get_set | apply get_app | (apply get_ne; focus omega) | (apply get_ne; focus (simp only [List.length_set, List.length_append, List.length_cons, List.length_nil]; omega))); done) (by rfl) (by rfl) (by rfl)) ?_)
      | refine Le.bool ?_
      | refine Le.int ?_
      | refine Le.str ?_
      | (refine idW ?_; first | refine W_draw0 rfl ?_ | refine W_draw1 rfl ?_ | refine W_draw2 rfl ?_ | refine W_draw3 rfl ?_)
      | (apply d1 (hd := rfl); case hop => first | (apply D_move; rfl) | (apply D_assign; rfl) | (apply D_load1; rfl) | (apply D_fld; rfl) | (apply D_pickT; rfl; rfl) | (apply D_pickF; rfl; rfl) | (apply D_int; rfl; rfl; rfl) | (apply D_lenM; rfl) | (apply D_len_sl; rfl) | (apply D_not; rfl) | (apply D_loadW; rfl; rfl) | (apply D_loadA; rfl; rfl) | (apply D_len_nil; rfl) | (apply D_idxAn; rfl; rfl; (first | omega | (simp; done))) | (apply D_idxA; rfl; rfl; omega; (first | omega | (simp; done) | (simp; omega))) | (apply D_idxA0; rfl; rfl; omega; (first | omega | (simp; done) | (simp; omega))) | exact D_xcmp rfl rfl rfl | exact D_xidx rfl rfl rfl | (apply D_slVM; rfl; rfl; rfl; all_goals first | omega | ((repeat rw [w64 _ (by omega) (by omega)]); omega) | decide) | (apply D_slVhM; rfl; rfl; all_goals first | omega | ((repeat rw [w64 _ (by omega) (by omega)]); omega) | decide) | (apply D_slVlM; rfl; rfl; all_goals first | omega | ((repeat rw [w64 _ (by omega) (by omega)]); omega) | decide) | (apply D_slV; rfl; rfl; rfl; all_goals first | omega | ((repeat rw [w64 _ (by omega) (by omega)]); omega) | decide) | (apply D_slVh; rfl; rfl; all_goals first | omega | ((repeat rw [w64 _ (by omega) (by omega)]); omega) | decide) | (apply D_slVl; rfl; rfl; all_goals first | omega | ((repeat rw [w64 _ (by omega) (by omega)]); omega) | decide) | exact D_fldB rfl | (apply D_lenR; rfl) | (apply D_ixRn; rfl; rfl; (first | omega | (simp; done))) | (apply D_ixR; rfl; rfl; all_goals first | omega | ((repeat rw [w64 _ (by omega) (by omega)]); omega) | decide) | (apply D_slRl; rfl; rfl; all_goals first | omega | ((repeat rw [w64 _ (by omega) (by omega)]); omega) | decide) | (apply D_slRh; rfl; rfl; all_goals first | omega | ((repeat rw [w64 _ (by omega) (by omega)]); omega) | decide))
      | (refine idDg ?_; first | refine dg0t rfl rfl rfl ?_ | refine dg0f rfl rfl rfl ?_ | refine dg0u rfl rfl rfl ?_ | refine dgr rfl rfl ?_ | refine dgs rfl rfl (fun _ => ?_) (fun _ => ?_))
      | (refine idDn ?_; first | refine dL _ (fun hp' hs => D_loadB1 rfl (hs.trans rfl) rfl) rfl ?_ | refine dL _ (fun hp' hs => D_loadBA rfl (hs.trans rfl) rfl) rfl ?_ | refine dS (S_store rfl rfl rfl rfl rfl rfl rfl) rfl ?_ | refine dV (S_alloc 0 rfl) rfl rfl ?_ | refine dV (S_alloc 1 rfl) rfl rfl ?_ | refine dV (S_alloc 2 rfl) rfl rfl ?_ | refine dV (S_alloc 3 rfl) rfl rfl ?_ | refine dV (S_alloc 4 rfl) rfl rfl ?_ | refine dV (S_alloc 5 rfl) rfl rfl ?_ | refine dV (S_alloc 6 rfl) rfl rfl ?_ | refine dV (S_alloc 7 rfl) rfl rfl ?_)
      | refine WD_nil (by first | decide +kernel | kernel_rfl | rfl) ?_
    all_goals first
      | exact ret0 (.inr rfl) rfl rfl (.inl hI)
      | (exfalso; simp at *; done)
      | skip
    all_goals trace_state
  · have hr1 : 0 < r.length := Nat.pos_of_ne_zero hr
    repeat' first
      | (apply p1 (hd := rfl); case hop => first | (apply D_move; rfl) | (apply D_assign; rfl) | (apply D_load1; rfl) | (apply D_fld; rfl) | (apply D_pickT; rfl; rfl) | (apply D_pickF; rfl; rfl) | (apply D_int; rfl; rfl; rfl) | (apply D_lenM; rfl) | (apply D_len_sl; rfl) | (apply D_not; rfl) | (apply D_loadW; rfl; rfl) | (apply D_loadA; rfl; rfl) | (apply D_len_nil; rfl) | (apply D_idxAn; rfl; rfl; (first | omega | (simp; done))) | (apply D_idxA; rfl; rfl; omega; (first | omega | (simp; done) | (simp; omega))) | (apply D_idxA0; rfl; rfl; omega; (first | omega | (simp; done) | (simp; omega))) | exact D_xcmp rfl rfl rfl | exact D_xidx rfl rfl rfl | (apply D_slVM; rfl; rfl; rfl; all_goals first | omega | ((repeat rw [w64 _ (by omega) (by omega)]); omega) | decide) | (apply D_slVhM; rfl; rfl; all_goals first | omega | ((repeat rw [w64 _ (by omega) (by omega)]); omega) | decide) | (apply D_slVlM; rfl; rfl; all_goals first | omega | ((repeat rw [w64 _ (by omega) (by omega)]); omega) | decide) | (apply D_slV; rfl; rfl; rfl; all_goals first | omega | ((repeat rw [w64 _ (by omega) (by omega)]); omega) | decide) | (apply D_slVh; rfl; rfl; all_goals first | omega | ((repeat rw [w64 _ (by omega) (by omega)]); omega) | decide) | (apply D_slVl; rfl; rfl; all_goals first | omega | ((repeat rw [w64 _ (by omega) (by omega)]); omega) | decide) | exact D_fldB rfl | (apply D_lenR; rfl) | (apply D_ixRn; rfl; rfl; (first | omega | (simp; done))) | (apply D_ixR; rfl; rfl; all_goals first | omega | ((repeat rw [w64 _ (by omega) (by omega)]); omega) | decide) | (apply D_slRl; rfl; rfl; all_goals first | omega | ((repeat rw [w64 _ (by omega) (by omega)]); omega) | decide) | (apply D_slRh; rfl; rfl; all_goals first | omega | ((repeat rw [w64 _ (by omega) (by omega)]); omega) | decide))
      | refine W_seq ?_
      | refine W_region ?_
      | (refine idC ?_; first | refine c1 rfl ?_ | refine c0 rfl ?_ | refine cs rfl (fun _ => ?_) (fun _ => ?_))
      | refine WL_nil ?_
      | (refine idG ?_; first | refine g0t rfl rfl rfl ?_ | refine g0f rfl rfl rfl ?_ | refine g0u rfl rfl rfl ?_ | refine gr rfl rfl ?_ | refine gs rfl rfl (fun _ => ?_) (fun _ => ?_) | refine grn rfl rfl ?_)
      | refine tn ?_
      | refine tr ?_
      | refine br ?_
      | refine bn ?_
      | refine te ?_
      | (refine idB ?_; first | refine bh rfl ?_ | refine bm rfl ?_)
      | refine W_skip ?_
      | refine W_block ?_
      | refine W_exit ?_
      | refine W_ret ?_
      | refine W_label ?_
      | refine W_scope ?_
      | refine sn ?_
      | refine sr ?_
      | refine se ?_
      | (refine idLd ?_; first | refine p1L (D_loadB1 rfl rfl rfl) rfl ?_ | refine p1L (D_loadBA rfl rfl rfl) rfl ?_ | refine p1L (D_loadB1 rfl (by (repeat first | assumption | exact get_last | (refine get_last2 ?_; focus (simp; done)) | apply get_set | apply get_app | (apply get_ne; focus omega) | (apply get_ne; focus (simp only [List.length_set, List.length_append, List.length_cons, List.length_nil]; omega))); done) (by rfl)) rfl ?_ | refine p1L (D_loadBA rfl (by (repeat first | assumption | exact get_last | (refine get_last2 ?_; focus (simp; done)) | apply get_set | apply get_app | (apply get_ne; focus omega) | (apply get_ne; focus (simp only [List.length_set, List.length_append, List.length_cons, List.length_nil]; omega))); done) (by rfl)) rfl ?_)
      | (refine idS ?_; first | refine pS (S_store rfl rfl rfl rfl rfl rfl rfl) ?_ | refine pS (S_store rfl rfl rfl (by (repeat first | assumption | exact get_last | (refine get_last2 ?_; focus (simp; done)) | apply get_set | apply get_app | (apply get_ne; focus omega) | (apply get_ne; focus (simp only [List.length_set, List.length_append, List.length_cons, List.length_nil]; omega))); done) (by rfl) (by rfl) (by rfl)) ?_)
      | refine Le.bool ?_
      | refine Le.int ?_
      | refine Le.str ?_
      | (refine idW ?_; first | refine W_draw0 rfl ?_ | refine W_draw1 rfl ?_ | refine W_draw2 rfl ?_ | refine W_draw3 rfl ?_)
      | (apply d1 (hd := rfl); case hop => first | (apply D_move; rfl) | (apply D_assign; rfl) | (apply D_load1; rfl) | (apply D_fld; rfl) | (apply D_pickT; rfl; rfl) | (apply D_pickF; rfl; rfl) | (apply D_int; rfl; rfl; rfl) | (apply D_lenM; rfl) | (apply D_len_sl; rfl) | (apply D_not; rfl) | (apply D_loadW; rfl; rfl) | (apply D_loadA; rfl; rfl) | (apply D_len_nil; rfl) | (apply D_idxAn; rfl; rfl; (first | omega | (simp; done))) | (apply D_idxA; rfl; rfl; omega; (first | omega | (simp; done) | (simp; omega))) | (apply D_idxA0; rfl; rfl; omega; (first | omega | (simp; done) | (simp; omega))) | exact D_xcmp rfl rfl rfl | exact D_xidx rfl rfl rfl | (apply D_slVM; rfl; rfl; rfl; all_goals first | omega | ((repeat rw [w64 _ (by omega) (by omega)]); omega) | decide) | (apply D_slVhM; rfl; rfl; all_goals first | omega | ((repeat rw [w64 _ (by omega) (by omega)]); omega) | decide) | (apply D_slVlM; rfl; rfl; all_goals first | omega | ((repeat rw [w64 _ (by omega) (by omega)]); omega) | decide) | (apply D_slV; rfl; rfl; rfl; all_goals first | omega | ((repeat rw [w64 _ (by omega) (by omega)]); omega) | decide) | (apply D_slVh; rfl; rfl; all_goals first | omega | ((repeat rw [w64 _ (by omega) (by omega)]); omega) | decide) | (apply D_slVl; rfl; rfl; all_goals first | omega | ((repeat rw [w64 _ (by omega) (by omega)]); omega) | decide) | exact D_fldB rfl | (apply D_lenR; rfl) | (apply D_ixRn; rfl; rfl; (first | omega | (simp; done))) | (apply D_ixR; rfl; rfl; all_goals first | omega | ((repeat rw [w64 _ (by omega) (by omega)]); omega) | decide) | (apply D_slRl; rfl; rfl; all_goals first | omega | ((repeat rw [w64 _ (by omega) (by omega)]); omega) | decide) | (apply D_slRh; rfl; rfl; all_goals first | omega | ((repeat rw [w64 _ (by omega) (by omega)]); omega) | decide))
      | (refine idDg ?_; first | refine dg0t rfl rfl rfl ?_ | refine dg0f rfl rfl rfl ?_ | refine dg0u rfl rfl rfl ?_ | refine dgr rfl rfl ?_ | refine dgs rfl rfl (fun _ => ?_) (fun _ => ?_))
      | (refine idDn ?_; first | refine dL _ (fun hp' hs => D_loadB1 rfl (hs.trans rfl) rfl) rfl ?_ | refine dL _ (fun hp' hs => D_loadBA rfl (hs.trans rfl) rfl) rfl ?_ | refine dS (S_store rfl rfl rfl rfl rfl rfl rfl) rfl ?_ | refine dV (S_alloc 0 rfl) rfl rfl ?_ | refine dV (S_alloc 1 rfl) rfl rfl ?_ | refine dV (S_alloc 2 rfl) rfl rfl ?_ | refine dV (S_alloc 3 rfl) rfl rfl ?_ | refine dV (S_alloc 4 rfl) rfl rfl ?_ | refine dV (S_alloc 5 rfl) rfl rfl ?_ | refine dV (S_alloc 6 rfl) rfl rfl ?_ | refine dV (S_alloc 7 rfl) rfl rfl ?_)
      | refine WD_nil (by first | decide +kernel | kernel_rfl | rfl) ?_
    all_goals first
      | (exfalso; omega)
      | skip
    refine W_loopL (X := Nat) (fun n => [(0, .sc (.func (.yield l) #[] #[])), (1, .bp q 0), (2, .ep [.sc (.bool whole)]), (4, .sc (.int .i64 (n : Int)))]) (fun _ => h)
      (fun n => 1 ≤ n ∧ n ≤ r.length ∧ ∀ (j : Nat) (h : j < r.length), 1 ≤ j → j < n → grP whole (r[0]'hr1) r[j]) (fun n => r.length - n) 1 ⟨Nat.le_refl _, hr1, fun j h h1 h2 => by omega⟩ ⟨rfl, rfl, rfl, rfl, trivial⟩ rfl ?_
    rintro n ⟨h1, h2, hz⟩
    have hyn := fun (hn : ∀ h : n < r.length, ¬ grP whole (r[0]'hr1) r[n]) => hy r h n hI (by omega) h2 (grp_at (by omega) h2 hz hn)
    have hnext : ∀ hn : n < r.length, grP whole (r[0]'hr1) r[n] → ∀ (j : Nat) (h : j < r.length), 1 ≤ j → j < n + 1 → grP whole (r[0]'hr1) r[j] := fun hn k j hj h1 h2 => by
      by_cases e : j = n
      · subst e; exact k
      · exact hz j hj h1 (by omega)
    have hnt : Value.bool (bNot true) = .bool false := by simp [bNot]
    have hnf : Value.bool (bNot false) = .bool true := by simp [bNot]
    cases whole
    all_goals
      repeat' first
        | (refine dL q (fun hp' hs => D_loadB1 rfl (hs.trans hq) rfl) rfl ?_)
        | (apply p1 (hd := rfl); case hop => first | (apply D_move; rfl) | (apply D_assign; rfl) | exact D_sc (D_not rfl) hnt | exact D_sc (D_not rfl) hnf | (apply D_pc (alike_pc (r[0]'hr1) (r[n]'(by omega))); rfl; exact .same rfl (.same rfl .nil)) | (apply D_load1; rfl) | (apply D_fld; rfl) | (apply D_pickT; rfl; rfl) | (apply D_pickF; rfl; rfl) | (apply D_int; rfl; rfl; rfl) | (apply D_lenM; rfl) | (apply D_len_sl; rfl) | (apply D_not; rfl) | (apply D_loadW; rfl; rfl) | (apply D_loadA; rfl; rfl) | (apply D_len_nil; rfl) | (apply D_idxAn; rfl; rfl; (first | omega | (simp; done))) | (apply D_idxA; rfl; rfl; omega; (first | omega | (simp; done) | (simp; omega))) | (apply D_idxA0; rfl; rfl; omega; (first | omega | (simp; done) | (simp; omega))) | exact D_xcmp rfl rfl rfl | exact D_xidx rfl rfl rfl | (apply D_slVM; rfl; rfl; rfl; all_goals first | omega | ((repeat rw [w64 _ (by omega) (by omega)]); omega) | decide) | (apply D_slVhM; rfl; rfl; all_goals first | omega | ((repeat rw [w64 _ (by omega) (by omega)]); omega) | decide) | (apply D_slVlM; rfl; rfl; all_goals first | omega | ((repeat rw [w64 _ (by omega) (by omega)]); omega) | decide) | (apply D_slV; rfl; rfl; rfl; all_goals first | omega | ((repeat rw [w64 _ (by omega) (by omega)]); omega) | decide) | (apply D_slVh; rfl; rfl; all_goals first | omega | ((repeat rw [w64 _ (by omega) (by omega)]); omega) | decide) | (apply D_slVl; rfl; rfl; all_goals first | omega | ((repeat rw [w64 _ (by omega) (by omega)]); omega) | decide) | exact D_fldB rfl | (apply D_lenR; rfl) | (apply D_ixRn; rfl; rfl; (first | omega | (simp; done))) | (apply D_ixR; rfl; rfl; all_goals first | omega | ((repeat rw [w64 _ (by omega) (by omega)]); omega) | decide) | (apply D_slRl; rfl; rfl; all_goals first | omega | ((repeat rw [w64 _ (by omega) (by omega)]); omega) | decide) | (apply D_slRh; rfl; rfl; all_goals first | omega | ((repeat rw [w64 _ (by omega) (by omega)]); omega) | decide))
        | refine W_seq ?_
        | refine W_region ?_
        | (refine idC ?_; first | refine c1 rfl ?_ | refine c0 rfl ?_ | refine cs rfl (fun _ => ?_) (fun _ => ?_))
        | refine WL_nil ?_
        | (refine idG ?_; first | refine g0t rfl rfl rfl ?_ | refine g0f rfl rfl rfl ?_ | refine g0u rfl rfl rfl ?_ | refine gr rfl rfl ?_ | refine gs rfl rfl (fun _ => ?_) (fun _ => ?_) | refine grn rfl rfl ?_)
        | refine tn ?_
        | refine tr ?_
        | refine br ?_
        | refine bn ?_
        | refine te ?_
        | (refine idB ?_; first | refine bh rfl ?_ | refine bm rfl ?_)
        | refine W_skip ?_
        | refine W_block ?_
        | refine W_exit ?_
        | refine W_ret ?_
        | refine W_label ?_
        | refine W_scope ?_
        | refine sn ?_
        | refine sr ?_
        | refine se ?_
        | (refine idLd ?_; first | refine p1L (D_loadB1 rfl rfl rfl) rfl ?_ | refine p1L (D_loadBA rfl rfl rfl) rfl ?_ | refine p1L (D_loadB1 rfl (by (repeat first | assumption | exact get_last | (refine get_last2 ?_; focus (simp; done)) | apply get_set | apply get_app | (apply get_ne; focus omega) | (apply get_ne; focus (simp only [List.length_set, List.length_append, List.length_cons, List.length_nil]; omega))); done) (by rfl)) rfl ?_ | refine p1L (D_loadBA rfl (by (repeat first | assumption | exact get_last | (refine get_last2 ?_; focus (simp; done)) | apply get_set | apply get_app | (apply get_ne; focus omega) | (apply get_ne; focus (simp only [List.length_set, List.length_append, List.length_cons, List.length_nil]; omega))); done) (by rfl)) rfl ?_)
        | (refine idS ?_; first | refine pS (S_store rfl rfl rfl rfl rfl rfl rfl) ?_ | refine pS (S_store rfl rfl rfl (by (repeat first | assumption | exact get_last | (refine get_last2 ?_; focus (simp; done)) | apply get_set | apply get_app | (apply get_ne; focus omega) | (apply get_ne; focus (simp only [List.length_set, List.length_append, List.length_cons, List.length_nil]; omega))); done) (by rfl) (by rfl) (by rfl)) ?_)
        | refine Le.bool ?_
        | refine Le.int ?_
        | refine Le.str ?_
        | (refine m_yield rfl rfl rfl (hyn (by first | (intro h; exfalso; omega) | (intro _ g; exact absurd g.1 (by assumption)) | (rintro _ ⟨_, g⟩; exact g.elim (fun g => Bool.noConfusion g) (fun g => absurd g (by assumption))))) ?_; rintro bo h' (⟨rfl, hq', hI'⟩ | ⟨rfl, hS⟩))
        | (refine idW ?_; first | refine W_draw0 rfl ?_ | refine W_draw1 rfl ?_ | refine W_draw2 rfl ?_ | refine W_draw3 rfl ?_)
        | (apply d1 (hd := rfl); case hop => first | (apply D_move; rfl) | (apply D_assign; rfl) | exact D_sc (D_not rfl) hnt | exact D_sc (D_not rfl) hnf | (apply D_pc (alike_pc (r[0]'hr1) (r[n]'(by omega))); rfl; exact .same rfl (.same rfl .nil)) | (apply D_load1; rfl) | (apply D_fld; rfl) | (apply D_pickT; rfl; rfl) | (apply D_pickF; rfl; rfl) | (apply D_int; rfl; rfl; rfl) | (apply D_lenM; rfl) | (apply D_len_sl; rfl) | (apply D_not; rfl) | (apply D_loadW; rfl; rfl) | (apply D_loadA; rfl; rfl) | (apply D_len_nil; rfl) | (apply D_idxAn; rfl; rfl; (first | omega | (simp; done))) | (apply D_idxA; rfl; rfl; omega; (first | omega | (simp; done) | (simp; omega))) | (apply D_idxA0; rfl; rfl; omega; (first | omega | (simp; done) | (simp; omega))) | exact D_xcmp rfl rfl rfl | exact D_xidx rfl rfl rfl | (apply D_slVM; rfl; rfl; rfl; all_goals first | omega | ((repeat rw [w64 _ (by omega) (by omega)]); omega) | decide) | (apply D_slVhM; rfl; rfl; all_goals first | omega | ((repeat rw [w64 _ (by omega) (by omega)]); omega) | decide) | (apply D_slVlM; rfl; rfl; all_goals first | omega | ((repeat rw [w64 _ (by omega) (by omega)]); omega) | decide) | (apply D_slV; rfl; rfl; rfl; all_goals first | omega | ((repeat rw [w64 _ (by omega) (by omega)]); omega) | decide) | (apply D_slVh; rfl; rfl; all_goals first | omega | ((repeat rw [w64 _ (by omega) (by omega)]); omega) | decide) | (apply D_slVl; rfl; rfl; all_goals first | omega | ((repeat rw [w64 _ (by omega) (by omega)]); omega) | decide) | exact D_fldB rfl | (apply D_lenR; rfl) | (apply D_ixRn; rfl; rfl; (first | omega | (simp; done))) | (apply D_ixR; rfl; rfl; all_goals first | omega | ((repeat rw [w64 _ (by omega) (by omega)]); omega) | decide) | (apply D_slRl; rfl; rfl; all_goals first | omega | ((repeat rw [w64 _ (by omega) (by omega)]); omega) | decide) | (apply D_slRh; rfl; rfl; all_goals first | omega | ((repeat rw [w64 _ (by omega) (by omega)]); omega) | decide))
        | (refine idDg ?_; first | refine dg0t rfl rfl rfl ?_ | refine dg0f rfl rfl rfl ?_ | refine dg0u rfl rfl rfl ?_ | refine dgr rfl rfl ?_ | refine dgs rfl rfl (fun _ => ?_) (fun _ => ?_))
        | (refine idDn ?_; first | refine dL _ (fun hp' hs => D_loadB1 rfl (hs.trans rfl) rfl) rfl ?_ | refine dL _ (fun hp' hs => D_loadBA rfl (hs.trans rfl) rfl) rfl ?_ | refine dS (S_store rfl rfl rfl rfl rfl rfl rfl) rfl ?_ | refine dV (S_alloc 0 rfl) rfl rfl ?_ | refine dV (S_alloc 1 rfl) rfl rfl ?_ | refine dV (S_alloc 2 rfl) rfl rfl ?_ | refine dV (S_alloc 3 rfl) rfl rfl ?_ | refine dV (S_alloc 4 rfl) rfl rfl ?_ | refine dV (S_alloc 5 rfl) rfl rfl ?_ | refine dV (S_alloc 6 rfl) rfl rfl ?_ | refine dV (S_alloc 7 rfl) rfl rfl ?_)
        | refine WD_nil (by first | decide +kernel | kernel_rfl | rfl) ?_
    all_goals first
      | exact ret0 (.inr rfl) rfl rfl (.inr hS)
      | exact ⟨rfl, n + 1, ⟨by omega, by omega, hnext (by omega) ⟨by assumption, .inl rfl⟩⟩, by omega, ⟨rfl, rfl, rfl, ieq (wsucc n (by omega)), trivial⟩, rfl⟩
      | exact ⟨rfl, n + 1, ⟨by omega, by omega, hnext (by omega) ⟨by assumption, .inr (by assumption)⟩⟩, by omega, ⟨rfl, rfl, rfl, ieq (wsucc n (by omega)), trivial⟩, rfl⟩
      | exact ⟨rfl, (r.drop n, h'.set q (.cells [sl9 (r.drop n)])), ⟨hI', by simp; omega⟩, by simp; omega, ⟨rfl, rfl, rfl, trivial⟩, rfl⟩
      | skip
    all_goals trace_state
end Go.Proofs
