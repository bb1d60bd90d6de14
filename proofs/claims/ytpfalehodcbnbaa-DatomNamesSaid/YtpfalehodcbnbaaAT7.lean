/- The law DatomNames. -/
import Derived.Test.YtpfalehodcbnbaaAT3
namespace Go.Proofs
open Go.AL Go.Sort
attribute [local irreducible] Go.AL.W Go.AL.WL Go.AL.WD Go.AL.POp Go.AL.PPOp Go.AL.POpS Go.AL.PC Go.AL.AC Go.AL.YW Go.AL.Ret Go.AL.Le Go.AL.thn Go.AL.inBlk Go.AL.scp

def dat7 : Dat := ⟨5, 10, ⟨1, 7, []⟩, 1, true, -9223372036854775808, 9223372036854775807⟩
def dat7z : Dat := ⟨5, 10, ⟨1, 7, []⟩, 0, true, -9223372036854775808, 9223372036854775807⟩
theorem n_key4 [GlobF Try.prog] : PC Try.prog 24 [.sc (.int .i64 4), eD dat7] (.tu [.sl none 1 [], .sc (.int .i64 40)]) := by
  have h := dkey_pc 4 dat7 (by decide)
  have hn : ¬ (dmayP dat7 ∧ hasP 4 dat7) := fun h => by have := h.2; simp [hasP, dat7] at this
  rwa [dkeyB, dkeyE, if_pos (by decide), if_neg (by exact hn), if_pos (by decide), if_neg (by exact hn)] at h
theorem n_key5 [GlobF Try.prog] : PC Try.prog 24 [.sc (.int .i64 5), eD dat7] (.tu [.sl none 1 [], .sc (.int .i64 2)]) := by
  have h := dkey_pc 5 dat7 (by decide)
  rwa [dkeyB, dkeyE, if_neg (by decide), if_neg (by decide)] at h
theorem n_pre1 [GlobF Try.prog] : PC Try.prog 19 [.sc (.int .i64 1), .sl none 5 [pC (prtV ⟨1, 7, []⟩)]] (.tu [.sl none 1 [], .sc (.int .i64 2)]) := by
  have h := prefix_pc 1 [prtV ⟨1, 7, []⟩] (by decide) (fun p hp => by simp at hp; subst hp; decide)
  have hn : ¬ preP 1 [prtV ⟨1, 7, []⟩] := fun h => by
    have := h.2.2 0 (by decide) (by decide)
    cases this
  rwa [preB, preE, if_neg hn, if_neg hn] at h
theorem n_pre4 [GlobF Try.prog] : PC Try.prog 19 [.sc (.int .i64 4), .sl none 5 [pC (prtV val0)]] (.tu [.sl none 1 [], .sc (.int .i64 10)]) := by
  have h := prefix_pc 4 [prtV val0] (by decide) (fun p hp => by simp at hp; subst hp; decide)
  have hp : preP 4 [prtV val0] := ⟨by decide, by decide, fun i h h7 => by
    have : i = 0 := by simp at h; omega
    subst this; rfl⟩
  have hm : mayB val0 = false := by
    unfold mayB
    rw [dP_f]
    simp [MayP, val0]
  have hn : ¬ ∀ p, p ∈ [prtV val0] → PartP p := fun h => by
    have := h _ (.head _) rfl
    rw [show (prtV val0).v = val0 from rfl, hm] at this
    cases this
  rwa [preB, preE, if_pos hp, if_pos hp, keyB, keyE, if_neg hn, if_neg hn] at h
theorem n_read [GlobF Try.prog] : PC Try.prog 25 [.sc (.int .i64 1), .sl none 1 []] (.tu [eD dat0, .sc (.int .i64 40)]) := by
  have h := dread_pc 1 [] (by decide)
  have hn : ¬ drdP 1 [] := fun h => by
    have h1 := h.2.1.1
    have h2 : kindsO 1 = false :: (kindsO 1).tail := rfl
    rw [h2] at h1
    simp only [rdAll] at h1
    have h3 : (rdPart false ([], false)).2.2 = true := by simp [rdPart, takeX]
    rw [if_pos h3] at h1
    rw [h3] at h1
    cases h1
  rwa [drdD, drdE, if_neg (by exact hn), if_pos (by decide), if_neg (by exact hn)] at h
theorem n_sort0 [GlobF Try.prog] : PC Try.prog 34 [.sc (.int .i64 0), .sl none 9 [dC dat7]] (.sl none 9 []) := by
  have h := dsort_pc 0 [dat7] (by decide)
  rwa [dsortL, if_neg (by decide)] at h
theorem n_sort4 [GlobF Try.prog] : PC Try.prog 34 [.sc (.int .i64 4), .sl none 9 [dC dat7, dC datF, dC datF]] (.sl none 9 [dC datF]) := by
  have h := dsort_pc 4 [dat7, datF, datF] (by decide)
  have e1 : hasB 4 dat7 = false := by
    unfold hasB
    rw [dP_f]
    simp [hasP, dat7]
  have e2 : hasB 4 datF = true := by
    unfold hasB
    rw [dP_t]
    exact .inr ⟨rfl, rfl⟩
  have e3 : [datF] = sortC (cmpD 4) ([dat7, datF, datF].filter (hasB 4)) := by
    refine sortC_eq (wc_cmpD 4) (cmpD_z 4) (List.pairwise_singleton _ _) fun x => ?_
    simp [e1, e2]
  rwa [dsortL, if_pos (by decide), ← e3] at h
theorem n_check [GlobF Try.prog] : PC Try.prog 29 [eD dat7z] (.sc (.int .i64 40)) := by
  have h := dcheck_pc dat7z (by decide)
  rwa [if_neg (by rw [dP_t]; intro h; exact absurd h.2.2.2.2.2.1 (by decide))] at h
theorem beg_s {l : List Prt} (h : ∀ p, p ∈ l → p.v.s = []) : ∀ p, p ∈ l → p.v.s.length < 9223372036854775808 := fun p hp => by rw [h p hp]; decide
theorem n_beg2 [GlobF Try.prog] : PC Try.prog 21 [.sc (.int .i64 2), .sl none 5 [pC (prtN 10), pC (prtN 5)], eD datF] (.sc (.bool true)) := by
  have h := begins_pc 2 [prtN 10, prtN 5] datF (by decide) (beg_s (by simp [prtN, val0]))
  rwa [dP_t.mpr] at h
  refine ⟨?_, .inl (by decide), fun i h h7 => ?_⟩
  · rw [preE, if_pos, keyE, if_pos]
    · intro p hp; simp at hp; rcases hp with rfl | rfl <;> exact fun h => by cases h
    · refine ⟨by decide, by decide, fun i h h7 => ?_⟩
      have : i = 0 ∨ i = 1 := by simp at h; omega
      rcases this with rfl | rfl <;> rfl
  · have : i = 0 ∨ i = 1 := by simp at h; omega
    rcases this with rfl | rfl
    · exact (show standI (prtN 10) (prtN 10) = 0 by decide)
    · exact (show standI (prtN 5) (prtN 5) = 0 by decide)
theorem n_beg1 [GlobF Try.prog] : PC Try.prog 21 [.sc (.int .i64 1), .sl none 5 [pC (prtN 10)], eD datF] (.sc (.bool false)) := by
  have h := begins_pc 1 [prtN 10] datF (by decide) (beg_s (by simp [prtN, val0]))
  rwa [dP_f.mpr] at h
  intro h
  have := h.2.2 0 (by decide) (by decide)
  exact absurd this (by decide)
theorem n_beg0 [GlobF Try.prog] : PC Try.prog 21 [.sc (.int .i64 1), .sl none 5 [], eD datF] (.sc (.bool true)) := by
  have h := begins_pc 1 [] datF (by decide) (fun p hp => by cases hp)
  rwa [dP_t.mpr] at h
  refine ⟨?_, .inl (by decide), fun i h h7 => by simp at h⟩
  rw [preE, if_pos, keyE, if_pos]
  · intro p hp; cases hp
  · exact ⟨by decide, by decide, fun i h h7 => by simp at h⟩
set_option maxHeartbeats 8000000 in
theorem datomNames_pc [GlobF Try.prog] : PC Try.prog 11 [] (.sc (.bool true)) := by
  refine PC.of_body Try.func11 Try.ntmps11 rfl rfl rfl ?_
  repeat' first
    | (apply p1 (hd := rfl); case hop => first | (apply D_move; rfl) | (apply D_assign; rfl) | (apply D_pc few_pc; rfl; exact .nil) | (apply D_pc alive_pc; rfl; exact .nil) | (apply D_pc n_key4; rfl; exact .same rfl (.same rfl .nil)) | (apply D_pc n_key5; rfl; exact .same rfl (.same rfl .nil)) | (apply D_pc n_pre1; rfl; exact .same rfl (.same rfl .nil)) | (apply D_pc n_pre4; rfl; exact .same rfl (.same rfl .nil)) | (apply D_pc n_read; rfl; exact .same rfl (.niln rfl .nil)) | (apply D_pc n_sort0; rfl; exact .same rfl (.same rfl .nil)) | (apply D_pc n_sort4; rfl; exact .same rfl (.same rfl .nil)) | (apply D_pc n_check; rfl; exact .same rfl .nil) | (apply D_pc n_beg2; rfl; exact .same rfl (.same rfl (.same rfl .nil))) | (apply D_pc n_beg1; rfl; exact .same rfl (.same rfl (.same rfl .nil))) | (apply D_pc n_beg0; rfl; exact .same rfl (.niln rfl (.same rfl .nil))) | exact D_eqD rfl rfl | (apply D_load1; rfl) | (apply D_fld; rfl) | (apply D_pickT; rfl; rfl) | (apply D_pickF; rfl; rfl) | (apply D_int; rfl; rfl; rfl) | (apply D_lenM; rfl) | (apply D_len_sl; rfl) | (apply D_ext; rfl; rfl) | (apply D_not; rfl) | (apply D_loadW; rfl; rfl) | (apply D_loadA; rfl; rfl) | (apply D_len_nil; rfl) | (apply D_idxAn; rfl; rfl; (first | omega | (simp; done))) | (apply D_idxA; rfl; rfl; omega; (first | omega | (simp; done) | (simp; omega))) | (apply D_idxA0; rfl; rfl; omega; (first | omega | (simp; done) | (simp; omega))) | (apply D_lit; rfl; rfl; rfl; rfl) | exact D_build rfl | exact D_buildA rfl | exact D_fldB rfl | (apply D_lenR; rfl) | (apply D_ixRn; rfl; rfl; (first | omega | (simp; done))) | (apply D_ixR; rfl; rfl; all_goals first | omega | ((repeat rw [w64 _ (by omega) (by omega)]); omega) | decide) | exact D_eqA rfl rfl rfl rfl rfl rfl rfl | exact D_neA rfl rfl rfl rfl rfl rfl rfl)
    | refine W_seq ?_
    | refine W_region ?_
    | refine WL_nil ?_
    | (refine idG ?_; first | refine g0t rfl rfl rfl ?_ | refine g0f rfl rfl rfl ?_ | refine g0u rfl rfl rfl ?_ | refine gr rfl rfl ?_ | refine gs rfl rfl (fun _ => ?_) (fun _ => ?_) | refine grn rfl rfl ?_)
    | refine tn ?_
    | refine tr ?_
    | refine br ?_
    | refine bn ?_
    | refine te ?_
    | (refine idB ?_; first | refine bh rfl ?_ | refine bm rfl ?_)
    | refine W_skip ?_
    | refine W_block ?_
    | refine W_exit ?_
    | refine W_ret ?_
    | refine W_label ?_
    | refine W_scope ?_
    | refine sn ?_
    | refine sr ?_
    | refine se ?_
    | (refine idR ?_; first | refine ret1 rfl rfl rfl ?_ | refine rL1 rfl (by first | exact trivial | exact ⟨rfl, trivial⟩) (by first | exact ResO.tmp rfl | exact ResO.cellBA rfl rfl rfl | exact ResO.cellB1 rfl rfl rfl | exact ResO.cellEA rfl rfl | exact ResO.cellE1 rfl) ?_)
    | (refine idLd ?_; first | refine p1L (D_loadB1 rfl rfl rfl) rfl ?_ | refine p1L (D_loadBA rfl rfl rfl) rfl ?_ | refine p1L (D_loadB1 rfl (by (repeat first | assumption | exact get_last | (refine get_last2 ?_; focus (simp; done)) | apply get_set | apply get_app | (apply get_ne; focus omega) | (apply get_ne; focus (simp only [List.length_set, List.length_append, List.length_cons, List.length_nil]; omega))); done) (by rfl)) rfl ?_ | refine p1L (D_loadBA rfl (by (repeat first | assumption | exact get_last | (refine get_last2 ?_; focus (simp; done)) | apply get_set | apply get_app | (apply get_ne; focus omega) | (apply get_ne; focus (simp only [List.length_set, List.length_append, List.length_cons, List.length_nil]; omega))); done) (by rfl)) rfl ?_)
    | (refine idA ?_; first | refine m_alloc rfl ?_)
    | (refine idS ?_; first | refine pS (S_store rfl rfl rfl rfl rfl rfl rfl) ?_ | refine pS (S_store rfl rfl rfl (by (repeat first | assumption | exact get_last | (refine get_last2 ?_; focus (simp; done)) | apply get_set | apply get_app | (apply get_ne; focus omega) | (apply get_ne; focus (simp only [List.length_set, List.length_append, List.length_cons, List.length_nil]; omega))); done) (by rfl) (by rfl) (by rfl)) ?_)
    | refine Le.bool ?_
    | refine Le.int ?_
    | refine Le.str ?_
    | (refine idW ?_; first | refine W_draw0 rfl ?_ | refine W_draw1 rfl ?_ | refine W_draw2 rfl ?_ | refine W_draw3 rfl ?_)
    | (apply d1 (hd := rfl); case hop => first | (apply D_move; rfl) | (apply D_assign; rfl) | (apply D_pc few_pc; rfl; exact .nil) | (apply D_pc alive_pc; rfl; exact .nil) | (apply D_pc n_key4; rfl; exact .same rfl (.same rfl .nil)) | (apply D_pc n_key5; rfl; exact .same rfl (.same rfl .nil)) | (apply D_pc n_pre1; rfl; exact .same rfl (.same rfl .nil)) | (apply D_pc n_pre4; rfl; exact .same rfl (.same rfl .nil)) | (apply D_pc n_read; rfl; exact .same rfl (.niln rfl .nil)) | (apply D_pc n_sort0; rfl; exact .same rfl (.same rfl .nil)) | (apply D_pc n_sort4; rfl; exact .same rfl (.same rfl .nil)) | (apply D_pc n_check; rfl; exact .same rfl .nil) | (apply D_pc n_beg2; rfl; exact .same rfl (.same rfl (.same rfl .nil))) | (apply D_pc n_beg1; rfl; exact .same rfl (.same rfl (.same rfl .nil))) | (apply D_pc n_beg0; rfl; exact .same rfl (.niln rfl (.same rfl .nil))) | exact D_eqD rfl rfl | (apply D_load1; rfl) | (apply D_fld; rfl) | (apply D_pickT; rfl; rfl) | (apply D_pickF; rfl; rfl) | (apply D_int; rfl; rfl; rfl) | (apply D_lenM; rfl) | (apply D_len_sl; rfl) | (apply D_ext; rfl; rfl) | (apply D_not; rfl) | (apply D_loadW; rfl; rfl) | (apply D_loadA; rfl; rfl) | (apply D_len_nil; rfl) | (apply D_idxAn; rfl; rfl; (first | omega | (simp; done))) | (apply D_idxA; rfl; rfl; omega; (first | omega | (simp; done) | (simp; omega))) | (apply D_idxA0; rfl; rfl; omega; (first | omega | (simp; done) | (simp; omega))) | (apply D_lit; rfl; rfl; rfl; rfl) | exact D_build rfl | exact D_buildA rfl | exact D_fldB rfl | (apply D_lenR; rfl) | (apply D_ixRn; rfl; rfl; (first | omega | (simp; done))) | (apply D_ixR; rfl; rfl; all_goals first | omega | ((repeat rw [w64 _ (by omega) (by omega)]); omega) | decide) | exact D_eqA rfl rfl rfl rfl rfl rfl rfl | exact D_neA rfl rfl rfl rfl rfl rfl rfl)
    | (refine idDg ?_; first | refine dg0t rfl rfl rfl ?_ | refine dg0f rfl rfl rfl ?_ | refine dg0u rfl rfl rfl ?_ | refine dgr rfl rfl ?_ | refine dgs rfl rfl (fun _ => ?_) (fun _ => ?_))
    | (refine idDn ?_; first | refine dL _ (fun hp' hs => D_loadB1 rfl (hs.trans rfl) rfl) rfl ?_ | refine dL _ (fun hp' hs => D_loadBA rfl (hs.trans rfl) rfl) rfl ?_ | refine dS (S_store rfl rfl rfl rfl rfl rfl rfl) rfl ?_ | refine dV (S_alloc 0 rfl) rfl rfl ?_ | refine dV (S_alloc 1 rfl) rfl rfl ?_ | refine dV (S_alloc 2 rfl) rfl rfl ?_ | refine dV (S_alloc 3 rfl) rfl rfl ?_ | refine dV (S_alloc 4 rfl) rfl rfl ?_ | refine dV (S_alloc 5 rfl) rfl rfl ?_ | refine dV (S_alloc 6 rfl) rfl rfl ?_ | refine dV (S_alloc 7 rfl) rfl rfl ?_)
    | refine WD_nil (by first | decide +kernel | kernel_rfl | rfl) ?_
  all_goals first
    | rfl
    | assumption
    | (rename_i hx; exact absurd rfl hx)
end Go.Proofs
