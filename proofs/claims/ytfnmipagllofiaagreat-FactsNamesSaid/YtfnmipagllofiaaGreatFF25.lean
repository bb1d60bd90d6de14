/- Contracts of facts' functions: the fold, whose facts are a tail of its own. -/
import Derived.Test.YtfnmipagllofiaaGreatFF8
import Derived.Test.YtfnmipagllofiaaGreatFP6
import Derived.Test.YtfnmipagllofiaaGreatFP8
import Derived.Test.YtfnmipagllofiaaGreatOps29
namespace Go.Proofs
open Go.AL Go.Sort
attribute [local irreducible] Go.AL.W Go.AL.WL Go.AL.WD Go.AL.POp Go.AL.PPOp Go.AL.POpS Go.AL.PC Go.AL.AC Go.AL.YW Go.AL.Ret Go.AL.Le Go.AL.thn Go.AL.inBlk Go.AL.scp
set_option maxHeartbeats 64000000 in
theorem fold_ac [GlobF Tryz.prog] (l : List Dat) (F : List Fac) (hF : foldR l = some F) (hl : l.length < 1759218604500) (hsl : ∀ d, d ∈ l → d.v.s.length < 9223372036854775808) (hrg : rgD l) : AC Tryz.prog 23 [sl9 l] [] (fun v h' => v = .tu [.sl (some 3) 6 (F.map fC), .sc (.int .i64 0)] ∧ h'[3]? = some (.tail F.length 6 42)) := by
  have hmayA := foldR_ok l hrg
  rw [hF] at hmayA
  replace hmayA := hmayA.1
  have hS := dsort_pc 1 l hl
  have hSl := dsortL_len 1 l
  have hSm := dsort_mem 1 l
  refine AC.of_body Tryz.func23 Tryz.ntmps23 rfl rfl rfl ?_
  repeat' first
    | (apply p1 (hd := rfl); case hop => first | (apply D_move; rfl) | (apply D_lenM; rfl))
    | refine W_seq ?_
    | refine W_region ?_
    | refine WL_nil ?_
    | refine tn ?_
    | refine W_block ?_
    | (refine idA ?_; refine m_alloc rfl ?_)
    | fail
  refine W_loopL (X := Nat) (fun i => [(0, sl9 l), (2, .bp 0 0), (3, .bp 1 0), (12, sl9 l), (13, .sc (.int .i64 (l.length : Int))), (14, .sc (.int .i64 (i : Int)))]) (fun _ => [.cells [.sc (.slice none 0 0)], .cells [.sc (.int .i64 0)]])
    (fun i => i ≤ l.length ∧ ∀ (j : Nat) (h : j < l.length), j < i → dmayP l[j]) (fun i => l.length - i) 0 ⟨Nat.zero_le _, fun j h hj => absurd hj (Nat.not_lt_zero j)⟩ ⟨rfl, rfl, rfl, rfl, rfl, rfl, trivial⟩ rfl ?_
  rintro i ⟨hi, hz⟩
  by_cases hil : i < l.length
  · have hc := dcheck_pc (l[i]'hil) (hsl _ (List.getElem_mem _))
    by_cases hm : dmayP (l[i]'hil)
    · rw [← dP_T hm, if_pos rfl] at hc
      repeat' first
        | (apply p1 (hd := rfl); case hop => first | (apply D_move; rfl) | (apply D_pc hc; rfl; exact .same rfl .nil) | (apply D_int; rfl; rfl; rfl) | (apply D_loadW; rfl; rfl) | (apply D_idxAn; rfl; rfl; (first | omega | (simp; done))))
        | refine W_seq ?_
        | refine W_region ?_
        | (refine idC ?_; refine cs rfl (fun _ => ?_) (fun _ => ?_))
        | refine WL_nil ?_
        | refine tn ?_
        | refine tr ?_
        | refine br ?_
        | refine bn ?_
        | refine te ?_
        | (refine idB ?_; refine bh rfl ?_)
        | refine W_skip ?_
        | refine W_block ?_
        | refine W_exit ?_
        | refine W_ret ?_
        | (refine idA ?_; first | refine m_var rfl rfl rfl rfl rfl rfl rfl ?_ | refine m_alloc rfl ?_)
        | (refine idS ?_; refine pS (S_store rfl rfl rfl rfl rfl rfl rfl) ?_)
        | fail
      all_goals first
        | contradiction
        | (exfalso; omega)
        | (refine ⟨rfl, i + 1, ⟨by omega, fun j h hj => ?_⟩, by omega, ⟨rfl, rfl, rfl, rfl, rfl, ieq (wsucc i (by omega)), trivial⟩, rfl⟩
           by_cases e : j = i
           · subst e; exact hm
           · exact hz j h (by omega))
        | skip
      all_goals trace_state
    · exact absurd (hmayA _ (List.getElem_mem _)) hm
  · have hall : ∀ d, d ∈ l → dmayP d := fun d hd => by
      obtain ⟨j, hj, rfl⟩ := List.getElem_of_mem hd
      exact hz j hj (by omega)
    have hR : foldR l = foldG (grpL (grP true) (dsortL 1 l)) := by unfold foldR; rw [← dP_T hall, if_pos rfl]
    rw [hR] at hF
    have hok : ∀ d, d ∈ dsortL 1 l → d.fr < d.to := fun d hd => (hall d (hSm d hd)).2.2.2.2.2.2.2
    have hrS : ∀ d, d ∈ dsortL 1 l → loT ≤ d.fr ∧ d.to ≤ hiT := fun d hd => hrg d (hSm d hd)
    generalize dsortL 1 l = S at *
    repeat' first
      | (refine WL_adoptC 2 0 6 42 rfl rfl ?_)
      | (apply p1 (hd := rfl); case hop => first | (apply D_move; rfl) | (apply D_pc hS; rfl; exact .same rfl (.same rfl .nil)) | (apply D_int; rfl; rfl; rfl) | (apply D_loadW; rfl; rfl) | (apply D_idxAn; rfl; rfl; (first | omega | (simp; done))))
      | refine W_seq ?_
      | refine W_region ?_
      | (refine idC ?_; refine cs rfl (fun _ => ?_) (fun _ => ?_))
      | refine WL_nil ?_
      | refine tn ?_
      | refine te ?_
      | (refine idB ?_; refine bh rfl ?_)
      | refine W_skip ?_
      | refine W_block ?_
      | refine W_exit ?_
      | (refine idA ?_; first | refine m_var rfl rfl rfl rfl rfl rfl rfl ?_ | refine m_alloc rfl ?_)
      | (refine m_call (d := 24) (groups_ac S true _) rfl rfl rfl ?_; rintro _ _ ⟨rfl, rfl⟩)
      | fail
    · exfalso; omega
    refine W_weak (s' := ⟨[(2, .bp 0 0), (3, .bp 1 0), (6, .bp 2 0), (24, .fn (.func 82) [] [.bp 4 0, .ep [.sc (.bool true)]])], [.cells [.sc (.slice none 0 0)], .cells [.sc (.int .i64 0)], .cells [.sl (some 3) 6 []], .tail 0 6 42, .cells [sl9 S]], ⟨[], 0⟩⟩) ⟨⟨rfl, rfl, rfl, rfl, trivial⟩, rfl, rfl⟩ ?_
    refine W_rangeX (.inl rfl) fun l1 X hX => ?_
    refine AC.mono (groups1_ac true l1 4 (fun r h => ∃ o ex, h = HF 0 o r (.raw (.deferred (some []))) (X .ready none) ++ ex ∧ foldG (grpL (grP true) S) = (foldG (grpL (grP true) r)).map (o ++ ·) ∧ o.length + r.length ≤ S.length ∧ ∃ k, r = S.drop k)
      (fun h => foldG (grpL (grP true) S) = none ∧ ∃ o r ex, h = HF 60 o r (.raw (.deferred (some []))) (X .done (some .ret)) ++ ex) (r0 := S) (by omega) ⟨[], [], rfl, ?_, by simp, 0, rfl⟩ ?_ ?_) ?_
    · cases foldG (grpL (grP true) S) <;> rfl
    · rintro r h ⟨o, ex, rfl, _⟩; rfl
    · rintro r h n ⟨o, ex, rfl, hJ, hlen, k, hk⟩ hn0 hn1 hg
      refine YW.round (r := 6) (ps := [25]) ((show _ = some (X .ready none) from rfl).trans (congrArg some (hX .ready none))) rfl rfl ?_
      repeat' first
        | (apply p1 (hd := rfl); case hop => (apply D_assign; rfl))
        | refine W_region ?_
        | refine WL_nil ?_
        | fail
      refine ⟨rfl, (show _ = some (X .ready none) from rfl).trans (congrArg some (hX .ready none)), ?_⟩
      refine W_hq (h' := HF 0 o r (.raw (.deferred (some []))) (X .busy none) ++ ex) (by rw [hX .busy none]; rfl) ?_
      generalize hgd : r.take n = g at *
      obtain ⟨d0, hd0⟩ : ∃ d0, d0 = g.headD dat0 := ⟨_, rfl⟩
      have hgl : 0 < g.length := by rw [← hgd]; simp; omega
      have hg0 : g[0]'hgl = d0 := by rw [hd0]; cases g with
        | nil => simp at hgl
        | cons x t => rfl
      repeat' first
        | (refine idW ?_; refine W_dS1 (id := 10) 14 rfl rfl (by decide +kernel) ?_; simp only [List.take_succ_cons, List.take_zero, List.drop_succ_cons, List.drop_zero])
        | (refine dV (S_alloc _ get_last) (by simp [Nat.blt_eq]) rfl ?_)
        | (apply p1 (hd := rfl); case hop => (apply D_move; rfl))
        | refine W_seq ?_
        | refine W_region ?_
        | refine WL_nil ?_
        | refine tn ?_
        | refine W_block ?_
        | (refine idS ?_; refine pS (S_store rfl rfl rfl (by (repeat first | assumption | exact get_last | (refine get_last2 ?_; focus (simp; done)) | apply get_set | apply get_app | (apply get_ne; focus omega) | (apply get_ne; focus (simp only [List.length_set, List.length_append, List.length_cons, List.length_nil]; omega))); done) (by rfl) (by rfl) (by rfl)) ?_)
        | (apply d1 (hd := rfl); case hop => first | (apply D_move; rfl) | (apply D_load1; rfl) | (apply D_fld; rfl) | (apply D_loadA; rfl; rfl) | (apply D_idxAn; rfl; rfl; (first | omega | (simp; done))) | exact D_build rfl)
        | refine WD_nil (by first | decide +kernel | kernel_rfl | rfl) ?_
        | fail
      refine WL_hq (h' := HF 0 o r (.raw (.deferred (some []))) (X .busy none) ++ ex ++ [.cells (fce (g[0]'hgl) (.sc (.slice none 0 0)))]) (by rw [set_last, set_last]; rfl) ?_
      rw [hg0]
      repeat' first
        | refine WL_nil ?_
        | refine tn ?_
        | refine W_block ?_
        | (refine m_call (d := 40) (groups_ac g false _) rfl rfl rfl ?_; rintro _ _ ⟨rfl, rfl⟩)
        | fail
      obtain ⟨A, hA⟩ : ∃ A, A = HF 0 o r (.raw (.deferred (some []))) (X .busy none) ++ ex := ⟨_, rfl⟩
      have hgS : ∀ d, d ∈ g → d ∈ S := fun d hd => by
        rw [← hgd] at hd
        have := List.mem_of_mem_take hd
        rw [hk] at this
        exact List.mem_of_mem_drop this
      have hgn : g.length ≤ S.length := by rw [← hgd, hk]; simp; omega
      refine W_weak (s' := ⟨[(2, .bp 0 0), (3, .bp 1 0), (6, .bp 2 0), (8, .bp (HF 0 o r (.raw (.deferred (some []))) (X .busy none) ++ ex).length 0), (40, .fn (.func 82) [] [.bp ((HF 0 o r (.raw (.deferred (some []))) (X .busy none) ++ ex).length + 1) 0, .ep [.sc (.bool false)]])], HF 0 o r (.raw (.deferred (some []))) (X .busy none) ++ ex ++ [AObj.cells (fce d0 (.sc (.slice none 0 0)))] ++ [.cells [sl9 g]], ⟨[], _⟩⟩) ⟨⟨rfl, rfl, rfl, rfl, congrArg (fun n => some (AV.fn (.func 82) [] [.bp n 0, .ep [.sc (.bool false)]])) (by simp), trivial⟩, rfl, rfl⟩ ?_
      refine W_rangeNX (r0 := 6) ((show _ = some (X .busy none) from rfl).trans (congrArg some (hX .busy none))) (.inl rfl) fun l2 Y hY => ?_
      rw [show (HF 0 o r (.raw (.deferred (some []))) (X .busy none) ++ ex ++ [AObj.cells (fce d0 (.sc (.slice none 0 0)))] ++ [AObj.cells [sl9 g]]).length = (HF 0 o r (.raw (.deferred (some []))) (X .busy none) ++ ex).length + 2 from by simp]
      refine AC.mono (groups1_ac false l2 _ (fun r2 h => ∃ now c ex2, h = HF 0 o r (.raw (.deferred (some []))) (X .busy none) ++ ex ++ [.cells (fce d0 c)] ++ [.cells [sl9 r2]] ++ [Y .ready none] ++ ex2 ∧ ((c = .sc (.slice none 0 0) ∧ now = []) ∨ c = sl2 now) ∧ SetP now ∧ rngS now ∧ foldT [] (grpL (grP false) g) = foldT now (grpL (grP false) r2) ∧ now.length + 2 * r2.length ≤ 2 * g.length ∧ ∃ k, r2 = g.drop k)
        (fun h => foldT [] (grpL (grP false) g) = none ∧ ∃ c r2 ex2, h = HF 60 o r (.raw (.deferred (some []))) (X .busy none) ++ ex ++ [.cells (fce d0 c)] ++ [.cells [sl9 r2]] ++ [Y .done (some .ret)] ++ ex2) (r0 := g) (by omega) ⟨[], .sc (.slice none 0 0), [], by simp, .inl ⟨rfl, rfl⟩, .nil, fun s hs => by simp at hs, rfl, by simp, 0, rfl⟩ ?_ ?_) ?_
      · rintro r2 h ⟨now, c, ex2, rfl, _⟩; exact get1
      · rintro r2 h n2 ⟨now, c, ex2, rfl, hc, hset, hrn, hT, hl2, k2, hk2⟩ hn2 hn3 hg2
        have hx0 : ∀ d, d ∈ r2.take n2 → d ∈ g := fun d hd => by
          have := List.mem_of_mem_take hd
          rw [hk2] at this
          exact List.mem_of_mem_drop this
        have hxo : okD (r2.take n2) := fun d hd => hok d (hgS d (hx0 d hd))
        have hxr : rgD (r2.take n2) := fun d hd => hrS d (hgS d (hx0 d hd))
        have hxl : (r2.take n2).length = n2 := by simp; omega
        have htl := tn_len now (r2.take n2)
        have ht := turned_pc now (r2.take n2) hset hxo (by omega)
        obtain ⟨hts, htr, _⟩ := tn_ok hset hrn hxo hxr
        have hdl : (r2.drop n2).length = r2.length - n2 := by simp
        have hkk : ∃ k, r2.drop n2 = g.drop k := ⟨k2 + n2, by rw [hk2, List.drop_drop]⟩
        rw [hg2, foldT_cons] at hT
        generalize hxd : r2.take n2 = x at *
        refine YW.round (r := (HF 0 o r (.raw (.deferred (some []))) (X .busy none) ++ ex).length + 2) (ps := [41]) (get2.trans (congrArg some (hY .ready none))) rfl rfl ?_
        repeat' first
          | (apply p1 (hd := rfl); case hop => (apply D_assign; rfl))
          | refine W_region ?_
          | refine WL_nil ?_
          | fail
        refine ⟨rfl, get2.trans (congrArg some (hY .ready none)), ?_⟩
        refine W_hq (h' := HF 0 o r (.raw (.deferred (some []))) (X .busy none) ++ ex ++ [.cells (fce d0 c)] ++ [.cells [sl9 r2]] ++ [Y .busy none] ++ ex2) (by rw [hY .busy none, set2]) ?_
        have hnt : Value.bool (bNot true) = .bool false := by simp [bNot]
        have hnf : Value.bool (bNot false) = .bool true := by simp [bNot]
        by_cases hb0 : (bothL x).length = 0
        · rw [if_pos hb0] at hT
          rw [← dP_T hb0] at ht
          rcases hc with ⟨rfl, rfl⟩ | rfl
          all_goals
            repeat' first
              | (apply p1 (hd := rfl); case hop => first | (apply D_move; rfl) | (apply D_assign; rfl) | exact D_sc (D_not rfl) hnt | (apply D_pc ht; rfl; first | exact .same rfl (.same rfl .nil) | exact .niln rfl (.same rfl .nil)) | (apply D_ext; rfl; rfl) | exact D_fldB rfl)
              | refine W_seq ?_
              | refine W_region ?_
              | (refine idC ?_; refine c0 rfl ?_)
              | refine WL_nil ?_
              | refine tn ?_
              | refine bn ?_
              | refine W_skip ?_
              | refine W_block ?_
              | (refine idLd ?_; refine p1L (D_loadB1 rfl (by (repeat first | assumption | exact get_last | (refine get_last2 ?_; focus (simp; done)) | apply get_set | apply get_app | (apply get_ne; focus omega) | (apply get_ne; focus (simp only [List.length_set, List.length_append, List.length_cons, List.length_nil]; omega))); done) (by rfl)) rfl ?_)
              | (refine idS ?_; refine pS (S_store rfl rfl rfl (by (repeat first | assumption | exact get_last | (refine get_last2 ?_; focus (simp; done)) | apply get_set | apply get_app | (apply get_ne; focus omega) | (apply get_ne; focus (simp only [List.length_set, List.length_append, List.length_cons, List.length_nil]; omega))); done) (by rfl) (by rfl) (by rfl)) ?_)
              | fail
          all_goals
            refine roundQ_hq (P := Tryz.prog) (h' := HF 0 o r (.raw (.deferred (some []))) (X .busy none) ++ ex ++ [.cells (fce d0 (sl2 (tnL _ x)))] ++ [.cells [sl9 r2]] ++ [Y .busy none] ++ ex2) (by rw [set0]; rfl) ?_
            refine ⟨rfl, ⟨_, _, get2.trans (congrArg some (hY .busy none))⟩, .inl ⟨rfl, ?_⟩⟩
            dsimp only
            rw [← hY .ready none, set2]
            refine ⟨get1, _, _, ex2, set1, .inr rfl, hts, htr, hT, ?_, hkk⟩
            omega
        · rw [if_neg hb0] at hT
          rw [← dP_F hb0] at ht
          rcases hc with ⟨rfl, rfl⟩ | rfl
          all_goals
            repeat' first
              | (apply p1 (hd := rfl); case hop => first | (apply D_move; rfl) | (apply D_assign; rfl) | exact D_sc (D_not rfl) hnf | (apply D_pc ht; rfl; first | exact .same rfl (.same rfl .nil) | exact .niln rfl (.same rfl .nil)) | (apply D_ext; rfl; rfl) | exact D_fldB rfl)
              | refine W_seq ?_
              | refine W_region ?_
              | (refine idC ?_; refine c1 rfl ?_)
              | refine WL_nil ?_
              | refine tn ?_
              | refine tr ?_
              | refine br ?_
              | refine W_block ?_
              | refine W_ret ?_
              | (refine idLd ?_; refine p1L (D_loadB1 rfl (by (repeat first | assumption | exact get_last | (refine get_last2 ?_; focus (simp; done)) | apply get_set | apply get_app | (apply get_ne; focus omega) | (apply get_ne; focus (simp only [List.length_set, List.length_append, List.length_cons, List.length_nil]; omega))); done) (by rfl)) rfl ?_)
              | (refine idS ?_; refine pS (S_store rfl rfl rfl rfl rfl rfl rfl) ?_)
              | fail
          all_goals
            refine roundQ_hq (P := Tryz.prog) (h' := HF 60 o r (.raw (.deferred (some []))) (X .busy none) ++ ex ++ [.cells (fce d0 _)] ++ [.cells [sl9 r2]] ++ [Y .busy none] ++ ex2) rfl ?_
            refine ⟨rfl, ⟨_, _, get2.trans (congrArg some (hY .busy none))⟩, .inr ⟨rfl, hT, ?_⟩⟩
            dsimp only
            rw [← hY .done (some .ret)]
            exact ⟨_, r2, ex2, set2⟩
      · rintro v h' (⟨now, c, ex2, rfl, hc, hset, hrn, hT, hl2, _⟩ | ⟨hT, c, r2, ex2, rfl⟩)
        · refine ⟨.ready, none, get2.trans (congrArg some (hY .ready none)), by decide, ?_⟩
          dsimp only
          rw [grpL_nil] at hT
          have hT' : foldT [] (grpL (grP false) g) = some now := hT
          rw [set2]
          have hok1 := foldG_ok hJ (by rw [hgd]; exact hg) (by rw [hgd]; exact hT')
          rw [hgd] at hok1
          have hdl : (r.drop n).length = r.length - n := by simp
          have hkk : ∃ k, r.drop n = S.drop k := ⟨k + n, by rw [hk, List.drop_drop]⟩
          have hno : now.length = 0 → foldG (grpL (grP true) S) = (foldG (grpL (grP true) (r.drop n))).map (o ++ ·) := fun e => by
            rw [hok1, oneF, if_pos e, List.append_nil]
          have hyes : ¬ now.length = 0 → foldG (grpL (grP true) S) = (foldG (grpL (grP true) (r.drop n))).map ((o ++ [⟨d0.e, d0.a, d0.v, now⟩]) ++ ·) := fun e => by
            rw [hok1, oneF, if_neg e, hd0]
          rcases hc with ⟨rfl, rfl⟩ | rfl
          · repeat' first
              | (apply p1 (hd := rfl); case hop => first | (apply D_int; rfl; rfl; rfl) | (apply D_len_nil; rfl) | (apply D_lit; rfl; rfl; rfl; rfl) | exact D_fldB rfl)
              | refine W_seq ?_
              | refine W_region ?_
              | (refine idC ?_; refine cs rfl (fun _ => ?_) (fun _ => ?_))
              | refine WL_nil ?_
              | refine tn ?_
              | refine bn ?_
              | refine W_skip ?_
              | (refine idLd ?_; first | refine p1L (D_loadB1 rfl rfl rfl) rfl ?_ | refine p1L (D_loadB1 rfl (by (repeat first | assumption | exact get_last | (refine get_last2 ?_; focus (simp; done)) | apply get_set | apply get_app | (apply get_ne; focus omega) | (apply get_ne; focus (simp only [List.length_set, List.length_append, List.length_cons, List.length_nil]; omega))); done) (by rfl)) rfl ?_ | refine p1L (D_loadBA rfl (by (repeat first | assumption | exact get_last | (refine get_last2 ?_; focus (simp; done)) | apply get_set | apply get_app | (apply get_ne; focus omega) | (apply get_ne; focus (simp only [List.length_set, List.length_append, List.length_cons, List.length_nil]; omega))); done) (by rfl)) rfl ?_)
              | (refine idS ?_; refine pS (S_store rfl rfl rfl rfl rfl rfl rfl) ?_)
              | (refine idAp ?_; refine m_appB rfl rfl rfl (by first | rfl | assumption | exact get_set (by assumption) | exact get_set (get_set (by assumption)) | exact get_set (get_set (get_set (by assumption))) | ((repeat first | assumption | exact get_last | (refine get_last2 ?_; focus (simp; done)) | apply get_set | apply get_app | (apply get_ne; focus omega)); done)) ?_ rfl rfl ?_ ?_ rfl ?_; (first | rfl | focus (simp only [List.length_map, List.length_append, List.length_cons, List.length_nil]; omega) | focus (simp; done) | focus (simp; omega)); (first | focus (simp only [List.length_map, List.length_append, List.length_cons, List.length_nil]; omega) | focus (simp; done) | focus (simp; omega)); (first | focus (simp only [List.length_map, List.length_append, List.length_cons, List.length_nil]; omega) | focus (simp; done) | focus (simp; omega)))
              | fail
            all_goals first
              | (exfalso; omega)
              | skip
            refine ⟨rfl, ⟨_, _, (show _ = some (X .busy none) from rfl).trans (congrArg some (hX .busy none))⟩, .inl ⟨rfl, ?_⟩⟩
            dsimp only
            rw [← hX .ready none]
            exact ⟨rfl, o, ex ++ [.cells (fce d0 (.sc (.slice none 0 0)))] ++ [.cells [sl9 []]] ++ [.dead] ++ ex2, rfl, hno rfl, by omega, hkk⟩
          · repeat' first
              | (apply p1 (hd := rfl); case hop => first | (apply D_int; rfl; rfl; rfl) | (apply D_lenM; rfl) | (apply D_lit; rfl; rfl; rfl; rfl) | exact D_fldB rfl)
              | refine W_seq ?_
              | refine W_region ?_
              | (refine idC ?_; refine cs rfl (fun _ => ?_) (fun _ => ?_))
              | refine WL_nil ?_
              | refine tn ?_
              | refine bn ?_
              | refine W_skip ?_
              | (refine idLd ?_; first | refine p1L (D_loadB1 rfl rfl rfl) rfl ?_ | refine p1L (D_loadB1 rfl (by (repeat first | assumption | exact get_last | (refine get_last2 ?_; focus (simp; done)) | apply get_set | apply get_app | (apply get_ne; focus omega) | (apply get_ne; focus (simp only [List.length_set, List.length_append, List.length_cons, List.length_nil]; omega))); done) (by rfl)) rfl ?_ | refine p1L (D_loadBA rfl (by (repeat first | assumption | exact get_last | (refine get_last2 ?_; focus (simp; done)) | apply get_set | apply get_app | (apply get_ne; focus omega) | (apply get_ne; focus (simp only [List.length_set, List.length_append, List.length_cons, List.length_nil]; omega))); done) (by rfl)) rfl ?_)
              | (refine idS ?_; refine pS (S_store rfl rfl rfl rfl rfl rfl rfl) ?_)
              | (refine idAp ?_; refine m_appB rfl rfl rfl (by first | rfl | assumption | exact get_set (by assumption) | exact get_set (get_set (by assumption)) | exact get_set (get_set (get_set (by assumption))) | ((repeat first | assumption | exact get_last | (refine get_last2 ?_; focus (simp; done)) | apply get_set | apply get_app | (apply get_ne; focus omega)); done)) ?_ rfl rfl ?_ ?_ rfl ?_; (first | rfl | focus (simp only [List.length_map, List.length_append, List.length_cons, List.length_nil]; omega) | focus (simp; done) | focus (simp; omega)); (first | focus (simp only [List.length_map, List.length_append, List.length_cons, List.length_nil]; omega) | focus (simp; done) | focus (simp; omega)); (first | focus (simp only [List.length_map, List.length_append, List.length_cons, List.length_nil]; omega) | focus (simp; done) | focus (simp; omega)))
              | fail
            all_goals first
              | (have e : now.length = 0 := by omega
                 refine ⟨rfl, ⟨_, _, (show _ = some (X .busy none) from rfl).trans (congrArg some (hX .busy none))⟩, .inl ⟨rfl, ?_⟩⟩
                 dsimp only
                 rw [← hX .ready none]
                 exact ⟨rfl, o, ex ++ [.cells (fce d0 (sl2 now))] ++ [.cells [sl9 []]] ++ [.dead] ++ ex2, rfl, hno e, by omega, hkk⟩)
              | (have e : ¬ now.length = 0 := by omega
                 refine roundQ_hq (P := Tryz.prog) (h' := HF 0 (o ++ [⟨d0.e, d0.a, d0.v, now⟩]) r (.raw (.deferred (some []))) (X .busy none) ++ (ex ++ [.cells (fce d0 (sl2 now))] ++ [.cells [sl9 []]] ++ [.dead] ++ ex2)) (by rw [HF_snoc]; rfl) ?_
                 refine ⟨rfl, ⟨_, _, (show _ = some (X .busy none) from rfl).trans (congrArg some (hX .busy none))⟩, .inl ⟨rfl, ?_⟩⟩
                 dsimp only
                 rw [← hX .ready none]
                 refine ⟨rfl, o ++ [⟨d0.e, d0.a, d0.v, now⟩], ex ++ [.cells (fce d0 (sl2 now))] ++ [.cells [sl9 []]] ++ [.dead] ++ ex2, rfl, hyes e, ?_, hkk⟩
                 rw [List.length_append, List.length_singleton]; omega)
              | skip
            all_goals trace_state
        · refine ⟨.done, some .ret, get2.trans (congrArg some (hY .done (some .ret))), by decide, ?_⟩
          dsimp only
          rw [show (HF 0 o r (.raw (.deferred (some []))) (X .busy none) ++ ex).length = (HF 60 o r (.raw (.deferred (some []))) (X .busy none) ++ ex).length from rfl, set2]
          have hno1 := foldG_no hJ (by rw [hgd]; exact hg) (by rw [hgd]; exact hT)
          repeat' first
            | refine tr ?_
            | refine br ?_
            | fail
          refine ⟨rfl, ⟨_, _, (show _ = some (X .busy none) from rfl).trans (congrArg some (hX .busy none))⟩, .inr ⟨rfl, hno1, ?_⟩⟩
          dsimp only
          rw [← hX .done (some .ret)]
          exact ⟨o, r, ex ++ [.cells (fce d0 c)] ++ [.cells [sl9 r2]] ++ [.dead] ++ ex2, rfl⟩
    · rintro v h' (⟨o, ex, rfl, hJ, _⟩ | ⟨hJ, o, r, ex, rfl⟩)
      · refine ⟨.ready, none, (show _ = some (X .ready none) from rfl).trans (congrArg some (hX .ready none)), by decide, ?_⟩
        rw [hF, grpL_nil] at hJ
        have e : (foldG []).map (o ++ ·) = some o := by simp [foldG]
        rw [e] at hJ
        cases hJ
        repeat' first
          | refine W_seq ?_
          | refine W_region ?_
          | refine WL_nil ?_
          | refine tn ?_
          | refine bn ?_
          | refine W_ret ?_
          | (refine idLd ?_; refine p1L (D_loadB1 rfl rfl rfl) rfl ?_)
          | (refine idS ?_; refine pS (S_store rfl rfl rfl rfl rfl rfl rfl) ?_)
          | fail
        all_goals trace_state
        all_goals exact retK (rs := [.cell 2 _, .cell 3 _]) (vs := [.sl (some 3) 6 (F.map fC), .sc (.int .i64 0)]) (.inl rfl) rfl ⟨rfl, trivial⟩ ⟨ResO.cellB1 rfl rfl rfl, ResO.cellB1 rfl rfl rfl, trivial⟩ ⟨rfl, rfl⟩
      · rw [hF] at hJ; cases hJ
end Go.Proofs

namespace Go.Proofs
open Go.AL Go.Sort
attribute [local irreducible] Go.AL.W Go.AL.WL Go.AL.WD Go.AL.POp Go.AL.PPOp Go.AL.POpS Go.AL.PC Go.AL.AC Go.AL.YW Go.AL.Ret Go.AL.Le Go.AL.thn Go.AL.inBlk Go.AL.scp
set_option maxHeartbeats 4000000 in
theorem few_ac [GlobF Tryz.prog] (h : List AObj) : AC Tryz.prog 30 [] h (fun v h' => v = .sl (some h.length) 9 (fewL.map dC) ∧ h' = h ++ [.tail 2 9 52]) := by
  refine AC.of_body Tryz.func30 Tryz.ntmps30 rfl rfl rfl ?_
  repeat' first
    | refine m_lit (d := 5) rfl rfl rfl rfl rfl rfl ?_
    | (apply p1 (hd := rfl); case hop => first | (apply D_assign; rfl) | (apply D_pc one_pc; rfl; exact .nil) | exact D_build rfl)
    | refine W_seq ?_
    | refine W_region ?_
    | refine WL_nil ?_
    | refine tn ?_
    | refine W_ret ?_
    | fail
  all_goals first
    | exact retK1 (.inl rfl) rfl rfl (ResO.tmp rfl) ⟨rfl, rfl⟩
    | exact retK1 (.inr rfl) rfl rfl (ResO.tmp rfl) ⟨rfl, rfl⟩
    | skip
  all_goals trace_state
set_option maxHeartbeats 32000000 in
theorem factsNames_pc [GlobF Tryz.prog] : PC Tryz.prog 8 [] (.sc (.bool true)) := by
  have hsl : ∀ d, d ∈ fewL → d.v.s.length < 9223372036854775808 := fun d hd => by rcases few_mem hd with rfl | rfl <;> decide
  have q0 := fold_ac fewL fewF few_fold (by decide) hsl few_rg
  have q1 := vof_pc fewL ⟨1, 0, 0, false, false⟩ (by decide) hsl few_rg
  rw [vof_up.1, vof_up.2] at q1
  have q2 := vof_pc fewL ⟨0, 1, 0, false, false⟩ (by decide) hsl few_rg
  rw [vof_af.1, vof_af.2] at q2
  have q3 := vof_pc fewL ⟨0, 0, 5, true, false⟩ (by decide) hsl few_rg
  rw [vof_at.1, vof_at.2] at q3
  have q4 := vof_pc fewL ⟨0, 0, 0, false, true⟩ (by decide) hsl few_rg
  rw [vof_no.1, vof_no.2] at q4
  have q5 := fold_pc (fewL ++ [adD]) (by decide) (fun d hd => by
    simp only [List.mem_append, List.mem_cons, List.not_mem_nil, or_false] at hd
    rcases hd with (rfl | rfl) | rfl <;> decide) (fun d hd => by
    simp only [List.mem_append, List.mem_cons, List.not_mem_nil, or_false] at hd
    rcases hd with (rfl | rfl) | rfl <;> decide)
  rw [fold_ad] at q5
  have q5 : PC Tryz.prog 23 [.sl none 9 (fewL.map dC ++ [dC adD])] (.tu [sl6 [], .sc (.int .i64 60)]) := q5
  have hbF : bndG fewF := fun f hf => by rw [List.mem_singleton.1 hf]; decide
  have hb0 : bndG [] := fun f hf => by simp at hf
  have ha0 : allF [] := fun i hi => by simp at hi
  have q6 := changes_pc [] fewF 3 ha0 few_F.1 (by decide) (by decide) (by decide) (by decide) hb0 hbF (fun f hf => by rw [List.mem_singleton.1 hf]; decide) (fun f hf => by simp at hf) (by
    have h1 := lessL_len [] 3 true 3 fewF fun f hf => by
      rw [List.mem_singleton.1 hf]
      exact min_len _ _
    show (lessL fewF [] 3 true ++ []).length * 80 ≤ _
    rw [List.append_nil]
    have h2 : fewF.length * 3 = 3 := rfl
    omega)
  rw [chg_few] at q6
  have q7 := changesA_pc [] fewF 0 ha0 few_F.1 (by decide) (by decide) (by decide) hb0 hbF
  have q8 := vdat_pc [] ⟨-1, 0, 0, false, false⟩ (by decide)
  rw [← dP_F (show ¬ vwP ⟨-1, 0, 0, false, false⟩ by unfold vwP; decide)] at q8
  have q8 : PC Tryz.prog 26 [sl9 [], eW ⟨-1, 0, 0, false, false⟩] (.tu [sl9 [], .sc (.int .i64 2)]) := q8
  have q9 := fat_pc [⟨1, 1, oneV, []⟩] 0 (by decide) (fun f hf => by rw [List.mem_singleton.1 hf]; decide)
  rw [← dP_F not_one] at q9
  have q9 : PC Tryz.prog 12 [sl6 [⟨1, 1, oneV, []⟩], .sc (.int .i64 0)] (.tu [sl6 [], .sc (.int .i64 60)]) := q9
  have q10 := fcheck_pc fewF (by decide) hbF.f
  rw [← dP_T few_F.1, if_pos rfl] at q10
  have q11 := fcheck_pc (fewF ++ fewF) (by decide) (fun f hf => by
    rcases List.mem_append.1 hf with h | h <;> rw [List.mem_singleton.1 h] <;> decide)
  rw [← dP_F not_two, if_neg (by decide)] at q11
  have q11 : PC Tryz.prog 11 [.sl none 6 (fewF.map fC ++ fewF.map fC)] (.sc (.int .i64 60)) := q11
  have z0 : Value.bool (iEq 0 0) = .bool true := by rw [(iEq_t _ _).mpr rfl]
  have z1 : Value.bool (iEq 1 1) = .bool true := by rw [(iEq_t _ _).mpr rfl]
  have z2 : Value.bool (iEq 2 2) = .bool true := by rw [(iEq_t _ _).mpr rfl]
  have z6 : Value.bool (iEq 6 6) = .bool true := by rw [(iEq_t _ _).mpr rfl]
  have z60 : Value.bool (iEq 60 60) = .bool true := by rw [(iEq_t _ _).mpr rfl]
  refine PC.of_body Tryz.func8 Tryz.ntmps8 rfl rfl rfl ?_
  repeat' first
    | (refine m_call (d := 47) (few_ac _) rfl rfl rfl ?_; rintro _ _ ⟨rfl, rfl⟩)
    | (refine m_app (d := 51) (els := fewL.map dC) (els' := [dC adD]) rfl rfl get_last rfl rfl rfl (by simp only [List.length_map, List.length_cons, List.length_nil]; omega) (by simp only [List.length_map, List.length_cons, List.length_nil]; omega) rfl ?_)
    | (refine m_app (d := 185) (els := fewF.map fC) (els' := fewF.map fC) rfl rfl (get_ne (by have := get_lt h3; omega) (get_app h3)) rfl rfl rfl (by simp only [List.length_map, List.length_cons, List.length_nil]; omega) (by simp only [List.length_map, List.length_cons, List.length_nil]; omega) rfl ?_)
    | (apply p1 (hd := rfl); case hop => first | (apply D_move; rfl) | (apply D_assign; rfl) | (apply D_pc few_pc; rfl; exact .nil) | (apply D_pc one_pc; rfl; exact .nil) | (apply D_pc falive_pc; rfl; exact .nil) | (apply D_pc q1; rfl; exact .same rfl (.cons rfl (Le.of_eq rfl) .nil)) | (apply D_pc q2; rfl; exact .same rfl (.cons rfl (Le.of_eq rfl) .nil)) | (apply D_pc q3; rfl; exact .same rfl (.cons rfl (Le.of_eq rfl) .nil)) | (apply D_pc q4; rfl; exact .same rfl (.cons rfl (Le.of_eq rfl) .nil)) | (apply D_pc q5; rfl; exact .tok rfl .nil) | (apply D_pc q6; rfl; exact .niln rfl (.tok rfl (.same rfl .nil))) | (apply D_pc q7; rfl; exact .niln rfl (.tok rfl (.same rfl .nil))) | (apply D_pc q8; rfl; exact .niln rfl (.cons rfl (Le.of_eq rfl) .nil)) | (apply D_pc q9; rfl; exact .cons rfl (Le.slE ⟨⟨Le.of_eq rfl, Le.of_eq rfl, Le.of_eq rfl, Le.of_eq rfl, Le.of_eq rfl, Le.nil rfl, trivial⟩, trivial⟩) (.same rfl .nil)) | (apply D_pc q10; rfl; exact .tok rfl .nil) | (apply D_pc q11; rfl; exact .tok rfl .nil) | exact D_sc (D_int rfl rfl rfl) z0 | exact D_sc (D_int rfl rfl rfl) z1 | exact D_sc (D_int rfl rfl rfl) z60 | (apply D_load1; rfl) | (apply D_fld; rfl) | (apply D_pickT; rfl; rfl) | (apply D_pickF; rfl; rfl) | (apply D_lenM; rfl) | (apply D_ext; rfl; rfl) | (apply D_loadW; rfl; rfl) | (apply D_idxAn; rfl; rfl; (first | omega | (simp; done))) | (apply D_lit; rfl; rfl; rfl; rfl) | exact D_build rfl | exact D_eqA rfl rfl rfl rfl rfl rfl rfl)
    | refine W_seq ?_
    | refine W_region ?_
    | refine WL_nil ?_
    | (refine idG ?_; first | refine g0t rfl rfl rfl ?_ | refine gr rfl rfl ?_ | refine gs rfl rfl (fun _ => ?_) (fun _ => ?_))
    | refine tn ?_
    | refine W_ret ?_
    | (refine idR ?_; refine ret1 rfl rfl rfl ?_)
    | refine Le.bool ?_
    | (refine m_call (d := 25) q0 rfl rfl rfl ?_; rintro _ h' ⟨rfl, h3⟩)
    | (refine idW ?_; refine W_draw0 rfl ?_)
    | (apply d1 (hd := rfl); case hop => first | (apply D_move; rfl) | (apply D_assign; rfl) | (apply D_pc one_pc; rfl; exact .nil) | exact D_sc (D_int rfl rfl rfl) z0 | exact D_sc (D_int rfl rfl rfl) z2 | exact D_sc (D_int rfl rfl rfl) z6 | exact D_sc (D_int rfl rfl rfl) z60 | (apply D_load1; rfl) | (apply D_fld; rfl) | (apply D_pickT; rfl; rfl) | (apply D_pickF; rfl; rfl) | (apply D_lenM; rfl) | (apply D_loadW; rfl; rfl) | (apply D_idxAn; rfl; rfl; (first | omega | (simp; done))) | exact D_build rfl | exact D_eqA rfl rfl rfl rfl rfl rfl rfl)
    | (refine idDg ?_; first | refine dg0t rfl rfl rfl ?_ | refine dgr rfl rfl ?_ | refine dgs rfl rfl (fun _ => ?_) (fun _ => ?_))
    | refine WD_nil (by first | decide +kernel | kernel_rfl | rfl) ?_
    | fail
  all_goals first | rfl | contradiction | (rw [lEq_t]; rfl) | skip
  all_goals trace_state
end Go.Proofs
