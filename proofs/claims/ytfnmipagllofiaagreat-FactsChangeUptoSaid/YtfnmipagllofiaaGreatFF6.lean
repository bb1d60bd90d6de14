/- Contracts of facts' functions: Fold. -/
import Derived.Test.YtfnmipagllofiaaGreatFF2
namespace Go.Proofs
open Go.AL Go.Sort
attribute [local irreducible] Go.AL.W Go.AL.WL Go.AL.WD Go.AL.POp Go.AL.PPOp Go.AL.POpS Go.AL.PC Go.AL.AC Go.AL.YW Go.AL.Ret Go.AL.Le Go.AL.thn Go.AL.inBlk Go.AL.scp
noncomputable def foldR (l : List Dat) : Option (List Fac) := if dP (∀ d, d ∈ l → dmayP d) = true then foldG (grpL (grP true) (dsortL 1 l)) else none
theorem foldT_cons (now : List Sp) (x : List Dat) (xs : List (List Dat)) : foldT now (x :: xs) = if (bothL x).length = 0 then foldT (tnL now x) xs else none := rfl
def oneF (g : List Dat) (sp : List Sp) : List Fac := if sp.length = 0 then [] else [⟨(g.headD dat0).e, (g.headD dat0).a, (g.headD dat0).v, sp⟩]
theorem foldG_ok {S r : List Dat} {n : Nat} {o : List Fac} {sp : List Sp} (hJ : foldG (grpL (grP true) S) = (foldG (grpL (grP true) r)).map (o ++ ·)) (hg : grpL (grP true) r = r.take n :: grpL (grP true) (r.drop n)) (hs : foldT [] (grpL (grP false) (r.take n)) = some sp) :
    foldG (grpL (grP true) S) = (foldG (grpL (grP true) (r.drop n))).map ((o ++ oneF (r.take n) sp) ++ ·) := by
  rw [hJ, hg]
  simp only [foldG, hs]
  cases foldG (grpL (grP true) (r.drop n)) with
  | none => rfl
  | some x => simp [oneF]
theorem foldG_no {S r : List Dat} {n : Nat} {o : List Fac} (hJ : foldG (grpL (grP true) S) = (foldG (grpL (grP true) r)).map (o ++ ·)) (hg : grpL (grP true) r = r.take n :: grpL (grP true) (r.drop n)) (hs : foldT [] (grpL (grP false) (r.take n)) = none) :
    foldG (grpL (grP true) S) = none := by
  rw [hJ, hg]
  simp only [foldG, hs]
  rfl
theorem dsort_mem (o : Int) (l : List Dat) (d : Dat) (h : d ∈ dsortL o l) : d ∈ l := by
  unfold dsortL at h
  split at h
  · exact (List.mem_filter.1 ((sortC_mem _ _ _).1 h)).1
  · simp at h
theorem set_last {A : List AObj} {x y : AObj} : (A ++ [x]).set A.length y = A ++ [y] := by simp
theorem set0 {A E : List AObj} {x y z w : AObj} : (A ++ [x] ++ [y] ++ [z] ++ E).set A.length w = A ++ [w] ++ [y] ++ [z] ++ E := by simp
theorem set1 {A E : List AObj} {x y z w : AObj} : (A ++ [x] ++ [y] ++ [z] ++ E).set (A.length + 1) w = A ++ [x] ++ [w] ++ [z] ++ E := by simp [List.set_append]
theorem set2 {A E : List AObj} {x y z w : AObj} : (A ++ [x] ++ [y] ++ [z] ++ E).set (A.length + 2) w = A ++ [x] ++ [y] ++ [w] ++ E := by simp [List.set_append]
theorem get1 {A E : List AObj} {x y z : AObj} : (A ++ [x] ++ [y] ++ [z] ++ E)[A.length + 1]? = some y := by simp [List.getElem?_append]
theorem get2 {A E : List AObj} {x y z : AObj} : (A ++ [x] ++ [y] ++ [z] ++ E)[A.length + 2]? = some z := by simp [List.getElem?_append]
theorem roundQ_hq {P : Program} [GlobF P] {r l N : Nat} {ps : Array Tmp} {assign body : Code} {rg rg1 : List (Nat × AV)} {K : Bool → List AObj → Prop} {e : Exit} {h h' : List AObj} {mk : Mk} (eh : h = h') (hk : mk.l = [] ∧ RoundQ r l N ps assign body rg K e ⟨rg1, h', mk⟩) : mk.l = [] ∧ RoundQ r l N ps assign body rg K e ⟨rg1, h, mk⟩ := eh ▸ hk
def rgD (l : List Dat) : Prop := ∀ d, d ∈ l → loT ≤ d.fr ∧ d.to ≤ hiT
theorem said_rng {l : List Dat} (hok : okD l) (hr : rgD l) (b : Bool) : ∀ x, inS (saidL l b) x → loT ≤ x ∧ x < hiT := fun x ⟨s, hs, h1, h2⟩ => by
  unfold saidL at hs
  obtain ⟨d, hd, rfl⟩ := List.mem_map.1 hs
  have := hr d (List.mem_filter.1 hd).1
  simp only at h1 h2
  omega
theorem tn_ok {now : List Sp} {l : List Dat} (hn : SetP now) (rn : rngS now) (hok : okD l) (hr : rgD l) : SetP (tnL now l) ∧ rngS (tnL now l) ∧ ∀ x, inS (tnL now l) x ↔ ((inS now x ∨ inS (saidL l true) x) ∧ ¬ inS (saidL l false) x) := by
  obtain ⟨a1, a2⟩ := canS_ok (saidL_ne hok true)
  obtain ⟨b1, b2⟩ := canS_ok (saidL_ne hok false)
  obtain ⟨c1, c2⟩ := or_ok hn a1
  have rc : ∀ x, inS (canS (now ++ canS (saidL l true))) x → loT ≤ x ∧ x < hiT := fun x hx => by
    rcases (c2 x).1 hx with h | h
    · exact rng_in rn h
    · exact said_rng hok hr true x ((a2 x).1 h)
  obtain ⟨d1, d2⟩ := min_ok c1 b1 rc (rng_of b1 fun x hx => said_rng hok hr false x ((b2 x).1 hx))
  exact ⟨d1, rng_of d1 fun x hx => rc x ((d2 x).1 hx).1, fun x => by rw [show inS (tnL now l) x ↔ _ from d2 x, c2, a2, b2]⟩
abbrev fce (d : Dat) (c : AV) : List AV := [.sc (.int .i64 d.e), .sc (.int .i64 d.a), .sc (.int .i64 d.v.kind), .sc (.int .i64 d.v.n), str d.v.s, c]
abbrev HF (e : Int) (o : List Fac) (r : List Dat) (X1 X2 : AObj) : List AObj := [.cells [.sc (.slice none 0 0)], .cells [.sc (.int .i64 e)], .cells [.sl (some 3) 6 (o.map fC)], .tail o.length 6 42, .cells [sl9 r], X1, X2]
theorem HF_snoc (e : Int) (o : List Fac) (f : Fac) (r : List Dat) (X1 X2 : AObj) : HF e (o ++ [f]) r X1 X2 = [.cells [.sc (.slice none 0 0)], .cells [.sc (.int .i64 e)], .cells [.sl (some 3) 6 (o.map fC ++ [fC f])], .tail ((o.map fC).length + 1) 6 42, .cells [sl9 r], X1, X2] := by simp [HF]
set_option maxHeartbeats 64000000 in
theorem fold_pc [GlobF Tryz.prog] (l : List Dat) (hl : l.length < 1759218604500) (hsl : ∀ d, d ∈ l → d.v.s.length < 9223372036854775808) (hrg : rgD l) : PC Tryz.prog 23 [sl9 l] (.tu [sl6 ((foldR l).getD []), .sc (.int .i64 (if (foldR l).isSome then 0 else 60))]) := by
  have hS := dsort_pc 1 l hl
  have hSl := dsortL_len 1 l
  have hSm := dsort_mem 1 l
  refine PC.of_body Tryz.func23 Tryz.ntmps23 rfl rfl rfl ?_
  repeat' first
    | (apply p1 (hd := rfl); case hop => first | (apply D_move; rfl) | (apply D_lenM; rfl))
    | refine W_seq ?_
    | refine W_region ?_
    | refine WL_nil ?_
    | refine tn ?_
    | refine W_block ?_
    | (refine idA ?_; refine m_alloc rfl ?_)
  refine W_loopL (X := Nat) (fun i => [(0, sl9 l), (2, .bp 0 0), (3, .bp 1 0), (12, sl9 l), (13, .sc (.int .i64 (l.length : Int))), (14, .sc (.int .i64 (i : Int)))]) (fun _ => [.cells [.sc (.slice none 0 0)], .cells [.sc (.int .i64 0)]])
    (fun i => i ≤ l.length ∧ ∀ (j : Nat) (h : j < l.length), j < i → dmayP l[j]) (fun i => l.length - i) 0 ⟨Nat.zero_le _, fun j h hj => absurd hj (Nat.not_lt_zero j)⟩ ⟨rfl, rfl, rfl, rfl, rfl, rfl, trivial⟩ rfl ?_
  rintro i ⟨hi, hz⟩
  by_cases hil : i < l.length
  · have hc := dcheck_pc (l[i]'hil) (hsl _ (List.getElem_mem _))
    by_cases hm : dmayP (l[i]'hil)
    · rw [← dP_T hm, if_pos rfl] at hc
      repeat' first
        | (apply p1 (hd := rfl); case hop => first | (apply D_move; rfl) | (apply D_pc hc; rfl; exact .same rfl .nil) | (apply D_int; rfl; rfl; rfl) | (apply D_loadW; rfl; rfl) | (apply D_idxAn; rfl; rfl; (first | omega | (simp; done))))
        | refine W_seq ?_
        | refine W_region ?_
        | (refine idC ?_; refine cs rfl (fun _ => ?_) (fun _ => ?_))
        | refine WL_nil ?_
        | refine tn ?_
        | refine tr ?_
        | refine br ?_
        | refine bn ?_
        | refine te ?_
        | (refine idB ?_; refine bh rfl ?_)
        | refine W_skip ?_
        | refine W_block ?_
        | refine W_exit ?_
        | refine W_ret ?_
        | (refine idR ?_; refine rL2 rfl (by first | exact trivial | exact ⟨rfl, trivial⟩) (by first | exact ResO.tmp rfl | exact ResO.cellBA rfl rfl rfl | exact ResO.cellB1 rfl rfl rfl | exact ResO.cellEA rfl rfl | exact ResO.cellE1 rfl) (by first | exact ResO.tmp rfl | exact ResO.cellBA rfl rfl rfl | exact ResO.cellB1 rfl rfl rfl | exact ResO.cellEA rfl rfl | exact ResO.cellE1 rfl) ?_ ?_)
        | (refine idA ?_; first | refine m_var rfl rfl rfl rfl rfl rfl rfl ?_ | refine m_alloc rfl ?_)
        | (refine idS ?_; refine pS (S_store rfl rfl rfl rfl rfl rfl rfl) ?_)
        | refine Le.int ?_
      all_goals first
        | contradiction
        | (exfalso; omega)
        | (refine ⟨rfl, i + 1, ⟨by omega, fun j h hj => ?_⟩, by omega, ⟨rfl, rfl, rfl, rfl, rfl, ieq (wsucc i (by omega)), trivial⟩, rfl⟩
           by_cases e : j = i
           · subst e; exact hm
           · exact hz j h (by omega))
        | skip
      all_goals trace_state
    · rw [← dP_F hm, if_neg (by decide)] at hc
      have hR : foldR l = none := by
        unfold foldR
        rw [← dP_F (fun h => hm (h _ (List.getElem_mem _))), if_neg (by decide)]
      rw [hR]
      repeat' first
        | (apply p1 (hd := rfl); case hop => first | (apply D_move; rfl) | (apply D_pc hc; rfl; exact .same rfl .nil) | (apply D_int; rfl; rfl; rfl) | (apply D_loadW; rfl; rfl) | (apply D_idxAn; rfl; rfl; (first | omega | (simp; done))))
        | refine W_seq ?_
        | refine W_region ?_
        | (refine idC ?_; refine cs rfl (fun _ => ?_) (fun _ => ?_))
        | refine WL_nil ?_
        | refine tn ?_
        | refine tr ?_
        | refine br ?_
        | refine bn ?_
        | refine te ?_
        | (refine idB ?_; refine bh rfl ?_)
        | refine W_skip ?_
        | refine W_block ?_
        | refine W_exit ?_
        | refine W_ret ?_
        | (refine idR ?_; refine rL2 rfl (by first | exact trivial | exact ⟨rfl, trivial⟩) (by first | exact ResO.tmp rfl | exact ResO.cellBA rfl rfl rfl | exact ResO.cellB1 rfl rfl rfl | exact ResO.cellEA rfl rfl | exact ResO.cellE1 rfl) (by first | exact ResO.tmp rfl | exact ResO.cellBA rfl rfl rfl | exact ResO.cellB1 rfl rfl rfl | exact ResO.cellEA rfl rfl | exact ResO.cellE1 rfl) ?_ ?_)
        | (refine idA ?_; first | refine m_var rfl rfl rfl rfl rfl rfl rfl ?_ | refine m_alloc rfl ?_)
        | (refine idS ?_; refine pS (S_store rfl rfl rfl rfl rfl rfl rfl) ?_)
        | refine Le.int ?_
      all_goals first
        | contradiction
        | (exfalso; omega)
        | exact Le.nil rfl
        | rfl
        | skip
      all_goals trace_state
  · have hall : ∀ d, d ∈ l → dmayP d := fun d hd => by
      obtain ⟨j, hj, rfl⟩ := List.getElem_of_mem hd
      exact hz j hj (by omega)
    have hR : foldR l = foldG (grpL (grP true) (dsortL 1 l)) := by unfold foldR; rw [← dP_T hall, if_pos rfl]
    rw [hR]
    have hok : ∀ d, d ∈ dsortL 1 l → d.fr < d.to := fun d hd => (hall d (hSm d hd)).2.2.2.2.2.2.2
    have hrS : ∀ d, d ∈ dsortL 1 l → loT ≤ d.fr ∧ d.to ≤ hiT := fun d hd => hrg d (hSm d hd)
    generalize dsortL 1 l = S at *
    repeat' first
      | (refine WL_adoptC 2 0 6 42 rfl rfl ?_)
      | (apply p1 (hd := rfl); case hop => first | (apply D_move; rfl) | (apply D_pc hS; rfl; exact .same rfl (.same rfl .nil)) | (apply D_int; rfl; rfl; rfl) | (apply D_loadW; rfl; rfl) | (apply D_idxAn; rfl; rfl; (first | omega | (simp; done))))
      | refine W_seq ?_
      | refine W_region ?_
      | (refine idC ?_; refine cs rfl (fun _ => ?_) (fun _ => ?_))
      | refine WL_nil ?_
      | refine tn ?_
      | refine te ?_
      | (refine idB ?_; refine bh rfl ?_)
      | refine W_skip ?_
      | refine W_block ?_
      | refine W_exit ?_
      | (refine idA ?_; first | refine m_var rfl rfl rfl rfl rfl rfl rfl ?_ | refine m_alloc rfl ?_)
      | (refine m_call (d := 24) (groups_ac S true _) rfl rfl rfl ?_; rintro _ _ ⟨rfl, rfl⟩)
    · exfalso; omega
    refine W_weak (s' := ⟨[(2, .bp 0 0), (3, .bp 1 0), (6, .bp 2 0), (24, .fn (.func 82) [] [.bp 4 0, .ep [.sc (.bool true)]])], [.cells [.sc (.slice none 0 0)], .cells [.sc (.int .i64 0)], .cells [.sl (some 3) 6 []], .tail 0 6 42, .cells [sl9 S]], ⟨[], 0⟩⟩) ⟨⟨rfl, rfl, rfl, rfl, trivial⟩, rfl, rfl⟩ ?_
    refine W_rangeX (.inl rfl) fun l1 X hX => ?_
    refine AC.mono (groups1_ac true l1 4 (fun r h => ∃ o ex, h = HF 0 o r (.raw (.deferred (some []))) (X .ready none) ++ ex ∧ foldG (grpL (grP true) S) = (foldG (grpL (grP true) r)).map (o ++ ·) ∧ o.length + r.length ≤ S.length ∧ ∃ k, r = S.drop k)
      (fun h => foldG (grpL (grP true) S) = none ∧ ∃ o r ex, h = HF 60 o r (.raw (.deferred (some []))) (X .done (some .ret)) ++ ex) (r0 := S) (by omega) ⟨[], [], rfl, ?_, by simp, 0, rfl⟩ ?_ ?_) ?_
    · cases foldG (grpL (grP true) S) <;> rfl
    · rintro r h ⟨o, ex, rfl, _⟩; rfl
    · rintro r h n ⟨o, ex, rfl, hJ, hlen, k, hk⟩ hn0 hn1 hg
      refine YW.round (r := 6) (ps := [25]) ((show _ = some (X .ready none) from rfl).trans (congrArg some (hX .ready none))) rfl rfl ?_
      repeat' first
        | (apply p1 (hd := rfl); case hop => (apply D_assign; rfl))
        | refine W_region ?_
        | refine WL_nil ?_
      refine ⟨rfl, (show _ = some (X .ready none) from rfl).trans (congrArg some (hX .ready none)), ?_⟩
      refine W_hq (h' := HF 0 o r (.raw (.deferred (some []))) (X .busy none) ++ ex) (by rw [hX .busy none]; rfl) ?_
      generalize hgd : r.take n = g at *
      obtain ⟨d0, hd0⟩ : ∃ d0, d0 = g.headD dat0 := ⟨_, rfl⟩
      have hgl : 0 < g.length := by rw [← hgd]; simp; omega
      have hg0 : g[0]'hgl = d0 := by rw [hd0]; cases g with
        | nil => simp at hgl
        | cons x t => rfl
      repeat' first
        | (refine idW ?_; refine W_dS1 (id := 10) 14 rfl rfl (by decide +kernel) ?_; simp only [List.take_succ_cons, List.take_zero, List.drop_succ_cons, List.drop_zero])
        | (refine dV (S_alloc _ get_last) (by simp [Nat.blt_eq]) rfl ?_)
        | (apply p1 (hd := rfl); case hop => (apply D_move; rfl))
        | refine W_seq ?_
        | refine W_region ?_
        | refine WL_nil ?_
        | refine tn ?_
        | refine W_block ?_
        | (refine idS ?_; refine pS (S_store rfl rfl rfl (by (repeat first | assumption | exact get_last | (refine get_last2 ?_; focus (simp; done)) | apply get_set | apply get_app | (apply get_ne; focus omega) | (apply get_ne; focus (simp only [List.length_set, List.length_append, List.length_cons, List.length_nil]; omega))); done) (by rfl) (by rfl) (by rfl)) ?_)
        | (apply d1 (hd := rfl); case hop => first | (apply D_move; rfl) | (apply D_load1; rfl) | (apply D_fld; rfl) | (apply D_loadA; rfl; rfl) | (apply D_idxAn; rfl; rfl; (first | omega | (simp; done))) | exact D_build rfl)
        | refine WD_nil (by first | decide +kernel | kernel_rfl | rfl) ?_
      refine WL_hq (h' := HF 0 o r (.raw (.deferred (some []))) (X .busy none) ++ ex ++ [.cells (fce (g[0]'hgl) (.sc (.slice none 0 0)))]) (by rw [set_last, set_last]; rfl) ?_
      rw [hg0]
      repeat' first
        | refine WL_nil ?_
        | refine tn ?_
        | refine W_block ?_
        | (refine m_call (d := 40) (groups_ac g false _) rfl rfl rfl ?_; rintro _ _ ⟨rfl, rfl⟩)
      obtain ⟨A, hA⟩ : ∃ A, A = HF 0 o r (.raw (.deferred (some []))) (X .busy none) ++ ex := ⟨_, rfl⟩
      have hgS : ∀ d, d ∈ g → d ∈ S := fun d hd => by
        rw [← hgd] at hd
        have := List.mem_of_mem_take hd
        rw [hk] at this
        exact List.mem_of_mem_drop this
      have hgn : g.length ≤ S.length := by rw [← hgd, hk]; simp; omega
      refine W_weak (s' := ⟨[(2, .bp 0 0), (3, .bp 1 0), (6, .bp 2 0), (8, .bp (HF 0 o r (.raw (.deferred (some []))) (X .busy none) ++ ex).length 0), (40, .fn (.func 82) [] [.bp ((HF 0 o r (.raw (.deferred (some []))) (X .busy none) ++ ex).length + 1) 0, .ep [.sc (.bool false)]])], HF 0 o r (.raw (.deferred (some []))) (X .busy none) ++ ex ++ [AObj.cells (fce d0 (.sc (.slice none 0 0)))] ++ [.cells [sl9 g]], ⟨[], _⟩⟩) ⟨⟨rfl, rfl, rfl, rfl, congrArg (fun n => some (AV.fn (.func 82) [] [.bp n 0, .ep [.sc (.bool false)]])) (by simp), trivial⟩, rfl, rfl⟩ ?_
      refine W_rangeNX (r0 := 6) ((show _ = some (X .busy none) from rfl).trans (congrArg some (hX .busy none))) (.inl rfl) fun l2 Y hY => ?_
      rw [show (HF 0 o r (.raw (.deferred (some []))) (X .busy none) ++ ex ++ [AObj.cells (fce d0 (.sc (.slice none 0 0)))] ++ [AObj.cells [sl9 g]]).length = (HF 0 o r (.raw (.deferred (some []))) (X .busy none) ++ ex).length + 2 from by simp]
      refine AC.mono (groups1_ac false l2 _ (fun r2 h => ∃ now c ex2, h = HF 0 o r (.raw (.deferred (some []))) (X .busy none) ++ ex ++ [.cells (fce d0 c)] ++ [.cells [sl9 r2]] ++ [Y .ready none] ++ ex2 ∧ ((c = .sc (.slice none 0 0) ∧ now = []) ∨ c = sl2 now) ∧ SetP now ∧ rngS now ∧ foldT [] (grpL (grP false) g) = foldT now (grpL (grP false) r2) ∧ now.length + 2 * r2.length ≤ 2 * g.length ∧ ∃ k, r2 = g.drop k)
        (fun h => foldT [] (grpL (grP false) g) = none ∧ ∃ c r2 ex2, h = HF 60 o r (.raw (.deferred (some []))) (X .busy none) ++ ex ++ [.cells (fce d0 c)] ++ [.cells [sl9 r2]] ++ [Y .done (some .ret)] ++ ex2) (r0 := g) (by omega) ⟨[], .sc (.slice none 0 0), [], by simp, .inl ⟨rfl, rfl⟩, .nil, fun s hs => by simp at hs, rfl, by simp, 0, rfl⟩ ?_ ?_) ?_
      · rintro r2 h ⟨now, c, ex2, rfl, _⟩; exact get1
      · rintro r2 h n2 ⟨now, c, ex2, rfl, hc, hset, hrn, hT, hl2, k2, hk2⟩ hn2 hn3 hg2
        have hx0 : ∀ d, d ∈ r2.take n2 → d ∈ g := fun d hd => by
          have := List.mem_of_mem_take hd
          rw [hk2] at this
          exact List.mem_of_mem_drop this
        have hxo : okD (r2.take n2) := fun d hd => hok d (hgS d (hx0 d hd))
        have hxr : rgD (r2.take n2) := fun d hd => hrS d (hgS d (hx0 d hd))
        have hxl : (r2.take n2).length = n2 := by simp; omega
        have htl := tn_len now (r2.take n2)
        have ht := turned_pc now (r2.take n2) hset hxo (by omega)
        obtain ⟨hts, htr, _⟩ := tn_ok hset hrn hxo hxr
        have hdl : (r2.drop n2).length = r2.length - n2 := by simp
        have hkk : ∃ k, r2.drop n2 = g.drop k := ⟨k2 + n2, by rw [hk2, List.drop_drop]⟩
        rw [hg2, foldT_cons] at hT
        generalize hxd : r2.take n2 = x at *
        refine YW.round (r := (HF 0 o r (.raw (.deferred (some []))) (X .busy none) ++ ex).length + 2) (ps := [41]) (get2.trans (congrArg some (hY .ready none))) rfl rfl ?_
        repeat' first
          | (apply p1 (hd := rfl); case hop => (apply D_assign; rfl))
          | refine W_region ?_
          | refine WL_nil ?_
        refine ⟨rfl, get2.trans (congrArg some (hY .ready none)), ?_⟩
        refine W_hq (h' := HF 0 o r (.raw (.deferred (some []))) (X .busy none) ++ ex ++ [.cells (fce d0 c)] ++ [.cells [sl9 r2]] ++ [Y .busy none] ++ ex2) (by rw [hY .busy none, set2]) ?_
        have hnt : Value.bool (bNot true) = .bool false := by simp [bNot]
        have hnf : Value.bool (bNot false) = .bool true := by simp [bNot]
        by_cases hb0 : (bothL x).length = 0
        · rw [if_pos hb0] at hT
          rw [← dP_T hb0] at ht
          rcases hc with ⟨rfl, rfl⟩ | rfl
          all_goals
            repeat' first
              | (apply p1 (hd := rfl); case hop => first | (apply D_move; rfl) | (apply D_assign; rfl) | exact D_sc (D_not rfl) hnt | (apply D_pc ht; rfl; first | exact .same rfl (.same rfl .nil) | exact .niln rfl (.same rfl .nil)) | (apply D_ext; rfl; rfl) | exact D_fldB rfl)
              | refine W_seq ?_
              | refine W_region ?_
              | (refine idC ?_; refine c0 rfl ?_)
              | refine WL_nil ?_
              | refine tn ?_
              | refine bn ?_
              | refine W_skip ?_
              | refine W_block ?_
              | (refine idLd ?_; refine p1L (D_loadB1 rfl (by (repeat first | assumption | exact get_last | (refine get_last2 ?_; focus (simp; done)) | apply get_set | apply get_app | (apply get_ne; focus omega) | (apply get_ne; focus (simp only [List.length_set, List.length_append, List.length_cons, List.length_nil]; omega))); done) (by rfl)) rfl ?_)
              | (refine idS ?_; refine pS (S_store rfl rfl rfl (by (repeat first | assumption | exact get_last | (refine get_last2 ?_; focus (simp; done)) | apply get_set | apply get_app | (apply get_ne; focus omega) | (apply get_ne; focus (simp only [List.length_set, List.length_append, List.length_cons, List.length_nil]; omega))); done) (by rfl) (by rfl) (by rfl)) ?_)
          all_goals
            refine roundQ_hq (P := Tryz.prog) (h' := HF 0 o r (.raw (.deferred (some []))) (X .busy none) ++ ex ++ [.cells (fce d0 (sl2 (tnL _ x)))] ++ [.cells [sl9 r2]] ++ [Y .busy none] ++ ex2) (by rw [set0]; rfl) ?_
            refine ⟨rfl, ⟨_, _, get2.trans (congrArg some (hY .busy none))⟩, .inl ⟨rfl, ?_⟩⟩
            dsimp only
            rw [← hY .ready none, set2]
            refine ⟨get1, _, _, ex2, set1, .inr rfl, hts, htr, hT, ?_, hkk⟩
            omega
        · rw [if_neg hb0] at hT
          rw [← dP_F hb0] at ht
          rcases hc with ⟨rfl, rfl⟩ | rfl
          all_goals
            repeat' first
              | (apply p1 (hd := rfl); case hop => first | (apply D_move; rfl) | (apply D_assign; rfl) | exact D_sc (D_not rfl) hnf | (apply D_pc ht; rfl; first | exact .same rfl (.same rfl .nil) | exact .niln rfl (.same rfl .nil)) | (apply D_ext; rfl; rfl) | exact D_fldB rfl)
              | refine W_seq ?_
              | refine W_region ?_
              | (refine idC ?_; refine c1 rfl ?_)
              | refine WL_nil ?_
              | refine tn ?_
              | refine tr ?_
              | refine br ?_
              | refine W_block ?_
              | refine W_ret ?_
              | (refine idLd ?_; refine p1L (D_loadB1 rfl (by (repeat first | assumption | exact get_last | (refine get_last2 ?_; focus (simp; done)) | apply get_set | apply get_app | (apply get_ne; focus omega) | (apply get_ne; focus (simp only [List.length_set, List.length_append, List.length_cons, List.length_nil]; omega))); done) (by rfl)) rfl ?_)
              | (refine idS ?_; refine pS (S_store rfl rfl rfl rfl rfl rfl rfl) ?_)
          all_goals
            refine roundQ_hq (P := Tryz.prog) (h' := HF 60 o r (.raw (.deferred (some []))) (X .busy none) ++ ex ++ [.cells (fce d0 _)] ++ [.cells [sl9 r2]] ++ [Y .busy none] ++ ex2) rfl ?_
            refine ⟨rfl, ⟨_, _, get2.trans (congrArg some (hY .busy none))⟩, .inr ⟨rfl, hT, ?_⟩⟩
            dsimp only
            rw [← hY .done (some .ret)]
            exact ⟨_, r2, ex2, set2⟩
      · rintro v h' (⟨now, c, ex2, rfl, hc, hset, hrn, hT, hl2, _⟩ | ⟨hT, c, r2, ex2, rfl⟩)
        · refine ⟨.ready, none, get2.trans (congrArg some (hY .ready none)), by decide, ?_⟩
          dsimp only
          rw [grpL_nil] at hT
          have hT' : foldT [] (grpL (grP false) g) = some now := hT
          rw [set2]
          have hok1 := foldG_ok hJ (by rw [hgd]; exact hg) (by rw [hgd]; exact hT')
          rw [hgd] at hok1
          have hdl : (r.drop n).length = r.length - n := by simp
          have hkk : ∃ k, r.drop n = S.drop k := ⟨k + n, by rw [hk, List.drop_drop]⟩
          have hno : now.length = 0 → foldG (grpL (grP true) S) = (foldG (grpL (grP true) (r.drop n))).map (o ++ ·) := fun e => by
            rw [hok1, oneF, if_pos e, List.append_nil]
          have hyes : ¬ now.length = 0 → foldG (grpL (grP true) S) = (foldG (grpL (grP true) (r.drop n))).map ((o ++ [⟨d0.e, d0.a, d0.v, now⟩]) ++ ·) := fun e => by
            rw [hok1, oneF, if_neg e, hd0]
          rcases hc with ⟨rfl, rfl⟩ | rfl
          · repeat' first
              | (apply p1 (hd := rfl); case hop => first | (apply D_int; rfl; rfl; rfl) | (apply D_len_nil; rfl) | (apply D_lit; rfl; rfl; rfl; rfl) | exact D_fldB rfl)
              | refine W_seq ?_
              | refine W_region ?_
              | (refine idC ?_; refine cs rfl (fun _ => ?_) (fun _ => ?_))
              | refine WL_nil ?_
              | refine tn ?_
              | refine bn ?_
              | refine W_skip ?_
              | (refine idLd ?_; first | refine p1L (D_loadB1 rfl rfl rfl) rfl ?_ | refine p1L (D_loadB1 rfl (by (repeat first | assumption | exact get_last | (refine get_last2 ?_; focus (simp; done)) | apply get_set | apply get_app | (apply get_ne; focus omega) | (apply get_ne; focus (simp only [List.length_set, List.length_append, List.length_cons, List.length_nil]; omega))); done) (by rfl)) rfl ?_ | refine p1L (D_loadBA rfl (by (repeat first | assumption | exact get_last | (refine get_last2 ?_; focus (simp; done)) | apply get_set | apply get_app | (apply get_ne; focus omega) | (apply get_ne; focus (simp only [List.length_set, List.length_append, List.length_cons, List.length_nil]; omega))); done) (by rfl)) rfl ?_)
              | (refine idS ?_; refine pS (S_store rfl rfl rfl rfl rfl rfl rfl) ?_)
              | (refine idAp ?_; refine m_appB rfl rfl rfl (by first | rfl | assumption | exact get_set (by assumption) | exact get_set (get_set (by assumption)) | exact get_set (get_set (get_set (by assumption))) | ((repeat first | assumption | exact get_last | (refine get_last2 ?_; focus (simp; done)) | apply get_set | apply get_app | (apply get_ne; focus omega)); done)) ?_ rfl rfl ?_ ?_ rfl ?_; (first | rfl | focus (simp only [List.length_map, List.length_append, List.length_cons, List.length_nil]; omega) | focus (simp; done) | focus (simp; omega)); (first | focus (simp only [List.length_map, List.length_append, List.length_cons, List.length_nil]; omega) | focus (simp; done) | focus (simp; omega)); (first | focus (simp only [List.length_map, List.length_append, List.length_cons, List.length_nil]; omega) | focus (simp; done) | focus (simp; omega)))
            all_goals first
              | (exfalso; omega)
              | skip
            refine ⟨rfl, ⟨_, _, (show _ = some (X .busy none) from rfl).trans (congrArg some (hX .busy none))⟩, .inl ⟨rfl, ?_⟩⟩
            dsimp only
            rw [← hX .ready none]
            exact ⟨rfl, o, ex ++ [.cells (fce d0 (.sc (.slice none 0 0)))] ++ [.cells [sl9 []]] ++ [.dead] ++ ex2, rfl, hno rfl, by omega, hkk⟩
          · repeat' first
              | (apply p1 (hd := rfl); case hop => first | (apply D_int; rfl; rfl; rfl) | (apply D_lenM; rfl) | (apply D_lit; rfl; rfl; rfl; rfl) | exact D_fldB rfl)
              | refine W_seq ?_
              | refine W_region ?_
              | (refine idC ?_; refine cs rfl (fun _ => ?_) (fun _ => ?_))
              | refine WL_nil ?_
              | refine tn ?_
              | refine bn ?_
              | refine W_skip ?_
              | (refine idLd ?_; first | refine p1L (D_loadB1 rfl rfl rfl) rfl ?_ | refine p1L (D_loadB1 rfl (by (repeat first | assumption | exact get_last | (refine get_last2 ?_; focus (simp; done)) | apply get_set | apply get_app | (apply get_ne; focus omega) | (apply get_ne; focus (simp only [List.length_set, List.length_append, List.length_cons, List.length_nil]; omega))); done) (by rfl)) rfl ?_ | refine p1L (D_loadBA rfl (by (repeat first | assumption | exact get_last | (refine get_last2 ?_; focus (simp; done)) | apply get_set | apply get_app | (apply get_ne; focus omega) | (apply get_ne; focus (simp only [List.length_set, List.length_append, List.length_cons, List.length_nil]; omega))); done) (by rfl)) rfl ?_)
              | (refine idS ?_; refine pS (S_store rfl rfl rfl rfl rfl rfl rfl) ?_)
              | (refine idAp ?_; refine m_appB rfl rfl rfl (by first | rfl | assumption | exact get_set (by assumption) | exact get_set (get_set (by assumption)) | exact get_set (get_set (get_set (by assumption))) | ((repeat first | assumption | exact get_last | (refine get_last2 ?_; focus (simp; done)) | apply get_set | apply get_app | (apply get_ne; focus omega)); done)) ?_ rfl rfl ?_ ?_ rfl ?_; (first | rfl | focus (simp only [List.length_map, List.length_append, List.length_cons, List.length_nil]; omega) | focus (simp; done) | focus (simp; omega)); (first | focus (simp only [List.length_map, List.length_append, List.length_cons, List.length_nil]; omega) | focus (simp; done) | focus (simp; omega)); (first | focus (simp only [List.length_map, List.length_append, List.length_cons, List.length_nil]; omega) | focus (simp; done) | focus (simp; omega)))
            all_goals first
              | (have e : now.length = 0 := by omega
                 refine ⟨rfl, ⟨_, _, (show _ = some (X .busy none) from rfl).trans (congrArg some (hX .busy none))⟩, .inl ⟨rfl, ?_⟩⟩
                 dsimp only
                 rw [← hX .ready none]
                 exact ⟨rfl, o, ex ++ [.cells (fce d0 (sl2 now))] ++ [.cells [sl9 []]] ++ [.dead] ++ ex2, rfl, hno e, by omega, hkk⟩)
              | (have e : ¬ now.length = 0 := by omega
                 refine roundQ_hq (P := Tryz.prog) (h' := HF 0 (o ++ [⟨d0.e, d0.a, d0.v, now⟩]) r (.raw (.deferred (some []))) (X .busy none) ++ (ex ++ [.cells (fce d0 (sl2 now))] ++ [.cells [sl9 []]] ++ [.dead] ++ ex2)) (by rw [HF_snoc]; rfl) ?_
                 refine ⟨rfl, ⟨_, _, (show _ = some (X .busy none) from rfl).trans (congrArg some (hX .busy none))⟩, .inl ⟨rfl, ?_⟩⟩
                 dsimp only
                 rw [← hX .ready none]
                 refine ⟨rfl, o ++ [⟨d0.e, d0.a, d0.v, now⟩], ex ++ [.cells (fce d0 (sl2 now))] ++ [.cells [sl9 []]] ++ [.dead] ++ ex2, rfl, hyes e, ?_, hkk⟩
                 rw [List.length_append, List.length_singleton]; omega)
              | skip
            all_goals trace_state
        · refine ⟨.done, some .ret, get2.trans (congrArg some (hY .done (some .ret))), by decide, ?_⟩
          dsimp only
          rw [show (HF 0 o r (.raw (.deferred (some []))) (X .busy none) ++ ex).length = (HF 60 o r (.raw (.deferred (some []))) (X .busy none) ++ ex).length from rfl, set2]
          have hno1 := foldG_no hJ (by rw [hgd]; exact hg) (by rw [hgd]; exact hT)
          repeat' first
            | refine tr ?_
            | refine br ?_
          refine ⟨rfl, ⟨_, _, (show _ = some (X .busy none) from rfl).trans (congrArg some (hX .busy none))⟩, .inr ⟨rfl, hno1, ?_⟩⟩
          dsimp only
          rw [← hX .done (some .ret)]
          exact ⟨o, r, ex ++ [.cells (fce d0 c)] ++ [.cells [sl9 r2]] ++ [.dead] ++ ex2, rfl⟩
    · rintro v h' (⟨o, ex, rfl, hJ, _⟩ | ⟨hJ, o, r, ex, rfl⟩)
      · refine ⟨.ready, none, (show _ = some (X .ready none) from rfl).trans (congrArg some (hX .ready none)), by decide, ?_⟩
        rw [hJ, grpL_nil]
        have e : (foldG []).map (o ++ ·) = some o := by simp [foldG]
        rw [e]
        repeat' first
          | refine W_seq ?_
          | refine W_region ?_
          | refine WL_nil ?_
          | refine tn ?_
          | refine bn ?_
          | refine W_ret ?_
          | (refine idR ?_; refine rL2 rfl (by first | exact trivial | exact ⟨rfl, trivial⟩) (by first | exact ResO.tmp rfl | exact ResO.cellBA rfl rfl rfl | exact ResO.cellB1 rfl rfl rfl | exact ResO.cellEA rfl rfl | exact ResO.cellE1 rfl) (by first | exact ResO.tmp rfl | exact ResO.cellBA rfl rfl rfl | exact ResO.cellB1 rfl rfl rfl | exact ResO.cellEA rfl rfl | exact ResO.cellE1 rfl) ?_ ?_)
          | (refine idLd ?_; refine p1L (D_loadB1 rfl rfl rfl) rfl ?_)
          | (refine idS ?_; refine pS (S_store rfl rfl rfl rfl rfl rfl rfl) ?_)
          | refine Le.int ?_
        all_goals first
          | exact Le.tokq rfl
          | rfl
      · refine ⟨.done, some .ret, (show _ = some (X .done (some .ret)) from rfl).trans (congrArg some (hX .done (some .ret))), by decide, ?_⟩
        rw [hJ]
        repeat' first
          | refine tr ?_
          | refine br ?_
          | (refine idR ?_; refine rL2 rfl (by first | exact trivial | exact ⟨rfl, trivial⟩) (by first | exact ResO.tmp rfl | exact ResO.cellBA rfl rfl rfl | exact ResO.cellB1 rfl rfl rfl | exact ResO.cellEA rfl rfl | exact ResO.cellE1 rfl) (by first | exact ResO.tmp rfl | exact ResO.cellBA rfl rfl rfl | exact ResO.cellB1 rfl rfl rfl | exact ResO.cellEA rfl rfl | exact ResO.cellE1 rfl) ?_ ?_)
          | refine Le.int ?_
        all_goals first
          | exact Le.nil rfl
          | rfl
end Go.Proofs

namespace Go.Proofs
open Go.AL Go.Sort
attribute [local irreducible] Go.AL.W Go.AL.WL Go.AL.WD Go.AL.POp Go.AL.PPOp Go.AL.POpS Go.AL.PC Go.AL.AC Go.AL.YW Go.AL.Ret Go.AL.Le Go.AL.thn Go.AL.inBlk Go.AL.scp
theorem Fac.ext' {a b : Fac} (h1 : a.e = b.e) (h2 : a.a = b.a) (h3 : a.v = b.v) (h4 : a.sp = b.sp) : a = b := by
  obtain ⟨e, c, v, s⟩ := a
  obtain ⟨e', c', v', s'⟩ := b
  simp at h1 h2 h3 h4
  subst h1; subst h2; subst h3; subst h4; rfl
set_option maxHeartbeats 8000000 in
theorem fsame_pc [GlobF Tryz.prog] (a b : List Fac) (ha : a.length < 4611686018427387904) (hsp : ∀ f, f ∈ a → f.sp.length < 4611686018427387904) : PC Tryz.prog 16 [sl6 a, sl6 b] (.sc (.bool (dP (a = b)))) := by
  refine PC.of_body Tryz.func16 Tryz.ntmps16 rfl rfl rfl ?_
  repeat' first
    | (apply p1 (hd := rfl); case hop => first | (apply D_move; rfl) | (apply D_assign; rfl) | (apply D_int; rfl; rfl; rfl) | (apply D_lenM; rfl))
    | refine W_seq ?_
    | refine W_region ?_
    | (refine idC ?_; refine cs rfl (fun _ => ?_) (fun _ => ?_))
    | refine WL_nil ?_
    | refine tn ?_
    | refine tr ?_
    | refine W_skip ?_
    | refine W_block ?_
    | refine W_ret ?_
    | (refine idR ?_; refine ret1 rfl rfl rfl ?_)
    | refine Le.bool ?_
  · rename_i h1
    exact dP_F fun e => h1 (by rw [e])
  rename_i h1
  have hl : a.length = b.length := by omega
  refine W_loopL (X := Nat) (fun i => [(0, sl6 a), (1, sl6 b), (5, .sc (.int .i64 (i : Int)))]) (fun _ => [])
    (fun i => i ≤ a.length ∧ ∀ (j : Nat) (h : j < a.length) (h' : j < b.length), j < i → a[j] = b[j]) (fun i => a.length - i) 0 ⟨Nat.zero_le _, fun j h h' hj => absurd hj (Nat.not_lt_zero j)⟩ ⟨rfl, rfl, rfl, trivial⟩ rfl ?_
  rintro i ⟨hi, hz⟩
  by_cases hil : i < a.length
  · have hib : i < b.length := by omega
    have hs := ssame_pc (a[i]'hil).sp (b[i]'hib).sp (hsp _ (List.getElem_mem _))
    have hne : ∀ h : ¬ a[i]'hil = b[i]'hib, false = dP (a = b) := fun h => dP_F fun e => h (by subst e; rfl)
    repeat' first
      | (apply p1 (hd := rfl); case hop => first | (apply D_move; rfl) | (apply D_assign; rfl) | (apply D_int; rfl; rfl; rfl) | (apply D_lenM; rfl))
      | refine W_seq ?_
      | refine W_region ?_
      | (refine idC ?_; first | refine c1 rfl ?_ | refine cs rfl (fun _ => ?_) (fun _ => ?_))
      | refine WL_nil ?_
      | refine tn ?_
      | refine tr ?_
      | refine br ?_
      | refine bn ?_
      | refine te ?_
      | (refine idB ?_; refine bh rfl ?_)
      | refine W_skip ?_
      | refine W_block ?_
      | refine W_exit ?_
      | refine W_ret ?_
      | (refine idR ?_; refine ret1 rfl rfl rfl ?_)
      | refine Le.bool ?_
      | (refine idW ?_; refine W_draw0 rfl ?_)
      | (apply d1 (hd := rfl); case hop => first | (apply D_move; rfl) | (apply D_pc hs; rfl; exact .same rfl (.same rfl .nil)) | (apply D_load1; rfl) | (apply D_fld; rfl) | (apply D_pickT; rfl; rfl) | (apply D_pickF; rfl; rfl) | (apply D_int; rfl; rfl; rfl) | (apply D_not; rfl) | (apply D_loadA; rfl; rfl) | (apply D_idxAn; rfl; rfl; (first | omega | (simp; done))) | exact D_neA rfl rfl rfl rfl rfl rfl rfl)
      | (refine idDg ?_; first | refine dg0f rfl rfl rfl ?_ | refine dgr rfl rfl ?_ | refine dgs rfl rfl (fun _ => ?_) (fun _ => ?_))
      | refine WD_nil (by first | decide +kernel | kernel_rfl | rfl) ?_
    all_goals first
      | (exfalso; omega)
      | exact hne fun e => absurd (congrArg Fac.e e) (by assumption)
      | exact hne fun e => absurd (congrArg Fac.a e) (by assumption)
      | exact hne fun e => absurd (encV_eq.2 (congrArg Fac.v e)) (by assumption)
      | exact hne fun e => absurd (congrArg Fac.sp e) (by assumption)
      | (have h4 : (a[i]'hil).sp = (b[i]'hib).sp := by assumption
         have h3 : (a[i]'hil).v = (b[i]'hib).v := encV_eq.1 (by assumption)
         have he : a[i]'hil = b[i]'hib := Fac.ext' (by assumption) (by assumption) h3 h4
         refine ⟨rfl, i + 1, ⟨by omega, fun j h h' hj => ?_⟩, by omega, ⟨rfl, rfl, ieq (wsucc i (by omega)), trivial⟩, rfl⟩
         by_cases e : j = i
         · subst e; exact he
         · exact hz j h h' (by omega))
      | skip
    all_goals trace_state
  · repeat' first
      | (apply p1 (hd := rfl); case hop => first | (apply D_move; rfl) | (apply D_assign; rfl) | (apply D_int; rfl; rfl; rfl) | (apply D_lenM; rfl))
      | refine W_seq ?_
      | refine W_region ?_
      | (refine idC ?_; first | refine c1 rfl ?_ | refine cs rfl (fun _ => ?_) (fun _ => ?_))
      | refine WL_nil ?_
      | refine tn ?_
      | refine tr ?_
      | refine br ?_
      | refine te ?_
      | (refine idB ?_; refine bh rfl ?_)
      | refine W_skip ?_
      | refine W_block ?_
      | refine W_exit ?_
      | refine W_ret ?_
      | (refine idR ?_; refine ret1 rfl rfl rfl ?_)
      | refine Le.bool ?_
      | (refine idW ?_; refine W_draw0 rfl ?_)
      | (apply d1 (hd := rfl); case hop => first | (apply D_move; rfl) | (apply D_load1; rfl) | (apply D_fld; rfl) | (apply D_pickT; rfl; rfl) | (apply D_pickF; rfl; rfl) | (apply D_int; rfl; rfl; rfl) | (apply D_loadA; rfl; rfl) | (apply D_idxAn; rfl; rfl; (first | omega | (simp; done))) | exact D_neA rfl rfl rfl rfl rfl rfl rfl)
      | (refine idDg ?_; first | refine dg0f rfl rfl rfl ?_ | refine dgr rfl rfl ?_ | refine dgs rfl rfl (fun _ => ?_) (fun _ => ?_))
      | refine WD_nil (by first | decide +kernel | kernel_rfl | rfl) ?_
    all_goals first
      | (exfalso; omega)
      | exact dP_T (List.ext_getElem hl fun j h h' => hz j h h' (by omega))
      | skip
    all_goals trace_state
abbrev oneV : Val := ⟨1, 1, []⟩
abbrev fewL : List Dat := [⟨5, 10, oneV, 1, true, 0, 10⟩, ⟨5, 10, oneV, 2, false, 4, 6⟩]
abbrev fewF : List Fac := [⟨5, 10, oneV, [⟨0, 4⟩, ⟨6, 10⟩]⟩]
set_option maxHeartbeats 4000000 in
theorem one_pc [GlobF Tryz.prog] : PC Tryz.prog 31 [] (.ag (vC oneV)) := by
  refine PC.of_body Tryz.func31 Tryz.ntmps31 rfl rfl rfl ?_
  repeat' first
    | (apply p1 (hd := rfl); case hop => exact D_build rfl)
    | refine W_seq ?_
    | refine W_region ?_
    | refine WL_nil ?_
    | refine tn ?_
    | refine W_ret ?_
    | (refine idR ?_; refine rL1 rfl (by first | exact trivial | exact ⟨rfl, trivial⟩) (by first | exact ResO.tmp rfl | exact ResO.cellBA rfl rfl rfl | exact ResO.cellB1 rfl rfl rfl | exact ResO.cellEA rfl rfl | exact ResO.cellE1 rfl) ?_)
    | (refine idA ?_; refine m_alloc rfl ?_)
    | (refine idS ?_; refine pS (S_store rfl rfl rfl rfl rfl rfl rfl) ?_)
  all_goals exact Le.of_eq rfl
set_option maxHeartbeats 4000000 in
theorem few_pc [GlobF Tryz.prog] : PC Tryz.prog 30 [] (sl9 fewL) := by
  refine PC.of_body Tryz.func30 Tryz.ntmps30 rfl rfl rfl ?_
  repeat' first
    | (apply p1 (hd := rfl); case hop => first | (apply D_assign; rfl) | (apply D_pc one_pc; rfl; exact .nil) | (apply D_lit; rfl; rfl; rfl; rfl) | exact D_build rfl)
    | refine W_seq ?_
    | refine W_region ?_
    | refine WL_nil ?_
    | refine tn ?_
    | refine W_ret ?_
    | (refine idR ?_; refine ret1 rfl rfl rfl ?_)
  all_goals exact Le.of_eq rfl
theorem meet_nil_of {a b : List Sp} (ha : SetP a) (hb : SetP b) (h : ∀ x, ¬ (inS a x ∧ inS b x)) : (meetL a b).length = 0 := by
  obtain ⟨k1, k2⟩ := and_ok ha hb
  rw [set_empty k1 fun x hx => h x ((k2 x).1 hx)]; rfl
theorem inS_one' (f t x : Int) : inS [⟨f, t⟩] x ↔ f ≤ x ∧ x < t := inS_one ⟨f, t⟩ x
theorem few_sort : dsortL 1 fewL = fewL := by
  have hf : fewL.filter (hasB 1) = fewL := List.filter_eq_self.2 fun d _ => by unfold hasB; rw [dP_t]; exact .inl (by decide)
  unfold dsortL
  rw [if_pos (by decide), hf]
  refine (sortC_eq (wc_cmpD 1) (cmpD_z 1) ?_ fun x => Iff.rfl).symm
  refine List.pairwise_cons.2 ⟨fun y hy => ?_, List.pairwise_singleton _ _⟩
  rw [List.mem_singleton.1 hy]
  decide
theorem few_fold : foldR fewL = some fewF := by
  have hm : ∀ d, d ∈ fewL → dmayP d := fun d hd => by
    have hv : mayB oneV = true := by unfold mayB; rw [dP_t]; unfold MayP; simp
    simp only [List.mem_cons, List.not_mem_nil, or_false] at hd
    rcases hd with rfl | rfl <;> exact ⟨by decide, by decide, by decide, by decide, hv, by decide, by decide, by decide⟩
  have ho : okD fewL := fun d hd => (hm d hd).2.2.2.2.2.2.2
  have hr : rgD fewL := fun d hd => by
    simp only [List.mem_cons, List.not_mem_nil, or_false] at hd
    rcases hd with rfl | rfl <;> decide
  unfold foldR
  rw [← dP_T hm, if_pos rfl, few_sort]
  have g1 : grpL (grP true) fewL = [fewL] := by
    rw [grp_at (n := 2) (by decide) (by decide) (fun j h h1 h2 => by
      have : j = 1 := by simp at h; omega
      subst this; exact ⟨⟨rfl, rfl, rfl⟩, .inl rfl⟩) (fun h => absurd h (by decide))]
    show [fewL] ++ grpL _ [] = _
    rw [grpL_nil]; rfl
  have g2 : grpL (grP false) fewL = [[fewL[0]], [fewL[1]]] := by
    rw [grp_at (n := 1) (by decide) (by decide) (fun j h h1 h2 => by omega) (fun h => by
      rintro ⟨_, h | h⟩
      · cases h
      · exact absurd h (show ¬ ((1 : Int) = 2) by decide))]
    show [[fewL[0]]] ++ grpL _ [fewL[1]] = _
    rw [grp_at (n := 1) (by decide) (by decide) (fun j h h1 h2 => by omega) (fun h => absurd h (by decide))]
    show [[fewL[0]]] ++ ([[fewL[1]]] ++ grpL _ []) = _
    rw [grpL_nil]; rfl
  have o1 : okD [fewL[0]] := fun d hd => ho d (by rw [List.mem_singleton.1 hd]; simp)
  have o2 : okD [fewL[1]] := fun d hd => ho d (by rw [List.mem_singleton.1 hd]; simp)
  have r1 : rgD [fewL[0]] := fun d hd => hr d (by rw [List.mem_singleton.1 hd]; simp)
  have r2 : rgD [fewL[1]] := fun d hd => hr d (by rw [List.mem_singleton.1 hd]; simp)
  have s1 : saidL [fewL[0]] true = [⟨0, 10⟩] := rfl
  have s2 : saidL [fewL[0]] false = [] := rfl
  have s3 : saidL [fewL[1]] true = [] := rfl
  have s4 : saidL [fewL[1]] false = [⟨4, 6⟩] := rfl
  have c0 : ∀ x, inS (canS []) x ↔ False := fun x => by rw [(canS_ok (l := []) (fun s hs => by simp at hs)).2]; simp [inS_nil]
  have b1 : (bothL [fewL[0]]).length = 0 := by
    unfold bothL
    rw [s2]
    exact meet_nil_of (canS_ok (saidL_ne o1 true)).1 (canS_ok (l := []) (fun s hs => by simp at hs)).1 fun x hx => (c0 x).1 hx.2
  have b2 : (bothL [fewL[1]]).length = 0 := by
    unfold bothL
    rw [s3]
    exact meet_nil_of (canS_ok (l := []) (fun s hs => by simp at hs)).1 (canS_ok (saidL_ne o2 false)).1 fun x hx => (c0 x).1 hx.1
  have hn : rngS [] := fun s hs => by simp at hs
  have t1 : tnL [] [fewL[0]] = [⟨0, 10⟩] := by
    obtain ⟨k1, k2, k3⟩ := tn_ok .nil hn o1 r1
    refine set_ext k1 (setP_one (by decide)) fun x => ?_
    rw [k3, s1, s2, inS_one']
    simp [inS_nil]
  have t2 : tnL [⟨0, 10⟩] [fewL[1]] = [⟨0, 4⟩, ⟨6, 10⟩] := by
    obtain ⟨k1, k2, k3⟩ := tn_ok (now := [⟨0, 10⟩]) (setP_one (by decide)) (fun s hs => by rw [List.mem_singleton.1 hs]; decide) o2 r2
    refine set_ext k1 (setP_cons.2 ⟨by decide, fun r hr => by rw [List.mem_singleton.1 hr]; decide, setP_one (by decide)⟩) fun x => ?_
    rw [k3, s3, s4, inS_one', inS_one', inS_cons, inS_one']
    simp only [show inS [] x = False from eq_false (inS_nil x), or_false]
    omega
  rw [g1]
  unfold foldG
  rw [g2, foldT_cons, if_pos b1, t1, foldT_cons, if_pos b2, t2]
  rfl
set_option maxHeartbeats 8000000 in
theorem falive_pc [GlobF Tryz.prog] : PC Tryz.prog 21 [] (.sc (.bool true)) := by
  have hf := fold_pc fewL (by decide) (fun d hd => by
    simp only [List.mem_cons, List.not_mem_nil, or_false] at hd
    rcases hd with rfl | rfl <;> decide) (fun d hd => by
    simp only [List.mem_cons, List.not_mem_nil, or_false] at hd
    rcases hd with rfl | rfl <;> decide)
  rw [few_fold] at hf
  have hf : PC Tryz.prog 23 [sl9 fewL] (.tu [sl6 fewF, .sc (.int .i64 0)]) := hf
  refine PC.of_body Tryz.func21 Tryz.ntmps21 rfl rfl rfl ?_
  repeat' first
    | (apply p1 (hd := rfl); case hop => first | (apply D_move; rfl) | (apply D_assign; rfl) | (apply D_pc few_pc; rfl; exact .nil) | (apply D_pc hf; rfl; exact .same rfl .nil) | (apply D_load1; rfl) | (apply D_fld; rfl) | (apply D_pickT; rfl; rfl) | (apply D_pickF; rfl; rfl) | (apply D_int; rfl; rfl; rfl) | (apply D_lenM; rfl) | (apply D_ext; rfl; rfl) | (apply D_loadW; rfl; rfl) | (apply D_idxAn; rfl; rfl; (first | omega | (simp; done))) | exact D_build rfl | exact D_eqA rfl rfl rfl rfl rfl rfl rfl)
    | refine W_seq ?_
    | refine W_region ?_
    | refine WL_nil ?_
    | (refine idG ?_; first | refine g0t rfl rfl rfl ?_ | refine gr rfl rfl ?_ | refine gs rfl rfl (fun _ => ?_) (fun _ => ?_))
    | refine tn ?_
    | refine W_ret ?_
    | (refine idR ?_; refine ret1 rfl rfl rfl ?_)
    | refine Le.bool ?_
  all_goals first | rfl | contradiction | (rw [lEq_t]; rfl) | skip
  all_goals trace_state
end Go.Proofs

namespace Go.Proofs
open Go.AL Go.Sort
attribute [local irreducible] Go.AL.W Go.AL.WL Go.AL.WD Go.AL.POp Go.AL.PPOp Go.AL.POpS Go.AL.PC Go.AL.AC Go.AL.YW Go.AL.Ret Go.AL.Le Go.AL.thn Go.AL.inBlk Go.AL.scp
def cmpF (a b : Fac) : Int := orI [cmpI a.e b.e, cmpI a.a b.a, cmpV a.v b.v]
abbrev eF (f : Fac) : AV := .ag (fC f)
set_option maxHeartbeats 4000000 in
theorem fcompare_pc [GlobF Tryz.prog] (a b : Fac) : PC Tryz.prog 44 [eF a, eF b] (.sc (.int .i64 (cmpF a b))) := by
  refine PC.of_body Tryz.func44 Tryz.ntmps44 rfl rfl rfl ?_
  repeat' first
    | (apply p1 (hd := rfl); case hop => first | (apply D_assign; rfl) | (apply D_box; rfl; rfl))
    | refine W_seq ?_
    | refine W_region ?_
    | refine WL_nil ?_
    | refine tn ?_
    | refine W_ret ?_
    | (refine idR ?_; refine ret1 rfl rfl rfl ?_)
    | refine Le.int ?_
    | (refine idW ?_; refine W_draw0 rfl ?_)
    | (apply d1 (hd := rfl); case hop => first | (apply D_assign; rfl) | (apply D_pc (cmpInt64_pc a.e b.e); rfl; exact .same rfl (.same rfl .nil)) | (apply D_pc (cmpInt64_pc a.a b.a); rfl; exact .same rfl (.same rfl .nil)) | (apply D_pc (compare_pc a.v b.v); rfl; exact .same rfl (.same rfl .nil)) | (apply D_pc (or_pc [cmpI a.e b.e, cmpI a.a b.a, cmpV a.v b.v] (of_decide_eq_true rfl)); rfl; exact .same rfl .nil) | (apply D_load1; rfl) | (apply D_fld; rfl) | (apply D_loadA; rfl; rfl) | (apply D_lit; rfl; rfl; rfl; rfl))
    | refine WD_nil (by first | decide +kernel | kernel_rfl | rfl) ?_
  all_goals rfl
def datF (f : Fac) : Dat := ⟨f.e, f.a, f.v, 1, false, 0, 1⟩
def mayF (f : Fac) : Prop := dmayP (datF f) ∧ 0 < f.sp.length ∧ SetP f.sp
set_option maxHeartbeats 4000000 in
theorem fmay_pc [GlobF Tryz.prog] (f : Fac) (hs : f.v.s.length < 9223372036854775808) (hl : f.sp.length < 4611686018427387904) : PC Tryz.prog 63 [eF f] (.sc (.bool (dP (mayF f)))) := by
  have hc := dcheck_pc (datF f) hs
  have hk := scheck_pc f.sp hl
  have z0 : Value.bool (iEq 0 0) = .bool true := by rw [(iEq_t _ _).mpr rfl]
  have z4 : Value.bool (iEq 40 0) = .bool false := by rw [(iEq_f _ _).mpr (by decide)]
  have z3 : Value.bool (iEq 30 0) = .bool false := by rw [(iEq_f _ _).mpr (by decide)]
  by_cases h1 : dmayP (datF f) <;> by_cases h2 : SetP f.sp
  all_goals
    first
      | rw [← dP_T h1, if_pos rfl] at hc
      | rw [← dP_F h1, if_neg (by decide)] at hc
    first
      | rw [← dP_T h2, if_pos rfl] at hk
      | rw [← dP_F h2, if_neg (by decide)] at hk
    refine PC.of_body Tryz.func63 Tryz.ntmps63 rfl rfl rfl ?_
    repeat' first
      | (apply p1 (hd := rfl); case hop => first | (apply D_move; rfl) | (apply D_assign; rfl) | (apply D_pc hc; rfl; exact .same rfl .nil) | (apply D_pc hk; rfl; exact .same rfl .nil) | exact D_sc (D_int rfl rfl rfl) z0 | exact D_sc (D_int rfl rfl rfl) z4 | exact D_sc (D_int rfl rfl rfl) z3 | (apply D_load1; rfl) | (apply D_fld; rfl) | (apply D_pickT; rfl; rfl) | (apply D_pickF; rfl; rfl) | (apply D_int; rfl; rfl; rfl) | (apply D_lenM; rfl) | (apply D_loadW; rfl; rfl) | (apply D_loadA; rfl; rfl) | (apply D_box; rfl; rfl) | exact D_build rfl)
      | refine W_seq ?_
      | refine W_region ?_
      | refine WL_nil ?_
      | (refine idG ?_; first | refine g0t rfl rfl rfl ?_ | refine gr rfl rfl ?_ | refine gs rfl rfl (fun _ => ?_) (fun _ => ?_))
      | refine tn ?_
      | refine W_ret ?_
      | (refine idR ?_; refine ret1 rfl rfl rfl ?_)
      | (refine idA ?_; refine m_var rfl rfl rfl rfl rfl rfl rfl ?_)
      | refine Le.bool ?_
  all_goals first
    | exact dP_T ⟨h1, by omega, h2⟩
    | exact dP_F fun h => h1 h.1
    | exact dP_F fun h => h2 h.2.2
    | (refine dP_F fun h => ?_; have := h.2.1; omega)
    | skip
  all_goals trace_state
def allI (l : List Fac) (n : Nat) : Prop := ∀ (i : Nat) (h : i < l.length), i < n → mayF l[i] ∧ ∀ h0 : 0 < i, cmpF (l[i - 1]'(by omega)) l[i] < 0
def allF (l : List Fac) : Prop := allI l l.length
def bndF (l : List Fac) : Prop := ∀ f, f ∈ l → f.v.s.length < 9223372036854775808 ∧ f.sp.length < 4611686018427387904
set_option maxHeartbeats 8000000 in
theorem fall_pc [GlobF Tryz.prog] (l : List Fac) (hl : l.length < 4611686018427387904) (hb : bndF l) : PC Tryz.prog 35 [sl6 l] (.sc (.bool (dP (allF l)))) := by
  refine PC.of_body Tryz.func35 Tryz.ntmps35 rfl rfl rfl ?_
  repeat' first
    | (apply p1 (hd := rfl); case hop => first | (apply D_move; rfl) | (apply D_assign; rfl) | (apply D_lenM; rfl))
    | refine W_seq ?_
    | refine W_region ?_
    | refine WL_nil ?_
    | refine tn ?_
    | refine W_block ?_
  refine W_loopR (X := Nat) (fun i => [(0, sl6 l), (5, sl6 l), (6, .sc (.int .i64 (l.length : Int))), (7, .sc (.int .i64 (i : Int)))]) (fun _ => [])
    (fun i => i ≤ l.length ∧ allI l i) (fun i => l.length - i) 0 ⟨Nat.zero_le _, fun j h hj => absurd hj (Nat.not_lt_zero j)⟩ ⟨rfl, rfl, rfl, rfl, trivial⟩ rfl ?_
  rintro i ⟨hi, hz⟩
  by_cases hil : i < l.length
  · have hm := fmay_pc (l[i]'hil) (hb _ (List.getElem_mem _)).1 (hb _ (List.getElem_mem _)).2
    have hnext : mayF (l[i]'hil) → (∀ h0 : 0 < i, cmpF (l[i - 1]'(by omega)) l[i] < 0) → allI l (i + 1) := fun h1 h2 j hj hji => by
      by_cases e : j = i
      · subst e; exact ⟨h1, h2⟩
      · exact hz j hj (by omega)
    have hno : ¬ (mayF (l[i]'hil) ∧ ∀ h0 : 0 < i, cmpF (l[i - 1]'(by omega)) l[i] < 0) → false = dP (allF l) := fun h => dP_F fun e => h (e i hil hil)
    by_cases h1 : mayF (l[i]'hil)
    · rw [← dP_T h1] at hm
      by_cases h0 : i = 0
      · subst h0
        repeat' first
          | (apply p1 (hd := rfl); case hop => first | (apply D_move; rfl) | (apply D_assign; rfl) | (apply D_int; rfl; rfl; rfl) | (apply D_loadW; rfl; rfl) | (apply D_idxAn; rfl; rfl; (first | omega | (simp; done))))
          | refine W_seq ?_
          | refine W_region ?_
          | (refine idC ?_; first | refine c1 rfl ?_ | refine c0 rfl ?_ | refine cs rfl (fun _ => ?_) (fun _ => ?_))
          | refine WL_nil ?_
          | refine tn ?_
          | refine tr ?_
          | refine br ?_
          | refine bn ?_
          | refine te ?_
          | (refine idB ?_; refine bh rfl ?_)
          | refine W_skip ?_
          | refine W_block ?_
          | refine W_exit ?_
          | refine W_ret ?_
          | (refine idR ?_; refine ret1 rfl rfl rfl ?_)
          | (refine idA ?_; refine m_alloc rfl ?_)
          | (refine idS ?_; refine pS (S_store rfl rfl rfl rfl rfl rfl rfl) ?_)
          | refine Le.bool ?_
          | (refine idW ?_; refine W_draw0 rfl ?_)
          | (apply d1 (hd := rfl); case hop => first | (apply D_move; rfl) | (apply D_pc hm; rfl; exact .same rfl .nil) | (apply D_pickT; rfl; rfl) | (apply D_pickF; rfl; rfl) | (apply D_int; rfl; rfl; rfl) | (apply D_not; rfl) | (apply D_loadW; rfl; rfl) | (apply D_idxA; rfl; rfl; omega; (first | omega | (simp; done) | (simp; omega))))
          | (refine idDg ?_; first | refine dg0t rfl rfl rfl ?_ | refine dg0f rfl rfl rfl ?_ | refine dg0u rfl rfl rfl ?_ | refine dgr rfl rfl ?_ | refine dgs rfl rfl (fun _ => ?_) (fun _ => ?_))
          | (refine idDn ?_; refine dL _ (fun hp' hs => D_loadBA rfl (hs.trans rfl) rfl) rfl ?_)
          | refine WD_nil (by first | decide +kernel | kernel_rfl | rfl) ?_
        all_goals first
          | (exfalso; omega)
          | contradiction
          | exact ⟨rfl, 0 + 1, ⟨by omega, hnext h1 fun h => absurd h (Nat.lt_irrefl 0)⟩, by omega, [], renN ⟨⟨_, rfl, .pur⟩, ⟨_, rfl, .pur⟩, ⟨_, rfl, .pur⟩, ⟨_, rfl, by rw [wsucc 0 (by omega)]; exact .pur⟩, trivial⟩⟩
          | skip
        all_goals trace_state
      · have hsub : IntKind.i64.wrap ((i : Int) - 1) = ((i - 1 : Nat) : Int) := by rw [w64 _ (by omega) (by omega)]; omega
        have hc := fcompare_pc (l[i - 1]'(by omega)) (l[i]'hil)
        repeat' first
          | (apply p1 (hd := rfl); case hop => first | (apply D_move; rfl) | (apply D_assign; rfl) | (apply D_int; rfl; rfl; rfl) | (apply D_loadW; rfl; rfl) | (apply D_idxAn; rfl; rfl; (first | omega | (simp; done))))
          | refine W_seq ?_
          | refine W_region ?_
          | (refine idC ?_; first | refine c1 rfl ?_ | refine c0 rfl ?_ | refine cs rfl (fun _ => ?_) (fun _ => ?_))
          | refine WL_nil ?_
          | refine tn ?_
          | refine tr ?_
          | refine br ?_
          | refine bn ?_
          | refine te ?_
          | (refine idB ?_; refine bh rfl ?_)
          | refine W_skip ?_
          | refine W_block ?_
          | refine W_exit ?_
          | refine W_ret ?_
          | (refine idR ?_; refine ret1 rfl rfl rfl ?_)
          | (refine idA ?_; refine m_alloc rfl ?_)
          | (refine idS ?_; refine pS (S_store rfl rfl rfl rfl rfl rfl rfl) ?_)
          | refine Le.bool ?_
          | (refine idW ?_; refine W_draw0 rfl ?_)
          | (apply d1 (hd := rfl); case hop => first | (apply D_move; rfl) | (apply D_pc hm; rfl; exact .same rfl .nil) | exact D_sc (D_int rfl rfl rfl) (congrArg _ hsub) | (apply D_pc hc; rfl; exact .same rfl (.same rfl .nil)) | (apply D_pickT; rfl; rfl) | (apply D_pickF; rfl; rfl) | (apply D_int; rfl; rfl; rfl) | (apply D_not; rfl) | (apply D_loadW; rfl; rfl) | (apply D_idxAn; rfl; rfl; (first | omega | (simp; done))))
          | (refine idDg ?_; first | refine dg0t rfl rfl rfl ?_ | refine dg0f rfl rfl rfl ?_ | refine dg0u rfl rfl rfl ?_ | refine dgr rfl rfl ?_ | refine dgs rfl rfl (fun _ => ?_) (fun _ => ?_))
          | (refine idDn ?_; refine dL _ (fun hp' hs => D_loadBA rfl (hs.trans rfl) rfl) rfl ?_)
          | refine WD_nil (by first | decide +kernel | kernel_rfl | rfl) ?_
        all_goals first
          | (exfalso; omega)
          | contradiction
          | exact ⟨rfl, i + 1, ⟨by omega, hnext h1 fun h => by assumption⟩, by omega, [], renN ⟨⟨_, rfl, .pur⟩, ⟨_, rfl, .pur⟩, ⟨_, rfl, .pur⟩, ⟨_, rfl, by rw [wsucc i (by omega)]; exact .pur⟩, trivial⟩⟩
          | (refine hno fun h => ?_; have := h.2 (by omega); omega)
          | skip
        all_goals trace_state
    · rw [← dP_F h1] at hm
      repeat' first
        | (apply p1 (hd := rfl); case hop => first | (apply D_move; rfl) | (apply D_assign; rfl) | (apply D_int; rfl; rfl; rfl) | (apply D_loadW; rfl; rfl) | (apply D_idxAn; rfl; rfl; (first | omega | (simp; done))))
        | refine W_seq ?_
        | refine W_region ?_
        | (refine idC ?_; first | refine c1 rfl ?_ | refine c0 rfl ?_ | refine cs rfl (fun _ => ?_) (fun _ => ?_))
        | refine WL_nil ?_
        | refine tn ?_
        | refine tr ?_
        | refine br ?_
        | refine bn ?_
        | refine te ?_
        | (refine idB ?_; refine bh rfl ?_)
        | refine W_skip ?_
        | refine W_block ?_
        | refine W_exit ?_
        | refine W_ret ?_
        | (refine idR ?_; refine ret1 rfl rfl rfl ?_)
        | (refine idA ?_; refine m_alloc rfl ?_)
        | (refine idS ?_; refine pS (S_store rfl rfl rfl rfl rfl rfl rfl) ?_)
        | refine Le.bool ?_
        | (refine idW ?_; refine W_draw0 rfl ?_)
        | (apply d1 (hd := rfl); case hop => first | (apply D_move; rfl) | (apply D_pc hm; rfl; exact .same rfl .nil) | (apply D_pickT; rfl; rfl) | (apply D_pickF; rfl; rfl) | (apply D_int; rfl; rfl; rfl) | (apply D_not; rfl))
        | (refine idDg ?_; first | refine dg0t rfl rfl rfl ?_ | refine dg0f rfl rfl rfl ?_ | refine dg0u rfl rfl rfl ?_ | refine dgr rfl rfl ?_ | refine dgs rfl rfl (fun _ => ?_) (fun _ => ?_))
        | (refine idDn ?_; refine dL _ (fun hp' hs => D_loadBA rfl (hs.trans rfl) rfl) rfl ?_)
        | refine WD_nil (by first | decide +kernel | kernel_rfl | rfl) ?_
      all_goals first
        | (exfalso; omega)
        | contradiction
        | exact hno fun h => h1 h.1
        | skip
      all_goals trace_state
  · have e : i = l.length := by omega
    subst e
    repeat' first
      | (apply p1 (hd := rfl); case hop => first | (apply D_move; rfl) | (apply D_assign; rfl) | (apply D_int; rfl; rfl; rfl) | (apply D_loadW; rfl; rfl) | (apply D_idxAn; rfl; rfl; (first | omega | (simp; done))))
      | refine W_seq ?_
      | refine W_region ?_
      | (refine idC ?_; refine cs rfl (fun _ => ?_) (fun _ => ?_))
      | refine WL_nil ?_
      | refine tn ?_
      | refine te ?_
      | (refine idB ?_; refine bh rfl ?_)
      | refine W_skip ?_
      | refine W_block ?_
      | refine W_exit ?_
      | refine W_ret ?_
      | (refine idR ?_; refine ret1 rfl rfl rfl ?_)
      | (refine idA ?_; refine m_alloc rfl ?_)
      | (refine idS ?_; refine pS (S_store rfl rfl rfl rfl rfl rfl rfl) ?_)
      | refine Le.bool ?_
      | (refine idW ?_; refine W_draw0 rfl ?_)
      | (refine idDn ?_; refine dL _ (fun hp' hs => D_loadBA rfl (hs.trans rfl) rfl) rfl ?_)
    all_goals first
      | (exfalso; omega)
      | exact dP_T hz
      | skip
    all_goals trace_state
set_option maxHeartbeats 4000000 in
theorem fcheck_pc [GlobF Tryz.prog] (l : List Fac) (hl : l.length < 4611686018427387904) (hb : bndF l) : PC Tryz.prog 11 [sl6 l] (.sc (.int .i64 (if dP (allF l) then 0 else 60))) := by
  have h := fall_pc l hl hb
  cases hx : dP (allF l) <;> rw [hx] at h
  all_goals
    refine PC.of_body Tryz.func11 Tryz.ntmps11 rfl rfl rfl ?_
    repeat' first
      | (apply p1 (hd := rfl); case hop => first | (apply D_move; rfl) | (apply D_assign; rfl) | (apply D_pc h; rfl; exact .same rfl .nil) | (apply D_not; rfl))
      | refine W_seq ?_
      | refine W_region ?_
      | (refine idC ?_; refine cs rfl (fun _ => ?_) (fun _ => ?_))
      | refine WL_nil ?_
      | refine tn ?_
      | refine tr ?_
      | refine W_skip ?_
      | refine W_ret ?_
      | (refine idR ?_; refine ret1 rfl rfl rfl ?_)
      | refine Le.int ?_
  all_goals first | rfl | contradiction | simp_all
end Go.Proofs
