/- Contracts of facts' functions: two lists held against one another; the chapter's first example. -/
import Derived.Test.YtfnmipagllofiaaGreatFF3
import Derived.Test.YtfnmipagllofiaaGreatOps20
import Derived.Test.YtfnmipagllofiaaGreatOps29
namespace Go.Proofs
open Go.AL Go.Sort
attribute [local irreducible] Go.AL.W Go.AL.WL Go.AL.WD Go.AL.POp Go.AL.PPOp Go.AL.POpS Go.AL.PC Go.AL.AC Go.AL.YW Go.AL.Ret Go.AL.Le Go.AL.thn Go.AL.inBlk Go.AL.scp
theorem dsortL_ext {o : Int} {l m : List Dat} (h : ∀ d, d ∈ l ↔ d ∈ m) : dsortL o l = dsortL o m := by
  unfold dsortL
  split
  · refine rise_eq (wc_cmpD o) (sortC_rise (wc_cmpD o) (cmpD_z o) _) (sortC_rise (wc_cmpD o) (cmpD_z o) _) fun x => ?_
    rw [sortC_mem, sortC_mem, List.mem_filter, List.mem_filter, h]
  · rfl
theorem foldR_ext {l m : List Dat} (h : ∀ d, d ∈ l ↔ d ∈ m) : foldR l = foldR m := by
  unfold foldR
  rw [dsortL_ext h, dPc (show (∀ d, d ∈ l → dmayP d) ↔ (∀ d, d ∈ m → dmayP d) from ⟨fun k d hd => k d ((h d).2 hd), fun k d hd => k d ((h d).1 hd)⟩)]
theorem Fac.ext' {a b : Fac} (h1 : a.e = b.e) (h2 : a.a = b.a) (h3 : a.v = b.v) (h4 : a.sp = b.sp) : a = b := by
  obtain ⟨e, c, v, s⟩ := a
  obtain ⟨e', c', v', s'⟩ := b
  simp at h1 h2 h3 h4
  subst h1; subst h2; subst h3; subst h4; rfl
abbrev oneV : Val := ⟨1, 1, []⟩
abbrev fewL : List Dat := [⟨5, 10, oneV, 1, true, 0, 10⟩, ⟨5, 10, oneV, 2, false, 4, 6⟩]
abbrev fewF : List Fac := [⟨5, 10, oneV, [⟨0, 4⟩, ⟨6, 10⟩]⟩]
set_option maxHeartbeats 4000000 in
theorem one_pc [GlobF Tryz.prog] : PC Tryz.prog 31 [] (.ag (vC oneV)) := by
  refine PC.of_body Tryz.func31 Tryz.ntmps31 rfl rfl rfl ?_
  repeat' first
    | (apply p1 (hd := rfl); case hop => exact D_build rfl)
    | refine W_seq ?_
    | refine W_region ?_
    | refine WL_nil ?_
    | refine tn ?_
    | refine W_ret ?_
    | (refine idR ?_; refine rL1 rfl (by first | exact trivial | exact ⟨rfl, trivial⟩) (by first | exact ResO.tmp rfl | exact ResO.cellBA rfl rfl rfl | exact ResO.cellB1 rfl rfl rfl | exact ResO.cellEA rfl rfl | exact ResO.cellE1 rfl) ?_)
    | (refine idA ?_; refine m_alloc rfl ?_)
    | (refine idS ?_; refine pS (S_store rfl rfl rfl rfl rfl rfl rfl) ?_)
    | fail
  all_goals exact Le.of_eq rfl
set_option maxHeartbeats 4000000 in
theorem few_pc [GlobF Tryz.prog] : PC Tryz.prog 30 [] (sl9 fewL) := by
  refine PC.of_body Tryz.func30 Tryz.ntmps30 rfl rfl rfl ?_
  repeat' first
    | (apply p1 (hd := rfl); case hop => first | (apply D_assign; rfl) | (apply D_pc one_pc; rfl; exact .nil) | (apply D_lit; rfl; rfl; rfl; rfl) | exact D_build rfl)
    | refine W_seq ?_
    | refine W_region ?_
    | refine WL_nil ?_
    | refine tn ?_
    | refine W_ret ?_
    | (refine idR ?_; refine ret1 rfl rfl rfl ?_)
    | fail
  all_goals exact Le.of_eq rfl
theorem meet_nil_of {a b : List Sp} (ha : SetP a) (hb : SetP b) (h : ∀ x, ¬ (inS a x ∧ inS b x)) : (meetL a b).length = 0 := by
  obtain ⟨k1, k2⟩ := and_ok ha hb
  rw [set_empty k1 fun x hx => h x ((k2 x).1 hx)]; rfl
theorem inS_one' (f t x : Int) : inS [⟨f, t⟩] x ↔ f ≤ x ∧ x < t := inS_one ⟨f, t⟩ x
theorem few_sort : dsortL 1 fewL = fewL := by
  have hf : fewL.filter (hasB 1) = fewL := List.filter_eq_self.2 fun d _ => by unfold hasB; rw [dP_t]; exact .inl (by decide)
  unfold dsortL
  rw [if_pos (by decide), hf]
  refine (sortC_eq (wc_cmpD 1) (cmpD_z 1) ?_ fun x => Iff.rfl).symm
  refine List.pairwise_cons.2 ⟨fun y hy => ?_, List.pairwise_singleton _ _⟩
  rw [List.mem_singleton.1 hy]
  decide
theorem few_fold : foldR fewL = some fewF := by
  have hm : ∀ d, d ∈ fewL → dmayP d := fun d hd => by
    have hv : mayB oneV = true := by unfold mayB; rw [dP_t]; unfold MayP; simp
    simp only [List.mem_cons, List.not_mem_nil, or_false] at hd
    rcases hd with rfl | rfl <;> exact ⟨by decide, by decide, by decide, by decide, hv, by decide, by decide, by decide⟩
  have ho : okD fewL := fun d hd => (hm d hd).2.2.2.2.2.2.2
  have hr : rgD fewL := fun d hd => by
    simp only [List.mem_cons, List.not_mem_nil, or_false] at hd
    rcases hd with rfl | rfl <;> decide
  unfold foldR
  rw [← dP_T hm, if_pos rfl, few_sort]
  have g1 : grpL (grP true) fewL = [fewL] := by
    rw [grp_at (n := 2) (by decide) (by decide) (fun j h h1 h2 => by
      have : j = 1 := by simp at h; omega
      subst this; exact ⟨⟨rfl, rfl, rfl⟩, .inl rfl⟩) (fun h => absurd h (by decide))]
    show [fewL] ++ grpL _ [] = _
    rw [grpL_nil]; rfl
  have g2 : grpL (grP false) fewL = [[fewL[0]], [fewL[1]]] := by
    rw [grp_at (n := 1) (by decide) (by decide) (fun j h h1 h2 => by omega) (fun h => by
      rintro ⟨_, h | h⟩
      · cases h
      · exact absurd h (show ¬ ((1 : Int) = 2) by decide))]
    show [[fewL[0]]] ++ grpL _ [fewL[1]] = _
    rw [grp_at (n := 1) (by decide) (by decide) (fun j h h1 h2 => by omega) (fun h => absurd h (by decide))]
    show [[fewL[0]]] ++ ([[fewL[1]]] ++ grpL _ []) = _
    rw [grpL_nil]; rfl
  have o1 : okD [fewL[0]] := fun d hd => ho d (by rw [List.mem_singleton.1 hd]; simp)
  have o2 : okD [fewL[1]] := fun d hd => ho d (by rw [List.mem_singleton.1 hd]; simp)
  have r1 : rgD [fewL[0]] := fun d hd => hr d (by rw [List.mem_singleton.1 hd]; simp)
  have r2 : rgD [fewL[1]] := fun d hd => hr d (by rw [List.mem_singleton.1 hd]; simp)
  have s1 : saidL [fewL[0]] true = [⟨0, 10⟩] := rfl
  have s2 : saidL [fewL[0]] false = [] := rfl
  have s3 : saidL [fewL[1]] true = [] := rfl
  have s4 : saidL [fewL[1]] false = [⟨4, 6⟩] := rfl
  have c0 : ∀ x, inS (canS []) x ↔ False := fun x => by rw [(canS_ok (l := []) (fun s hs => by simp at hs)).2]; simp [inS_nil]
  have b1 : (bothL [fewL[0]]).length = 0 := by
    unfold bothL
    rw [s2]
    exact meet_nil_of (canS_ok (saidL_ne o1 true)).1 (canS_ok (l := []) (fun s hs => by simp at hs)).1 fun x hx => (c0 x).1 hx.2
  have b2 : (bothL [fewL[1]]).length = 0 := by
    unfold bothL
    rw [s3]
    exact meet_nil_of (canS_ok (l := []) (fun s hs => by simp at hs)).1 (canS_ok (saidL_ne o2 false)).1 fun x hx => (c0 x).1 hx.1
  have hn : rngS [] := fun s hs => by simp at hs
  have t1 : tnL [] [fewL[0]] = [⟨0, 10⟩] := by
    obtain ⟨k1, k2, k3⟩ := tn_ok .nil hn o1 r1
    refine set_ext k1 (setP_one (by decide)) fun x => ?_
    rw [k3, s1, s2, inS_one']
    simp [inS_nil]
  have t2 : tnL [⟨0, 10⟩] [fewL[1]] = [⟨0, 4⟩, ⟨6, 10⟩] := by
    obtain ⟨k1, k2, k3⟩ := tn_ok (now := [⟨0, 10⟩]) (setP_one (by decide)) (fun s hs => by rw [List.mem_singleton.1 hs]; decide) o2 r2
    refine set_ext k1 (setP_cons.2 ⟨by decide, fun r hr => by rw [List.mem_singleton.1 hr]; decide, setP_one (by decide)⟩) fun x => ?_
    rw [k3, s3, s4, inS_one', inS_one', inS_cons, inS_one']
    simp only [show inS [] x = False from eq_false (inS_nil x), or_false]
    omega
  rw [g1]
  unfold foldG
  rw [g2, foldT_cons, if_pos b1, t1, foldT_cons, if_pos b2, t2]
  rfl
set_option maxHeartbeats 8000000 in
theorem falive_pc [GlobF Tryz.prog] : PC Tryz.prog 21 [] (.sc (.bool true)) := by
  have hf := fold_pc fewL (by decide) (fun d hd => by
    simp only [List.mem_cons, List.not_mem_nil, or_false] at hd
    rcases hd with rfl | rfl <;> decide) (fun d hd => by
    simp only [List.mem_cons, List.not_mem_nil, or_false] at hd
    rcases hd with rfl | rfl <;> decide)
  rw [few_fold] at hf
  have hf : PC Tryz.prog 23 [sl9 fewL] (.tu [sl6 fewF, .sc (.int .i64 0)]) := hf
  refine PC.of_body Tryz.func21 Tryz.ntmps21 rfl rfl rfl ?_
  repeat' first
    | (apply p1 (hd := rfl); case hop => first | (apply D_move; rfl) | (apply D_assign; rfl) | (apply D_pc few_pc; rfl; exact .nil) | (apply D_pc hf; rfl; exact .same rfl .nil) | (apply D_load1; rfl) | (apply D_fld; rfl) | (apply D_pickT; rfl; rfl) | (apply D_pickF; rfl; rfl) | (apply D_int; rfl; rfl; rfl) | (apply D_lenM; rfl) | (apply D_ext; rfl; rfl) | (apply D_loadW; rfl; rfl) | (apply D_idxAn; rfl; rfl; (first | omega | (simp; done))) | exact D_build rfl | exact D_eqA rfl rfl rfl rfl rfl rfl rfl)
    | refine W_seq ?_
    | refine W_region ?_
    | refine WL_nil ?_
    | (refine idG ?_; first | refine g0t rfl rfl rfl ?_ | refine gr rfl rfl ?_ | refine gs rfl rfl (fun _ => ?_) (fun _ => ?_))
    | refine tn ?_
    | refine W_ret ?_
    | (refine idR ?_; refine ret1 rfl rfl rfl ?_)
    | refine Le.bool ?_
    | fail
  all_goals first | rfl | contradiction | (rw [lEq_t]; rfl) | skip
  all_goals trace_state
end Go.Proofs

namespace Go.Proofs
open Go.AL Go.Sort
attribute [local irreducible] Go.AL.W Go.AL.WL Go.AL.WD Go.AL.POp Go.AL.PPOp Go.AL.POpS Go.AL.PC Go.AL.AC Go.AL.YW Go.AL.Ret Go.AL.Le Go.AL.thn Go.AL.inBlk Go.AL.scp
def cmpF (a b : Fac) : Int := orI [cmpI a.e b.e, cmpI a.a b.a, cmpV a.v b.v]
abbrev eF (f : Fac) : AV := .ag (fC f)
set_option maxHeartbeats 4000000 in
theorem fcompare_pc [GlobF Tryz.prog] (a b : Fac) : PC Tryz.prog 44 [eF a, eF b] (.sc (.int .i64 (cmpF a b))) := by
  refine PC.of_body Tryz.func44 Tryz.ntmps44 rfl rfl rfl ?_
  repeat' first
    | (apply p1 (hd := rfl); case hop => first | (apply D_assign; rfl) | (apply D_box; rfl; rfl))
    | refine W_seq ?_
    | refine W_region ?_
    | refine WL_nil ?_
    | refine tn ?_
    | refine W_ret ?_
    | (refine idR ?_; refine ret1 rfl rfl rfl ?_)
    | refine Le.int ?_
    | (refine idW ?_; refine W_draw0 rfl ?_)
    | (apply d1 (hd := rfl); case hop => first | (apply D_assign; rfl) | (apply D_pc (cmpInt64_pc a.e b.e); rfl; exact .same rfl (.same rfl .nil)) | (apply D_pc (cmpInt64_pc a.a b.a); rfl; exact .same rfl (.same rfl .nil)) | (apply D_pc (compare_pc a.v b.v); rfl; exact .same rfl (.same rfl .nil)) | (apply D_pc (or_pc [cmpI a.e b.e, cmpI a.a b.a, cmpV a.v b.v] (of_decide_eq_true rfl)); rfl; exact .same rfl .nil) | (apply D_load1; rfl) | (apply D_fld; rfl) | (apply D_loadA; rfl; rfl) | (apply D_lit; rfl; rfl; rfl; rfl))
    | refine WD_nil (by first | decide +kernel | kernel_rfl | rfl) ?_
    | fail
  all_goals rfl
def datF (f : Fac) : Dat := ⟨f.e, f.a, f.v, 1, false, 0, 1⟩
def mayF (f : Fac) : Prop := dmayP (datF f) ∧ 0 < f.sp.length ∧ SetP f.sp
set_option maxHeartbeats 4000000 in
theorem fmay_pc [GlobF Tryz.prog] (f : Fac) (hs : f.v.s.length < 9223372036854775808) (hl : f.sp.length < 4611686018427387904) : PC Tryz.prog 63 [eF f] (.sc (.bool (dP (mayF f)))) := by
  have hc := dcheck_pc (datF f) hs
  have hk := scheck_pc f.sp hl
  have z0 : Value.bool (iEq 0 0) = .bool true := by rw [(iEq_t _ _).mpr rfl]
  have z4 : Value.bool (iEq 40 0) = .bool false := by rw [(iEq_f _ _).mpr (by decide)]
  have z3 : Value.bool (iEq 30 0) = .bool false := by rw [(iEq_f _ _).mpr (by decide)]
  by_cases h1 : dmayP (datF f) <;> by_cases h2 : SetP f.sp
  all_goals
    first
      | rw [← dP_T h1, if_pos rfl] at hc
      | rw [← dP_F h1, if_neg (by decide)] at hc
    first
      | rw [← dP_T h2, if_pos rfl] at hk
      | rw [← dP_F h2, if_neg (by decide)] at hk
    refine PC.of_body Tryz.func63 Tryz.ntmps63 rfl rfl rfl ?_
    repeat' first
      | (apply p1 (hd := rfl); case hop => first | (apply D_move; rfl) | (apply D_assign; rfl) | (apply D_pc hc; rfl; exact .same rfl .nil) | (apply D_pc hk; rfl; exact .same rfl .nil) | exact D_sc (D_int rfl rfl rfl) z0 | exact D_sc (D_int rfl rfl rfl) z4 | exact D_sc (D_int rfl rfl rfl) z3 | (apply D_load1; rfl) | (apply D_fld; rfl) | (apply D_pickT; rfl; rfl) | (apply D_pickF; rfl; rfl) | (apply D_int; rfl; rfl; rfl) | (apply D_lenM; rfl) | (apply D_loadW; rfl; rfl) | (apply D_loadA; rfl; rfl) | (apply D_box; rfl; rfl) | exact D_build rfl)
      | refine W_seq ?_
      | refine W_region ?_
      | refine WL_nil ?_
      | (refine idG ?_; first | refine g0t rfl rfl rfl ?_ | refine gr rfl rfl ?_ | refine gs rfl rfl (fun _ => ?_) (fun _ => ?_))
      | refine tn ?_
      | refine W_ret ?_
      | (refine idR ?_; refine ret1 rfl rfl rfl ?_)
      | (refine idA ?_; refine m_var rfl rfl rfl rfl rfl rfl rfl ?_)
      | refine Le.bool ?_
      | fail
  all_goals first
    | exact dP_T ⟨h1, by omega, h2⟩
    | exact dP_F fun h => h1 h.1
    | exact dP_F fun h => h2 h.2.2
    | (refine dP_F fun h => ?_; have := h.2.1; omega)
    | skip
  all_goals trace_state
def allI (l : List Fac) (n : Nat) : Prop := ∀ (i : Nat) (h : i < l.length), i < n → mayF l[i] ∧ ∀ h0 : 0 < i, cmpF (l[i - 1]'(by omega)) l[i] < 0
def allF (l : List Fac) : Prop := allI l l.length
def bndF (l : List Fac) : Prop := ∀ f, f ∈ l → f.v.s.length < 9223372036854775808 ∧ f.sp.length < 4611686018427387904
set_option maxHeartbeats 8000000 in
theorem fall_pc [GlobF Tryz.prog] (l : List Fac) (hl : l.length < 4611686018427387904) (hb : bndF l) : PC Tryz.prog 35 [sl6 l] (.sc (.bool (dP (allF l)))) := by
  refine PC.of_body Tryz.func35 Tryz.ntmps35 rfl rfl rfl ?_
  repeat' first
    | (apply p1 (hd := rfl); case hop => first | (apply D_move; rfl) | (apply D_assign; rfl) | (apply D_lenM; rfl))
    | refine W_seq ?_
    | refine W_region ?_
    | refine WL_nil ?_
    | refine tn ?_
    | refine W_block ?_
    | fail
  refine W_loopR (X := Nat) (fun i => [(0, sl6 l), (5, sl6 l), (6, .sc (.int .i64 (l.length : Int))), (7, .sc (.int .i64 (i : Int)))]) (fun _ => [])
    (fun i => i ≤ l.length ∧ allI l i) (fun i => l.length - i) 0 ⟨Nat.zero_le _, fun j h hj => absurd hj (Nat.not_lt_zero j)⟩ ⟨rfl, rfl, rfl, rfl, trivial⟩ rfl ?_
  rintro i ⟨hi, hz⟩
  by_cases hil : i < l.length
  · have hm := fmay_pc (l[i]'hil) (hb _ (List.getElem_mem _)).1 (hb _ (List.getElem_mem _)).2
    have hnext : mayF (l[i]'hil) → (∀ h0 : 0 < i, cmpF (l[i - 1]'(by omega)) l[i] < 0) → allI l (i + 1) := fun h1 h2 j hj hji => by
      by_cases e : j = i
      · subst e; exact ⟨h1, h2⟩
      · exact hz j hj (by omega)
    have hno : ¬ (mayF (l[i]'hil) ∧ ∀ h0 : 0 < i, cmpF (l[i - 1]'(by omega)) l[i] < 0) → false = dP (allF l) := fun h => dP_F fun e => h (e i hil hil)
    by_cases h1 : mayF (l[i]'hil)
    · rw [← dP_T h1] at hm
      by_cases h0 : i = 0
      · subst h0
        repeat' first
          | (apply p1 (hd := rfl); case hop => first | (apply D_move; rfl) | (apply D_assign; rfl) | (apply D_int; rfl; rfl; rfl) | (apply D_loadW; rfl; rfl) | (apply D_idxAn; rfl; rfl; (first | omega | (simp; done))))
          | refine W_seq ?_
          | refine W_region ?_
          | (refine idC ?_; first | refine c1 rfl ?_ | refine c0 rfl ?_ | refine cs rfl (fun _ => ?_) (fun _ => ?_))
          | refine WL_nil ?_
          | refine tn ?_
          | refine tr ?_
          | refine br ?_
          | refine bn ?_
          | refine te ?_
          | (refine idB ?_; refine bh rfl ?_)
          | refine W_skip ?_
          | refine W_block ?_
          | refine W_exit ?_
          | refine W_ret ?_
          | (refine idR ?_; refine ret1 rfl rfl rfl ?_)
          | (refine idA ?_; refine m_alloc rfl ?_)
          | (refine idS ?_; refine pS (S_store rfl rfl rfl rfl rfl rfl rfl) ?_)
          | refine Le.bool ?_
          | (refine idW ?_; refine W_draw0 rfl ?_)
          | (apply d1 (hd := rfl); case hop => first | (apply D_move; rfl) | (apply D_pc hm; rfl; exact .same rfl .nil) | (apply D_pickT; rfl; rfl) | (apply D_pickF; rfl; rfl) | (apply D_int; rfl; rfl; rfl) | (apply D_not; rfl) | (apply D_loadW; rfl; rfl) | (apply D_idxA; rfl; rfl; omega; (first | omega | (simp; done) | (simp; omega))))
          | (refine idDg ?_; first | refine dg0t rfl rfl rfl ?_ | refine dg0f rfl rfl rfl ?_ | refine dg0u rfl rfl rfl ?_ | refine dgr rfl rfl ?_ | refine dgs rfl rfl (fun _ => ?_) (fun _ => ?_))
          | (refine idDn ?_; refine dL _ (fun hp' hs => D_loadBA rfl (hs.trans rfl) rfl) rfl ?_)
          | refine WD_nil (by first | decide +kernel | kernel_rfl | rfl) ?_
          | fail
        all_goals first
          | (exfalso; omega)
          | contradiction
          | exact ⟨rfl, 0 + 1, ⟨by omega, hnext h1 fun h => absurd h (Nat.lt_irrefl 0)⟩, by omega, [], renN ⟨⟨_, rfl, .pur⟩, ⟨_, rfl, .pur⟩, ⟨_, rfl, .pur⟩, ⟨_, rfl, by rw [wsucc 0 (by omega)]; exact .pur⟩, trivial⟩⟩
          | skip
        all_goals trace_state
      · have hsub : IntKind.i64.wrap ((i : Int) - 1) = ((i - 1 : Nat) : Int) := by rw [w64 _ (by omega) (by omega)]; omega
        have hc := fcompare_pc (l[i - 1]'(by omega)) (l[i]'hil)
        repeat' first
          | (apply p1 (hd := rfl); case hop => first | (apply D_move; rfl) | (apply D_assign; rfl) | (apply D_int; rfl; rfl; rfl) | (apply D_loadW; rfl; rfl) | (apply D_idxAn; rfl; rfl; (first | omega | (simp; done))))
          | refine W_seq ?_
          | refine W_region ?_
          | (refine idC ?_; first | refine c1 rfl ?_ | refine c0 rfl ?_ | refine cs rfl (fun _ => ?_) (fun _ => ?_))
          | refine WL_nil ?_
          | refine tn ?_
          | refine tr ?_
          | refine br ?_
          | refine bn ?_
          | refine te ?_
          | (refine idB ?_; refine bh rfl ?_)
          | refine W_skip ?_
          | refine W_block ?_
          | refine W_exit ?_
          | refine W_ret ?_
          | (refine idR ?_; refine ret1 rfl rfl rfl ?_)
          | (refine idA ?_; refine m_alloc rfl ?_)
          | (refine idS ?_; refine pS (S_store rfl rfl rfl rfl rfl rfl rfl) ?_)
          | refine Le.bool ?_
          | (refine idW ?_; refine W_draw0 rfl ?_)
          | (apply d1 (hd := rfl); case hop => first | (apply D_move; rfl) | (apply D_pc hm; rfl; exact .same rfl .nil) | exact D_sc (D_int rfl rfl rfl) (congrArg _ hsub) | (apply D_pc hc; rfl; exact .same rfl (.same rfl .nil)) | (apply D_pickT; rfl; rfl) | (apply D_pickF; rfl; rfl) | (apply D_int; rfl; rfl; rfl) | (apply D_not; rfl) | (apply D_loadW; rfl; rfl) | (apply D_idxAn; rfl; rfl; (first | omega | (simp; done))))
          | (refine idDg ?_; first | refine dg0t rfl rfl rfl ?_ | refine dg0f rfl rfl rfl ?_ | refine dg0u rfl rfl rfl ?_ | refine dgr rfl rfl ?_ | refine dgs rfl rfl (fun _ => ?_) (fun _ => ?_))
          | (refine idDn ?_; refine dL _ (fun hp' hs => D_loadBA rfl (hs.trans rfl) rfl) rfl ?_)
          | refine WD_nil (by first | decide +kernel | kernel_rfl | rfl) ?_
          | fail
        all_goals first
          | (exfalso; omega)
          | contradiction
          | exact ⟨rfl, i + 1, ⟨by omega, hnext h1 fun h => by assumption⟩, by omega, [], renN ⟨⟨_, rfl, .pur⟩, ⟨_, rfl, .pur⟩, ⟨_, rfl, .pur⟩, ⟨_, rfl, by rw [wsucc i (by omega)]; exact .pur⟩, trivial⟩⟩
          | (refine hno fun h => ?_; have := h.2 (by omega); omega)
          | skip
        all_goals trace_state
    · rw [← dP_F h1] at hm
      repeat' first
        | (apply p1 (hd := rfl); case hop => first | (apply D_move; rfl) | (apply D_assign; rfl) | (apply D_int; rfl; rfl; rfl) | (apply D_loadW; rfl; rfl) | (apply D_idxAn; rfl; rfl; (first | omega | (simp; done))))
        | refine W_seq ?_
        | refine W_region ?_
        | (refine idC ?_; first | refine c1 rfl ?_ | refine c0 rfl ?_ | refine cs rfl (fun _ => ?_) (fun _ => ?_))
        | refine WL_nil ?_
        | refine tn ?_
        | refine tr ?_
        | refine br ?_
        | refine bn ?_
        | refine te ?_
        | (refine idB ?_; refine bh rfl ?_)
        | refine W_skip ?_
        | refine W_block ?_
        | refine W_exit ?_
        | refine W_ret ?_
        | (refine idR ?_; refine ret1 rfl rfl rfl ?_)
        | (refine idA ?_; refine m_alloc rfl ?_)
        | (refine idS ?_; refine pS (S_store rfl rfl rfl rfl rfl rfl rfl) ?_)
        | refine Le.bool ?_
        | (refine idW ?_; refine W_draw0 rfl ?_)
        | (apply d1 (hd := rfl); case hop => first | (apply D_move; rfl) | (apply D_pc hm; rfl; exact .same rfl .nil) | (apply D_pickT; rfl; rfl) | (apply D_pickF; rfl; rfl) | (apply D_int; rfl; rfl; rfl) | (apply D_not; rfl))
        | (refine idDg ?_; first | refine dg0t rfl rfl rfl ?_ | refine dg0f rfl rfl rfl ?_ | refine dg0u rfl rfl rfl ?_ | refine dgr rfl rfl ?_ | refine dgs rfl rfl (fun _ => ?_) (fun _ => ?_))
        | (refine idDn ?_; refine dL _ (fun hp' hs => D_loadBA rfl (hs.trans rfl) rfl) rfl ?_)
        | refine WD_nil (by first | decide +kernel | kernel_rfl | rfl) ?_
        | fail
      all_goals first
        | (exfalso; omega)
        | contradiction
        | exact hno fun h => h1 h.1
        | skip
      all_goals trace_state
  · have e : i = l.length := by omega
    subst e
    repeat' first
      | (apply p1 (hd := rfl); case hop => first | (apply D_move; rfl) | (apply D_assign; rfl) | (apply D_int; rfl; rfl; rfl) | (apply D_loadW; rfl; rfl) | (apply D_idxAn; rfl; rfl; (first | omega | (simp; done))))
      | refine W_seq ?_
      | refine W_region ?_
      | (refine idC ?_; refine cs rfl (fun _ => ?_) (fun _ => ?_))
      | refine WL_nil ?_
      | refine tn ?_
      | refine te ?_
      | (refine idB ?_; refine bh rfl ?_)
      | refine W_skip ?_
      | refine W_block ?_
      | refine W_exit ?_
      | refine W_ret ?_
      | (refine idR ?_; refine ret1 rfl rfl rfl ?_)
      | (refine idA ?_; refine m_alloc rfl ?_)
      | (refine idS ?_; refine pS (S_store rfl rfl rfl rfl rfl rfl rfl) ?_)
      | refine Le.bool ?_
      | (refine idW ?_; refine W_draw0 rfl ?_)
      | (refine idDn ?_; refine dL _ (fun hp' hs => D_loadBA rfl (hs.trans rfl) rfl) rfl ?_)
      | fail
    all_goals first
      | (exfalso; omega)
      | exact dP_T hz
      | skip
    all_goals trace_state
set_option maxHeartbeats 4000000 in
theorem fcheck_pc [GlobF Tryz.prog] (l : List Fac) (hl : l.length < 4611686018427387904) (hb : bndF l) : PC Tryz.prog 11 [sl6 l] (.sc (.int .i64 (if dP (allF l) then 0 else 60))) := by
  have h := fall_pc l hl hb
  cases hx : dP (allF l) <;> rw [hx] at h
  all_goals
    refine PC.of_body Tryz.func11 Tryz.ntmps11 rfl rfl rfl ?_
    repeat' first
      | (apply p1 (hd := rfl); case hop => first | (apply D_move; rfl) | (apply D_assign; rfl) | (apply D_pc h; rfl; exact .same rfl .nil) | (apply D_not; rfl))
      | refine W_seq ?_
      | refine W_region ?_
      | (refine idC ?_; refine cs rfl (fun _ => ?_) (fun _ => ?_))
      | refine WL_nil ?_
      | refine tn ?_
      | refine tr ?_
      | refine W_skip ?_
      | refine W_ret ?_
      | (refine idR ?_; refine ret1 rfl rfl rfl ?_)
      | refine Le.int ?_
      | fail
  all_goals first | rfl | contradiction | simp_all
end Go.Proofs

namespace Go.Proofs
open Go.AL Go.Sort
attribute [local irreducible] Go.AL.W Go.AL.WL Go.AL.WD Go.AL.POp Go.AL.PPOp Go.AL.POpS Go.AL.PC Go.AL.AC Go.AL.YW Go.AL.Ret Go.AL.Le Go.AL.thn Go.AL.inBlk Go.AL.scp
set_option maxHeartbeats 4000000 in
theorem cloneP_pc [GlobF Tryz.prog] (l : List Sp) (hl : l.length < 8796093022208) : PC Tryz.prog 45 [sl2 l] (sl2 l) := by
  refine PC.of_body Tryz.func45 Tryz.ntmps45 rfl rfl rfl ?_
  repeat' first
    | (refine m_slnil rfl rfl ?_; rintro b hb)
    | refine m_lit (d := 5) rfl rfl rfl rfl rfl rfl ?_
    | (apply p1 (hd := rfl); case hop => first | (apply D_move; rfl) | (apply D_assign; rfl))
    | refine W_seq ?_
    | refine W_region ?_
    | (refine idC ?_; refine cs rfl (fun _ => ?_) (fun _ => ?_))
    | refine WL_nil ?_
    | refine tn ?_
    | refine tr ?_
    | refine W_skip ?_
    | refine W_ret ?_
    | (refine idR ?_; refine ret1 rfl rfl rfl ?_)
    | (refine idAp ?_; refine m_app rfl rfl (by first | rfl | assumption | exact get_set (by assumption) | exact get_set (get_set (by assumption)) | exact get_set (get_set (get_set (by assumption))) | ((repeat first | assumption | exact get_last | (refine get_last2 ?_; focus (simp; done)) | apply get_set | apply get_app | (apply get_ne; focus omega)); done)) ?_ rfl rfl ?_ ?_ rfl ?_; (first | rfl | focus (simp only [List.length_map, List.length_append, List.length_cons, List.length_nil]; omega) | focus (simp; done) | focus (simp; omega)); (first | focus (simp only [List.length_map, List.length_append, List.length_cons, List.length_nil]; omega) | focus (simp; done) | focus (simp; omega)); (first | focus (simp only [List.length_map, List.length_append, List.length_cons, List.length_nil]; omega) | focus (simp; done) | focus (simp; omega)))
    | fail
  all_goals first
    | exact Le.tokq rfl
    | (rename_i hb'
       first
         | (have e := hb hb'
            have e : l = [] := by cases l with
              | nil => rfl
              | cons x t => simp at e
            subst e; exact Le.nil rfl)
         | (have e := hb rfl
            have e : l = [] := by cases l with
              | nil => rfl
              | cons x t => simp at e
            subst e; exact Le.nil rfl))
    | skip
  all_goals trace_state
set_option maxHeartbeats 4000000 in
theorem twin_pc [GlobF Tryz.prog] (f : Fac) (hl : f.sp.length < 8796093022208) : PC Tryz.prog 37 [eF f] (eF f) := by
  refine PC.of_body Tryz.func37 Tryz.ntmps37 rfl rfl rfl ?_
  repeat' first
    | (refine m_box (d := 1) rfl rfl rfl ?_)
    | (apply p1 (hd := rfl); case hop => first | (apply D_pc (cloneP_pc f.sp hl); rfl; exact .same rfl .nil) | exact D_fldB rfl)
    | refine W_seq ?_
    | refine W_region ?_
    | refine WL_nil ?_
    | refine tn ?_
    | refine W_ret ?_
    | (refine idR ?_; refine rL1 rfl (by first | exact trivial | exact ⟨rfl, trivial⟩) (by first | exact ResO.tmp rfl | exact ResO.cellBA rfl rfl rfl | exact ResO.cellB1 rfl rfl rfl | exact ResO.cellEA rfl rfl | exact ResO.cellE1 rfl) ?_)
    | (refine idLd ?_; first | refine p1L (D_loadB1 rfl rfl rfl) rfl ?_ | refine p1L (D_loadBA rfl rfl rfl) rfl ?_)
    | (refine idA ?_; refine m_alloc rfl ?_)
    | (refine idS ?_; refine pS (S_store rfl rfl rfl rfl rfl rfl rfl) ?_)
    | fail
  all_goals first | exact Le.of_eq rfl | skip
  all_goals trace_state
noncomputable def atL (l : List Fac) (at_ : Int) : List Fac := l.filter fun f => dP (SetP f.sp ∧ inS f.sp at_)
def bndG (l : List Fac) : Prop := ∀ f, f ∈ l → f.v.s.length < 9223372036854775808 ∧ f.sp.length < 8796093022208
theorem bndG.f {l : List Fac} (h : bndG l) : bndF l := fun f hf => ⟨(h f hf).1, by have := (h f hf).2; omega⟩
set_option maxHeartbeats 8000000 in
theorem fat_pc [GlobF Tryz.prog] (l : List Fac) (at_ : Int) (hl : l.length < 1759218604500) (hb : bndG l) : PC Tryz.prog 12 [sl6 l, .sc (.int .i64 at_)] (.tu [sl6 (if dP (allF l) then atL l at_ else []), .sc (.int .i64 (if dP (allF l) then 0 else 60))]) := by
  have ha := fall_pc l (by omega) hb.f
  cases hx : dP (allF l) <;> rw [hx] at ha
  · refine PC.of_body Tryz.func12 Tryz.ntmps12 rfl rfl rfl ?_
    repeat' first
      | (apply p1 (hd := rfl); case hop => first | (apply D_move; rfl) | (apply D_assign; rfl) | (apply D_pc ha; rfl; exact .same rfl .nil) | (apply D_lenM; rfl) | (apply D_not; rfl))
      | refine W_seq ?_
      | refine W_region ?_
      | (refine idC ?_; refine cs rfl (fun _ => ?_) (fun _ => ?_))
      | refine WL_nil ?_
      | refine tn ?_
      | refine tr ?_
      | refine W_skip ?_
      | refine W_block ?_
      | refine W_ret ?_
      | (refine idR ?_; refine ret2 rfl rfl rfl rfl ?_ ?_)
      | refine Le.int ?_
      | fail
    all_goals first | exact Le.nil rfl | rfl | contradiction | skip
    all_goals trace_state
  · rw [if_pos rfl, if_pos rfl]
    refine PC.of_body Tryz.func12 Tryz.ntmps12 rfl rfl rfl ?_
    repeat' first
      | (apply p1 (hd := rfl); case hop => first | (apply D_move; rfl) | (apply D_assign; rfl) | (apply D_pc ha; rfl; exact .same rfl .nil) | (apply D_lenM; rfl) | (apply D_not; rfl))
      | refine W_seq ?_
      | refine W_region ?_
      | (refine idC ?_; refine cs rfl (fun _ => ?_) (fun _ => ?_))
      | refine WL_nil ?_
      | refine tn ?_
      | refine tr ?_
      | refine W_skip ?_
      | refine W_block ?_
      | refine W_ret ?_
      | (refine idR ?_; refine ret2 rfl rfl rfl rfl ?_ ?_)
      | refine Le.int ?_
      | fail
    all_goals first | contradiction | skip
    refine W_adopt 6 6 42 rfl ?_
    refine W_loopL (X := Nat) (fun i => [(1, .sc (.int .i64 at_)), (6, .sl (some 0) 6 ((atL (l.take i) at_).map fC)), (12, sl6 l), (13, .sc (.int .i64 (l.length : Int))), (14, .sc (.int .i64 (i : Int)))]) (fun i => [.tail (atL (l.take i) at_).length 6 42])
      (fun i => i ≤ l.length) (fun i => l.length - i) 0 (Nat.zero_le _) ⟨rfl, rfl, rfl, rfl, rfl, trivial⟩ rfl ?_
    intro i hi
    have hlen : (atL (l.take i) at_).length ≤ i := Nat.le_trans (List.length_filter_le _ _) (by simp; omega)
    by_cases hil : i < l.length
    · have hs := has_pc (l[i]'hil).sp (by have := (hb _ (List.getElem_mem hil)).2; omega) at_
      have hw := twin_pc (l[i]'hil) (hb _ (List.getElem_mem _)).2
      have hsn : atL (l.take (i + 1)) at_ = atL (l.take i) at_ ++ (if dP (SetP (l[i]'hil).sp ∧ inS (l[i]'hil).sp at_) = true then [l[i]'hil] else []) := by
        unfold atL
        rw [List.take_succ_eq_append_getElem hil, List.filter_append]
        congr 1
        by_cases hb : dP (SetP (l[i]'hil).sp ∧ inS (l[i]'hil).sp at_) = true <;> simp [List.filter_cons, hb]
      generalize atL (l.take i) at_ = O at *
      generalize dP (SetP (l[i]'hil).sp ∧ inS (l[i]'hil).sp at_) = b at *
      cases b
      · rw [if_neg (by decide), List.append_nil] at hsn
        repeat' first
          | (apply p1 (hd := rfl); case hop => first | (apply D_move; rfl) | (apply D_assign; rfl) | (apply D_pc hs; rfl; exact .same rfl (.same rfl .nil)) | (apply D_load1; rfl) | (apply D_fld; rfl) | (apply D_int; rfl; rfl; rfl) | (apply D_loadW; rfl; rfl) | (apply D_idxAn; rfl; rfl; (first | omega | (simp; done))))
          | refine W_seq ?_
          | refine W_region ?_
          | (refine idC ?_; first | refine c0 rfl ?_ | refine cs rfl (fun _ => ?_) (fun _ => ?_))
          | refine WL_nil ?_
          | refine tn ?_
          | refine bn ?_
          | refine te ?_
          | (refine idB ?_; refine bh rfl ?_)
          | refine W_skip ?_
          | refine W_block ?_
          | refine W_exit ?_
          | refine W_ret ?_
          | (refine idR ?_; refine ret2 rfl rfl rfl rfl ?_ ?_)
          | (refine idA ?_; refine m_var rfl rfl rfl rfl rfl rfl rfl ?_)
          | refine Le.int ?_
          | fail
        all_goals first
          | (exfalso; omega)
          | (refine ⟨rfl, i + 1, by omega, by omega, ⟨rfl, ?_, rfl, rfl, ieq (wsucc i (by omega)), trivial⟩, ?_⟩
             · rw [hsn]; rfl
             · rw [hsn])
          | skip
        all_goals trace_state
      · rw [if_pos rfl] at hsn
        repeat' first
          | (apply p1 (hd := rfl); case hop => first | (apply D_move; rfl) | (apply D_assign; rfl) | (apply D_pc hs; rfl; exact .same rfl (.same rfl .nil)) | (apply D_pc hw; rfl; exact .same rfl .nil) | (apply D_load1; rfl) | (apply D_fld; rfl) | (apply D_int; rfl; rfl; rfl) | (apply D_loadW; rfl; rfl) | (apply D_idxAn; rfl; rfl; (first | omega | (simp; done))) | (apply D_lit; rfl; rfl; rfl; rfl))
          | refine W_seq ?_
          | refine W_region ?_
          | (refine idC ?_; first | refine c1 rfl ?_ | refine cs rfl (fun _ => ?_) (fun _ => ?_))
          | refine WL_nil ?_
          | refine tn ?_
          | refine bn ?_
          | refine te ?_
          | (refine idB ?_; refine bh rfl ?_)
          | refine W_skip ?_
          | refine W_block ?_
          | refine W_exit ?_
          | refine W_ret ?_
          | (refine idR ?_; refine ret2 rfl rfl rfl rfl ?_ ?_)
          | (refine idA ?_; refine m_var rfl rfl rfl rfl rfl rfl rfl ?_)
          | refine Le.int ?_
          | (refine idAp ?_; refine m_app rfl rfl (by first | rfl | assumption | exact get_set (by assumption) | exact get_set (get_set (by assumption)) | exact get_set (get_set (get_set (by assumption))) | ((repeat first | assumption | exact get_last | (refine get_last2 ?_; focus (simp; done)) | apply get_set | apply get_app | (apply get_ne; focus omega)); done)) ?_ rfl rfl ?_ ?_ rfl ?_; (first | rfl | focus (simp only [List.length_map, List.length_append, List.length_cons, List.length_nil]; omega) | focus (simp; done) | focus (simp; omega)); (first | focus (simp only [List.length_map, List.length_append, List.length_cons, List.length_nil]; omega) | focus (simp; done) | focus (simp; omega)); (first | focus (simp only [List.length_map, List.length_append, List.length_cons, List.length_nil]; omega) | focus (simp; done) | focus (simp; omega)))
          | fail
        all_goals first
          | (exfalso; omega)
          | (refine ⟨rfl, i + 1, by omega, by omega, ⟨rfl, ?_, rfl, rfl, ieq (wsucc i (by omega)), trivial⟩, ?_⟩
             · rw [hsn, List.map_append]; rfl
             · rw [hsn, List.length_append, ← List.length_map (f := fC)]; rfl)
          | skip
        all_goals trace_state
    · have e : i = l.length := by omega
      subst e
      rw [List.take_length] at hlen ⊢
      repeat' first
        | (apply p1 (hd := rfl); case hop => first | (apply D_move; rfl) | (apply D_assign; rfl) | (apply D_load1; rfl) | (apply D_fld; rfl) | (apply D_int; rfl; rfl; rfl) | (apply D_loadW; rfl; rfl) | (apply D_idxAn; rfl; rfl; (first | omega | (simp; done))))
        | refine W_seq ?_
        | refine W_region ?_
        | (refine idC ?_; refine cs rfl (fun _ => ?_) (fun _ => ?_))
        | refine WL_nil ?_
        | refine tn ?_
        | refine te ?_
        | (refine idB ?_; refine bh rfl ?_)
        | refine W_skip ?_
        | refine W_block ?_
        | refine W_exit ?_
        | refine W_ret ?_
        | (refine idR ?_; refine ret2 rfl rfl rfl rfl ?_ ?_)
        | (refine idA ?_; refine m_var rfl rfl rfl rfl rfl rfl rfl ?_)
        | refine Le.int ?_
        | fail
      all_goals first
        | (exfalso; omega)
        | exact Le.tokq rfl
        | rfl
        | skip
      all_goals trace_state
end Go.Proofs

namespace Go.Proofs
open Go.AL Go.Sort
attribute [local irreducible] Go.AL.W Go.AL.WL Go.AL.WD Go.AL.POp Go.AL.PPOp Go.AL.POpS Go.AL.PC Go.AL.AC Go.AL.YW Go.AL.Ret Go.AL.Le Go.AL.thn Go.AL.inBlk Go.AL.scp
theorem wc_cmpF : WC cmpF := by
  have e : cmpF = fun a b => if cmpI a.e b.e = 0 then (if cmpI a.a b.a = 0 then cmpV a.v b.v else cmpI a.a b.a) else cmpI a.e b.e := by
    funext a b
    simp only [cmpF, orI]
    split
    · split
      · split
        · rename_i h; exact h.symm
        · rfl
      · rfl
    · rfl
  rw [e]
  exact (wc_cmpI.comap Fac.e).lex ((wc_cmpI.comap Fac.a).lex (wc_cmpV.comap Fac.v))
theorem cmpF_z (a b : Fac) : cmpF a b = 0 ↔ a.e = b.e ∧ a.a = b.a ∧ a.v = b.v := by
  simp only [cmpF, orI]
  constructor
  · intro h
    split at h
    · rename_i h1
      split at h
      · rename_i h2
        split at h
        · rename_i h3; exact ⟨(cmpI_z _ _).1 h1, (cmpI_z _ _).1 h2, (cmpV_z _ _).1 h3⟩
        · contradiction
      · contradiction
    · contradiction
  · rintro ⟨h1, h2, h3⟩
    rw [if_pos ((cmpI_z _ _).2 h1), if_pos ((cmpI_z _ _).2 h2), if_pos ((cmpV_z _ _).2 h3)]
def riseF (l : List Fac) : Prop := l.Pairwise fun a b => cmpF a b < 0
theorem allF_rise {l : List Fac} (h : allF l) : riseF l := by
  refine List.pairwise_iff_getElem.2 fun i j hi hj hij => ?_
  induction j with
  | zero => omega
  | succ j ih =>
    have hs := (h (j + 1) hj hj).2 (by omega)
    simp only [Nat.add_sub_cancel] at hs
    rcases Nat.lt_or_ge i j with h1 | h1
    · have := ih (by omega) h1
      exact wc_cmpF.lt (by omega) (by omega : cmpF l[j] l[j + 1] ≤ 0) (.inl this)
    · have e : i = j := by omega
      subst e; exact hs
open Classical in
noncomputable def findL (l : List Fac) (f : Fac) : List Sp := ((l.find? fun g => decide (cmpF g f = 0)).map Fac.sp).getD []
theorem find_at {α : Type} {p : α → Bool} : ∀ (l : List α) (i : Nat) (h : i < l.length), (∀ (j : Nat) (h : j < l.length), j < i → p l[j] = false) → p l[i] = true → l.find? p = some l[i]
  | x :: l, 0, _, _, h => by simp at h; simp [List.find?, h]
  | x :: l, i + 1, hi, h0, h => by
    have h1 := h0 0 (by simp) (by omega)
    simp at h1
    have := find_at l i (by simpa using hi) (fun j hj hji => by have := h0 (j + 1) (by simpa using hj) (by omega); simpa using this) (by simpa using h)
    simp only [List.find?, h1, List.getElem_cons_succ]; exact this
theorem find_no {α : Type} {p : α → Bool} {l : List α} (h : ∀ (j : Nat) (h : j < l.length), p l[j] = false) : l.find? p = none := by
  rw [List.find?_eq_none]
  intro x hx
  obtain ⟨j, hj, rfl⟩ := List.getElem_of_mem hx
  simp [h j hj]
set_option maxHeartbeats 16000000 in
theorem search_pc [GlobF Tryz.prog] (l : List Fac) (f : Fac) (hl : l.length < 1759218604500) (hr : riseF l) :
    ∃ lo : Nat, lo ≤ l.length ∧ (∀ (j : Nat) (h : j < l.length), j < lo → cmpF l[j] f < 0) ∧ (∀ (j : Nat) (h : j < l.length), lo ≤ j → ¬ cmpF l[j] f < 0) ∧
      PC Tryz.prog 43 [sl6 l, eF f, .sc (.func (.func 44) #[] #[])] (.tu [.sc (.int .i64 (lo : Int)), .sc (.bool (dP (∃ h : lo < l.length, cmpF l[lo] f = 0)))]) := by
  obtain ⟨L, hL1, hL2, hL3⟩ : ∃ lo : Nat, lo ≤ l.length ∧ (∀ (j : Nat) (h : j < l.length), j < lo → cmpF l[j] f < 0) ∧ (∀ (j : Nat) (h : j < l.length), lo ≤ j → ¬ cmpF l[j] f < 0) := by
    have hp := List.pairwise_iff_getElem.1 hr
    obtain ⟨n, hn, hmin⟩ := least (fun n => n = l.length ∨ ∃ h : n < l.length, ¬ cmpF l[n] f < 0) ⟨l.length, .inl rfl⟩
    have hnl : n ≤ l.length := hmin _ (.inl rfl)
    refine ⟨n, hnl, fun j hj hjn => Classical.byContradiction fun h => absurd (hmin j (.inr ⟨hj, h⟩)) (by omega), fun j hj hjn h => ?_⟩
    rcases hn with e | ⟨hn, h2⟩
    · omega
    · rcases Nat.eq_or_lt_of_le hjn with e | e
      · subst e; exact h2 h
      · exact h2 (wc_cmpF.lt (by have := hp n j hn hj e; omega) (by omega : cmpF l[j] f ≤ 0) (.inr h))
  refine ⟨L, hL1, hL2, hL3, ?_⟩
  refine PC.of_body Tryz.func43 Tryz.ntmps43 rfl rfl rfl ?_
  repeat' first
    | (apply p1 (hd := rfl); case hop => first | (apply D_move; rfl) | (apply D_assign; rfl) | (apply D_lenM; rfl) | (apply D_box; rfl; rfl))
    | refine W_seq ?_
    | refine W_region ?_
    | refine WL_nil ?_
    | refine tn ?_
    | refine W_block ?_
    | fail
  refine W_loopL (X := Nat × Nat) (fun x => [(0, sl6 l), (2, .sc (.func (.func 44) #[] #[])), (4, .ep (fC f)), (8, .sc (.int .i64 (l.length : Int))), (9, .sc (.int .i64 (x.1 : Int))), (10, .sc (.int .i64 (x.2 : Int)))]) (fun _ => [])
    (fun x => x.1 ≤ L ∧ L ≤ x.2 ∧ x.2 ≤ l.length) (fun x => x.2 - x.1) (0, l.length) ⟨Nat.zero_le _, hL1, Nat.le_refl _⟩ ⟨rfl, rfl, rfl, rfl, rfl, rfl, trivial⟩ rfl ?_
  rintro ⟨lo, hi⟩ ⟨h1, h2, h3⟩
  simp only at h1 h2 h3 ⊢
  by_cases hlt : lo < hi
  · have hm : (lo + hi) / 2 < l.length := by omega
    have f1 : Value.int .i64 (IntKind.i64.wrap ((lo : Int) + (hi : Int))) = .int .i64 ((lo + hi : Nat) : Int) := by rw [w64 _ (by omega) (by omega)]; rfl
    have f2 : Value.int .u64 (IntKind.u64.wrap ((lo + hi : Nat) : Int)) = .int .u64 ((lo + hi : Nat) : Int) := by rw [u64w _ (by omega)]
    have f3 : Value.int .u64 (((lo + hi : Nat) : Int).fdiv (2 ^ (min (1 : Int).toNat IntKind.u64.bits))) = .int .u64 (((lo + hi) / 2 : Nat) : Int) := by
      have : (2 : Int) ^ (min (1 : Int).toNat IntKind.u64.bits) = 2 := by decide
      rw [this, Int.fdiv_eq_ediv_of_nonneg _ (by omega)]; rfl
    have f4 : Value.int .i64 (IntKind.i64.wrap (((lo + hi) / 2 : Nat) : Int)) = .int .i64 (((lo + hi) / 2 : Nat) : Int) := by rw [w64 _ (by omega) (by omega)]
    have hc := fcompare_pc (l[(lo + hi) / 2]'hm) f
    have hA := hL2 ((lo + hi) / 2) hm
    have hB := hL3 ((lo + hi) / 2) hm
    generalize hmd : (lo + hi) / 2 = m at *
    repeat' first
      | (apply p1 (hd := rfl); case hop => first | (apply D_move; rfl) | (apply D_assign; rfl) | exact D_sc (D_int rfl rfl rfl) f1 | exact D_sc (D_conv_int rfl) f2 | exact D_sc (D_shr rfl rfl (by decide)) f3 | exact D_sc (D_conv_int rfl) f4 | (apply D_int; rfl; rfl; rfl))
      | refine W_seq ?_
      | refine W_region ?_
      | (refine idC ?_; refine cs rfl (fun _ => ?_) (fun _ => ?_))
      | refine WL_nil ?_
      | refine tn ?_
      | refine bn ?_
      | refine te ?_
      | (refine idB ?_; refine bh rfl ?_)
      | refine W_skip ?_
      | refine W_block ?_
      | refine W_exit ?_
      | refine W_ret ?_
      | (refine idR ?_; refine ret2 rfl rfl rfl rfl ?_ ?_)
      | refine Le.bool ?_
      | refine Le.int ?_
      | (refine idW ?_; refine W_draw0 rfl ?_)
      | (apply d1 (hd := rfl); case hop => first | (apply D_move; rfl) | (apply D_assign; rfl) | (apply D_pc hc; rfl; exact .same rfl (.same rfl .nil)) | (apply D_pickF; rfl; rfl) | (apply D_int; rfl; rfl; rfl) | (apply D_loadW; rfl; rfl) | (apply D_idxAn; rfl; rfl; (first | omega | (simp; done))))
      | (refine idDg ?_; first | refine dg0t rfl rfl rfl ?_ | refine dgr rfl rfl ?_ | refine dgs rfl rfl (fun _ => ?_) (fun _ => ?_))
      | refine WD_nil (by first | decide +kernel | kernel_rfl | rfl) ?_
      | fail
    all_goals first
      | (exfalso; omega)
      | exact ⟨rfl, (m + 1, hi), ⟨by simp only []; omega, h2, h3⟩, by simp only []; omega, ⟨rfl, rfl, rfl, rfl, ieq (wsucc m (by omega)), rfl, trivial⟩, rfl⟩
      | exact ⟨rfl, (lo, m), ⟨h1, by simp only []; omega, by simp only []; omega⟩, by simp only []; omega, ⟨rfl, rfl, rfl, rfl, rfl, rfl, trivial⟩, rfl⟩
      | skip
    all_goals trace_state
  · have e1 : lo = L := by omega
    subst e1
    by_cases hln : lo < l.length
    · have hc := fcompare_pc (l[lo]'hln) f
      repeat' first
        | (apply p1 (hd := rfl); case hop => first | (apply D_move; rfl) | (apply D_assign; rfl) | (apply D_int; rfl; rfl; rfl) | (apply D_conv_int; rfl) | (apply D_shr; rfl; rfl; first | omega | ((repeat rw [w64 _ (by omega) (by omega)]); omega) | decide))
        | refine W_seq ?_
        | refine W_region ?_
        | (refine idC ?_; refine cs rfl (fun _ => ?_) (fun _ => ?_))
        | refine WL_nil ?_
        | refine tn ?_
        | refine te ?_
        | (refine idB ?_; refine bh rfl ?_)
        | refine W_skip ?_
        | refine W_block ?_
        | refine W_exit ?_
        | refine W_ret ?_
        | (refine idR ?_; refine ret2 rfl rfl rfl rfl ?_ ?_)
        | refine Le.bool ?_
        | refine Le.int ?_
        | (refine idW ?_; refine W_draw0 rfl ?_)
        | (apply d1 (hd := rfl); case hop => first | (apply D_move; rfl) | (apply D_assign; rfl) | (apply D_pc hc; rfl; exact .same rfl (.same rfl .nil)) | (apply D_pickT; rfl; rfl) | (apply D_pickF; rfl; rfl) | (apply D_int; rfl; rfl; rfl) | (apply D_loadW; rfl; rfl) | (apply D_idxAn; rfl; rfl; (first | omega | (simp; done))) | (apply D_idxA; rfl; rfl; omega; (first | omega | (simp; done) | (simp; omega))))
        | (refine idDg ?_; first | refine dg0t rfl rfl rfl ?_ | refine dgr rfl rfl ?_ | refine dgs rfl rfl (fun _ => ?_) (fun _ => ?_))
        | refine WD_nil (by first | decide +kernel | kernel_rfl | rfl) ?_
        | fail
      all_goals first
        | (exfalso; omega)
        | (refine dP_eq ?_; rw [iEq_t]; exact ⟨fun e => ⟨hln, e⟩, fun ⟨_, e⟩ => e⟩)
        | rfl
        | skip
      all_goals trace_state
    · repeat' first
        | (apply p1 (hd := rfl); case hop => first | (apply D_move; rfl) | (apply D_assign; rfl) | (apply D_int; rfl; rfl; rfl) | (apply D_conv_int; rfl) | (apply D_shr; rfl; rfl; first | omega | ((repeat rw [w64 _ (by omega) (by omega)]); omega) | decide))
        | refine W_seq ?_
        | refine W_region ?_
        | (refine idC ?_; refine cs rfl (fun _ => ?_) (fun _ => ?_))
        | refine WL_nil ?_
        | refine tn ?_
        | refine te ?_
        | (refine idB ?_; refine bh rfl ?_)
        | refine W_skip ?_
        | refine W_block ?_
        | refine W_exit ?_
        | refine W_ret ?_
        | (refine idR ?_; refine ret2 rfl rfl rfl rfl ?_ ?_)
        | refine Le.bool ?_
        | refine Le.int ?_
        | (refine idW ?_; refine W_draw0 rfl ?_)
        | (apply d1 (hd := rfl); case hop => first | (apply D_move; rfl) | (apply D_assign; rfl) | (apply D_pickF; rfl; rfl) | (apply D_int; rfl; rfl; rfl) | (apply D_loadW; rfl; rfl) | (apply D_idxAn; rfl; rfl; (first | omega | (simp; done))) | (apply D_idxA; rfl; rfl; omega; (first | omega | (simp; done) | (simp; omega))))
        | (refine idDg ?_; first | refine dg0t rfl rfl rfl ?_ | refine dgr rfl rfl ?_ | refine dgs rfl rfl (fun _ => ?_) (fun _ => ?_))
        | refine WD_nil (by first | decide +kernel | kernel_rfl | rfl) ?_
        | fail
      all_goals first
        | (exfalso; omega)
        | exact dP_F fun ⟨h, _⟩ => hln h
        | rfl
        | skip
      all_goals trace_state
theorem leF (e a k n : Int) (s : List UInt8) : Le (.ag [.sc (.int .i64 e), .sc (.int .i64 a), .sc (.int .i64 k), .sc (.int .i64 n), str s, .sc (.slice none 0 0)]) (.ag [.sc (.int .i64 e), .sc (.int .i64 a), .sc (.int .i64 k), .sc (.int .i64 n), str s, sl2 []]) :=
  leAg ⟨Le.of_eq rfl, Le.of_eq rfl, Le.of_eq rfl, Le.of_eq rfl, Le.of_eq rfl, Le.nil rfl, trivial⟩
set_option maxHeartbeats 8000000 in
theorem fspans_pc [GlobF Tryz.prog] (l : List Fac) (f : Fac) (hl : l.length < 1759218604500) (hb : bndG l) : PC Tryz.prog 18 [sl6 l, .sc (.int .i64 f.e), .sc (.int .i64 f.a), eV f.v] (.tu [sl2 (if dP (allF l) then findL l f else []), .sc (.int .i64 (if dP (allF l) then 0 else 60))]) := by
  have ha := fall_pc l (by omega) hb.f
  by_cases hx : allF l
  · rw [← dP_T hx] at ha
    rw [← dP_T hx, if_pos rfl, if_pos rfl]
    have hr := allF_rise hx
    obtain ⟨lo, k1, k2, k3, k4⟩ := search_pc l ⟨f.e, f.a, f.v, []⟩ hl hr
    have ek : ∀ g, cmpF g ⟨f.e, f.a, f.v, []⟩ = cmpF g f := fun g => rfl
    simp only [ek] at k2 k3 k4
    have k4 : PC Tryz.prog 43 [sl6 l, .ag [.sc (.int .i64 f.e), .sc (.int .i64 f.a), .sc (.int .i64 f.v.kind), .sc (.int .i64 f.v.n), str f.v.s, sl2 []], .sc (.func (.func 44) #[] #[])] _ := k4
    by_cases hq : ∃ h : lo < l.length, cmpF l[lo] f = 0
    · obtain ⟨hlo, hz⟩ := hq
      rw [← dP_T ⟨hlo, hz⟩] at k4
      have hf : findL l f = (l[lo]'hlo).sp := by
        unfold findL
        rw [find_at l lo hlo (fun j hj hjl => by have := k2 j hj hjl; simp; omega) (by simp [hz])]; rfl
      have hcl := cloneP_pc (l[lo]'hlo).sp (hb _ (List.getElem_mem _)).2
      rw [hf]
      refine PC.of_body Tryz.func18 Tryz.ntmps18 rfl rfl rfl ?_
      repeat' first
        | (apply p1 (hd := rfl); case hop => first | (apply D_move; rfl) | (apply D_assign; rfl) | (apply D_pc ha; rfl; exact .same rfl .nil) | (apply D_pc k4; rfl; exact .same rfl (.cons rfl (leF f.e f.a f.v.kind f.v.n f.v.s) (.same rfl .nil))) | (apply D_pc hcl; rfl; exact .same rfl .nil) | (apply D_load1; rfl) | (apply D_fld; rfl) | (apply D_ext; rfl; rfl) | (apply D_not; rfl) | (apply D_loadW; rfl; rfl) | (apply D_box; rfl; rfl) | (apply D_idxAn; rfl; rfl; (first | omega | (simp; done))) | exact D_build rfl)
        | refine W_seq ?_
        | refine W_region ?_
        | (refine idC ?_; refine cs rfl (fun _ => ?_) (fun _ => ?_))
        | refine WL_nil ?_
        | refine tn ?_
        | refine tr ?_
        | refine W_skip ?_
        | refine W_ret ?_
        | (refine idR ?_; refine ret2 rfl rfl rfl rfl ?_ ?_)
        | refine Le.int ?_
        | fail
      all_goals first | contradiction | exact Le.of_eq rfl | exact Le.nil rfl | rfl | skip
      all_goals trace_state
    · rw [← dP_F hq] at k4
      have hf : findL l f = [] := by
        unfold findL
        rw [find_no fun j hj => ?_]; rfl
        rcases Nat.lt_or_ge j lo with h | h
        · have := k2 j hj h; simp; omega
        · rcases Nat.eq_or_lt_of_le h with e | e
          · subst e; simp; exact fun e => hq ⟨hj, e⟩
          · have h1 := List.pairwise_iff_getElem.1 hr lo j (by omega) hj e
            have h2 := k3 lo (by omega) (Nat.le_refl _)
            have h4 := k3 j hj h
            simp
            intro e0
            have := wc_cmpF.lt (by omega : cmpF l[lo] l[j] ≤ 0) (by omega : cmpF l[j] f ≤ 0) (.inl h1)
            exact h2 this
      rw [hf]
      refine PC.of_body Tryz.func18 Tryz.ntmps18 rfl rfl rfl ?_
      repeat' first
        | (apply p1 (hd := rfl); case hop => first | (apply D_move; rfl) | (apply D_assign; rfl) | (apply D_pc ha; rfl; exact .same rfl .nil) | (apply D_pc k4; rfl; exact .same rfl (.cons rfl (leF f.e f.a f.v.kind f.v.n f.v.s) (.same rfl .nil))) | (apply D_ext; rfl; rfl) | (apply D_not; rfl) | (apply D_loadW; rfl; rfl) | (apply D_box; rfl; rfl) | exact D_build rfl)
        | refine W_seq ?_
        | refine W_region ?_
        | (refine idC ?_; refine cs rfl (fun _ => ?_) (fun _ => ?_))
        | refine WL_nil ?_
        | refine tn ?_
        | refine tr ?_
        | refine W_skip ?_
        | refine W_ret ?_
        | (refine idR ?_; refine ret2 rfl rfl rfl rfl ?_ ?_)
        | refine Le.int ?_
        | fail
      all_goals first | contradiction | exact Le.nil rfl | rfl | skip
      all_goals trace_state
  · rw [← dP_F hx] at ha
    rw [← dP_F hx]
    refine PC.of_body Tryz.func18 Tryz.ntmps18 rfl rfl rfl ?_
    repeat' first
      | (apply p1 (hd := rfl); case hop => first | (apply D_move; rfl) | (apply D_assign; rfl) | (apply D_pc ha; rfl; exact .same rfl .nil) | (apply D_not; rfl) | (apply D_loadW; rfl; rfl) | (apply D_box; rfl; rfl) | exact D_build rfl)
      | refine W_seq ?_
      | refine W_region ?_
      | (refine idC ?_; refine cs rfl (fun _ => ?_) (fun _ => ?_))
      | refine WL_nil ?_
      | refine tn ?_
      | refine tr ?_
      | refine W_skip ?_
      | refine W_ret ?_
      | (refine idR ?_; refine ret2 rfl rfl rfl rfl ?_ ?_)
      | refine Le.int ?_
      | fail
    all_goals first | exact Le.nil rfl | rfl | contradiction | skip
    all_goals trace_state
end Go.Proofs
