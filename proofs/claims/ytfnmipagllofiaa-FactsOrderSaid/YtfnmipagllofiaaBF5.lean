/- The statement FactsOrder. -/
import Derived.Test.YtfnmipagllofiaaBF4
namespace Go.Proofs
open Go.AL Go.Sort
attribute [local irreducible] Go.AL.W Go.AL.WL Go.AL.WD Go.AL.POp Go.AL.PPOp Go.AL.POpS Go.AL.PC Go.AL.AC Go.AL.YW Go.AL.Ret Go.AL.Le Go.AL.thn Go.AL.inBlk Go.AL.scp

theorem grpL_flat (p : Dat → Dat → Prop) : ∀ (n : Nat) (l : List Dat), l.length ≤ n → (grpL p l).flatten = l ∧ ∀ g, g ∈ grpL p l → 0 < g.length
  | _, [], _ => by rw [grpL_nil]; exact ⟨rfl, fun g h => by simp at h⟩
  | 0, _ :: _, h => by simp at h
  | n + 1, d :: l, h => by
    have hd := (List.dropWhile_sublist (p := tst p d) (l := l)).length_le
    obtain ⟨h1, h2⟩ := grpL_flat p n (l.dropWhile (tst p d)) (by simp at h; omega)
    rw [grpL_cons]
    refine ⟨?_, fun g hg => ?_⟩
    · rw [List.flatten_cons, h1, List.cons_append, List.takeWhile_append_dropWhile]
    · rcases List.mem_cons.1 hg with rfl | hg
      · simp
      · exact h2 g hg
theorem foldT_len : ∀ (xs : List (List Dat)) (now sp : List Sp), foldT now xs = some sp → (∀ x, x ∈ xs → 0 < x.length) → sp.length ≤ now.length + 2 * xs.flatten.length
  | [], now, sp, h, _ => by simp [foldT] at h; subst h; omega
  | x :: xs, now, sp, h, hp => by
    rw [foldT_cons] at h
    split at h
    · have := foldT_len xs _ sp h fun y hy => hp y (List.mem_cons_of_mem _ hy)
      have h1 := tn_len now x
      have h2 := hp x List.mem_cons_self
      rw [List.flatten_cons, List.length_append]; omega
    · cases h
theorem foldG_len : ∀ (gs : List (List Dat)) (F : List Fac), foldG gs = some F → (∀ g, g ∈ gs → 0 < g.length) → F.length ≤ gs.flatten.length ∧ ∀ f, f ∈ F → f.sp.length ≤ 2 * gs.flatten.length
  | [], F, h, _ => by simp [foldG] at h; subst h; exact ⟨Nat.zero_le _, fun f hf => by simp at hf⟩
  | g :: gs, F, h, hp => by
    have hg := hp g List.mem_cons_self
    simp only [foldG] at h
    cases h1 : foldT [] (grpL (grP false) g) with
    | none => simp [h1] at h
    | some sp =>
      cases h2 : foldG gs with
      | none => simp [h1, h2] at h
      | some r =>
        simp only [h1, h2, Option.some.injEq] at h
        obtain ⟨k1, k2⟩ := foldG_len gs r h2 fun y hy => hp y (List.mem_cons_of_mem _ hy)
        obtain ⟨f1, f2⟩ := grpL_flat (grP false) g.length g (Nat.le_refl _)
        have k3 := foldT_len _ _ _ h1 f2
        rw [f1] at k3
        simp only [List.length_nil, Nat.zero_add] at k3
        rw [List.flatten_cons, List.length_append]
        subst h
        by_cases hs : sp.length = 0
        · rw [if_pos hs]
          exact ⟨by rw [List.nil_append]; omega, fun f hf => by have := k2 f hf; omega⟩
        · rw [if_neg hs]
          refine ⟨by rw [List.length_append, List.length_singleton]; omega, fun f hf => ?_⟩
          rcases List.mem_append.1 hf with hf | hf
          · rw [List.mem_singleton.1 hf]; show sp.length ≤ _; omega
          · have := k2 f hf; omega
theorem foldR_len (l : List Dat) : ((foldR l).getD []).length ≤ l.length ∧ ∀ f, f ∈ (foldR l).getD [] → f.sp.length ≤ 2 * l.length := by
  unfold foldR
  split
  · cases h : foldG (grpL (grP true) (dsortL 1 l)) with
    | none => exact ⟨Nat.zero_le _, fun f hf => by simp at hf⟩
    | some F =>
      obtain ⟨f1, f2⟩ := grpL_flat (grP true) _ (dsortL 1 l) (Nat.le_refl _)
      obtain ⟨k1, k2⟩ := foldG_len _ _ h f2
      rw [f1] at k1 k2
      have := dsortL_len 1 l
      exact ⟨by simp; omega, fun f hf => by have := k2 f (by simpa using hf); omega⟩
  · exact ⟨Nat.zero_le _, fun f hf => by simp at hf⟩
/-- The list from behind, turned about. -/
def turnL (l : List Dat) (n c : Nat) : List Dat := (List.range (l.length - c)).map fun j => l.getD ((l.length - 1 - j + n) % l.length) dat0
theorem turnL_len (l : List Dat) (n c : Nat) : (turnL l n c).length = l.length - c := by simp [turnL]
theorem turnL_full (l : List Dat) (n : Nat) : turnL l n l.length = [] := by simp [turnL]
theorem turnL_step (l : List Dat) (n c : Nat) (h : c < l.length) : turnL l n c = turnL l n (c + 1) ++ [l[(c + n) % l.length]'(Nat.mod_lt _ (by omega))] := by
  unfold turnL
  rw [show l.length - c = (l.length - (c + 1)) + 1 by omega, List.range_succ, List.map_append]
  congr 1
  simp only [List.map_cons, List.map_nil]
  rw [show l.length - 1 - (l.length - (c + 1)) + n = c + n by omega]
  rw [List.getD_eq_getElem?_getD, List.getElem?_eq_getElem (Nat.mod_lt _ (by omega))]; rfl
theorem turnL_mem (l : List Dat) (n : Nat) (hn : n < l.length) (d : Dat) : d ∈ turnL l n 0 ++ [l[n]] ↔ d ∈ l := by
  constructor
  · intro h
    rcases List.mem_append.1 h with h | h
    · unfold turnL at h
      obtain ⟨j, _, rfl⟩ := List.mem_map.1 h
      rw [List.getD_eq_getElem?_getD, List.getElem?_eq_getElem (Nat.mod_lt _ (by omega))]
      exact List.getElem_mem _
    · rw [List.mem_singleton.1 h]; exact List.getElem_mem _
  · intro h
    obtain ⟨k, hk, rfl⟩ := List.getElem_of_mem h
    refine List.mem_append_left _ (List.mem_map.2 ⟨l.length - 1 - (k + l.length - n) % l.length, by simp; omega, ?_⟩)
    have h1 : (k + l.length - n) % l.length < l.length := Nat.mod_lt _ (by omega)
    rw [show l.length - 1 - (l.length - 1 - (k + l.length - n) % l.length) = (k + l.length - n) % l.length by omega]
    have h2 : ((k + l.length - n) % l.length + n) % l.length = k := by
      rw [Nat.mod_add_mod, show k + l.length - n + n = k + l.length by omega, Nat.add_mod_right, Nat.mod_eq_of_lt hk]
    rw [h2, List.getD_eq_getElem?_getD, List.getElem?_eq_getElem hk]; rfl
set_option maxHeartbeats 32000000 in
theorem factsOrder_core [GlobF Try.prog] (l : List Dat) (by_ : Int) (h1 : -9223372036854775808 ≤ by_) (h2 : by_ ≤ 9223372036854775807) (hl : l.length < 1759218604442) (hl0 : 0 < l.length) (hsl : ∀ d, d ∈ l → d.v.s.length < 9223372036854775808) (hrg : rgD l) (hgr : ¬ 4000 < grS 0 l) :
    PC Try.prog 6 [sl9 l, .sc (.int .i64 by_)] (.sc (.bool true)) := by
  have hg := great_pc l (by omega)
  rw [if_neg hgr] at hg
  have hb1 : -(l.length : Int) < by_.tmod l.length ∧ by_.tmod l.length < l.length := by
    constructor
    · have := Int.lt_tmod_of_pos by_ (b := (l.length : Int)) (by omega); omega
    · have := Int.tmod_lt_of_pos by_ (b := (l.length : Int)) (by omega); omega
  obtain ⟨M, hM⟩ : ∃ M : Nat, (M : Int) = by_.tmod l.length + l.length := ⟨(by_.tmod l.length + l.length).toNat, by omega⟩
  have hw1 : Value.int .i64 (IntKind.i64.wrap (by_.tmod l.length + l.length)) = .int .i64 (M : Int) := by rw [w64 _ (by omega) (by omega), hM]
  obtain ⟨n, hn⟩ : ∃ n, n = M % l.length := ⟨_, rfl⟩
  have hnl : n < l.length := by rw [hn]; exact Nat.mod_lt _ hl0
  have hw2 : Value.int .i64 ((M : Int).tmod l.length) = .int .i64 (n : Int) := by
    rw [Int.tmod_eq_emod_of_nonneg (by omega), hn]; rfl
  have hr1 : (l.length : Int) ≠ 0 := by omega
  have hw3 : Value.int .i64 (IntKind.i64.wrap ((l.length : Int) - 1)) = .int .i64 ((l.length : Int) - 1) := by rw [w64 _ (by omega) (by omega)]
  have hfl := fold_pc l (by omega) hsl hrg
  have hml : ∀ d, d ∈ turnL l n 0 ++ [l[n]] → d ∈ l := fun d hd => (turnL_mem l n hnl d).1 hd
  have hfm := fold_pc (turnL l n 0 ++ [l[n]]) (by rw [List.length_append, turnL_len]; simp; omega) (fun d hd => hsl d (hml d hd)) (fun d hd => hrg d (hml d hd))
  rw [foldR_ext (turnL_mem l n hnl)] at hfm
  have hfm : PC Try.prog 23 [.sl none 9 ((turnL l n 0).map dC ++ [dC l[n]])] (.tu [sl6 ((foldR l).getD []), .sc (.int .i64 (if (foldR l).isSome then 0 else 60))]) := by
    have e : (turnL l n 0).map dC ++ [dC l[n]] = (turnL l n 0 ++ [l[n]]).map dC := by simp
    rw [e]; exact hfm
  obtain ⟨fl1, fl2⟩ := foldR_len l
  have hsm := fsame_pc ((foldR l).getD []) ((foldR l).getD []) (by omega) (fun f hf => by have := fl2 f hf; omega)
  rw [← dP_T rfl] at hsm
  generalize (foldR l).getD [] = F at *
  generalize (if (foldR l).isSome then (0 : Int) else 60) = er at *
  have hee : Value.bool (iEq er er) = .bool true := by rw [(iEq_t _ _).mpr rfl]
  have hll : Value.bool (iEq (l.length : Int) 0) = .bool false := by rw [(iEq_f _ _).mpr (by omega)]
  have h00 : Value.bool (iLt 0 0) = .bool false := by rw [(iLt_f _ _).mpr (by omega)]
  have hnt : Value.bool (bNot true) = .bool false := by simp [bNot]
  refine PC.of_body Try.func6 Try.ntmps6 rfl rfl rfl ?_
  repeat' first
    | (apply p1 (hd := rfl); case hop => first | (apply D_move; rfl) | (apply D_assign; rfl) | (apply D_pc falive_pc; rfl; exact .nil) | (apply D_pc hg; rfl; exact .same rfl .nil) | exact D_sc (D_int rfl rfl rfl) h00 | exact D_sc (D_int rfl rfl rfl) hll | exact D_sc (D_not rfl) hnt | exact D_sc (D_int rfl rfl rfl) hw1 | exact D_sc (D_rem rfl rfl hr1) hw2 | exact D_rem rfl rfl hr1 | exact D_sc (D_int rfl rfl rfl) hw3 | (apply D_load1; rfl) | (apply D_pickT; rfl; rfl) | (apply D_pickF; rfl; rfl) | (apply D_int; rfl; rfl; rfl) | (apply D_lenM; rfl) | (apply D_len_sl; rfl) | (apply D_ext; rfl; rfl) | (apply D_not; rfl) | (apply D_loadW; rfl; rfl) | (apply D_loadA; rfl; rfl) | (apply D_len_nil; rfl) | (apply D_idxAn; rfl; rfl; (first | omega | (simp; done))) | (apply D_idxA; rfl; rfl; omega; (first | omega | (simp; done) | (simp; omega))) | (apply D_idxA0; rfl; rfl; omega; (first | omega | (simp; done) | (simp; omega))) | (apply D_lit; rfl; rfl; rfl; rfl) | (apply D_lenR; rfl) | (apply D_ixRn; rfl; rfl; (first | omega | (simp; done))) | (apply D_ixR; rfl; rfl; all_goals first | omega | ((repeat rw [w64 _ (by omega) (by omega)]); omega) | decide) | (apply D_rem; rfl; rfl; first | omega | ((repeat rw [w64 _ (by omega) (by omega)]); omega) | decide))
    | refine W_seq ?_
    | refine W_region ?_
    | (refine idC ?_; first | refine c1 rfl ?_ | refine c0 rfl ?_ | refine cs rfl (fun _ => ?_) (fun _ => ?_))
    | refine WL_nil ?_
    | (refine idG ?_; first | refine g0t rfl rfl rfl ?_ | refine g0f rfl rfl rfl ?_ | refine g0u rfl rfl rfl ?_ | refine gr rfl rfl ?_ | refine gs rfl rfl (fun _ => ?_) (fun _ => ?_) | refine grn rfl rfl ?_)
    | refine tn ?_
    | refine tr ?_
    | refine br ?_
    | refine bn ?_
    | refine te ?_
    | (refine idB ?_; first | refine bh rfl ?_ | refine bm rfl ?_)
    | refine W_skip ?_
    | refine W_block ?_
    | refine W_exit ?_
    | refine W_ret ?_
    | refine W_label ?_
    | refine W_scope ?_
    | refine sn ?_
    | refine sr ?_
    | refine se ?_
    | (refine idR ?_; first | refine ret1 rfl rfl rfl ?_ | refine rL1 rfl (by first | exact trivial | exact ⟨rfl, trivial⟩) (by first | exact ResO.tmp rfl | exact ResO.cellBA rfl rfl rfl | exact ResO.cellB1 rfl rfl rfl | exact ResO.cellEA rfl rfl | exact ResO.cellE1 rfl) ?_)
    | refine Le.bool ?_
    | refine Le.int ?_
    | refine Le.str ?_
    | (refine idAp ?_; refine m_app rfl rfl (by first | rfl | assumption | exact get_set (by assumption) | exact get_set (get_set (by assumption)) | exact get_set (get_set (get_set (by assumption))) | ((repeat first | assumption | exact get_last | (refine get_last2 ?_; focus (simp; done)) | apply get_set | apply get_app | (apply get_ne; focus omega)); done)) ?_ rfl rfl ?_ ?_ rfl ?_; (first | rfl | focus (simp only [List.length_map, List.length_append, List.length_cons, List.length_nil]; omega) | focus (simp; done) | focus (simp; omega)); (first | focus (simp only [List.length_map, List.length_append, List.length_cons, List.length_nil]; omega) | focus (simp; done) | focus (simp; omega)); (first | focus (simp only [List.length_map, List.length_append, List.length_cons, List.length_nil]; omega) | focus (simp; done) | focus (simp; omega)))
    | (refine idAp ?_; refine m_appB rfl rfl rfl (by first | rfl | assumption | exact get_set (by assumption) | exact get_set (get_set (by assumption)) | exact get_set (get_set (get_set (by assumption))) | ((repeat first | assumption | exact get_last | (refine get_last2 ?_; focus (simp; done)) | apply get_set | apply get_app | (apply get_ne; focus omega)); done)) ?_ rfl rfl ?_ ?_ rfl ?_; (first | rfl | focus (simp only [List.length_map, List.length_append, List.length_cons, List.length_nil]; omega) | focus (simp; done) | focus (simp; omega)); (first | focus (simp only [List.length_map, List.length_append, List.length_cons, List.length_nil]; omega) | focus (simp; done) | focus (simp; omega)); (first | focus (simp only [List.length_map, List.length_append, List.length_cons, List.length_nil]; omega) | focus (simp; done) | focus (simp; omega)))
  refine W_adopt 7 9 41 rfl ?_
  refine W_loopL (X := Nat) (fun c => [(0, sl9 l), (5, .sc (.bool true)), (6, .sc (.int .i64 (n : Int))), (7, .sl (some 0) 9 ((turnL l n c).map dC)), (8, .sc (.int .i64 ((c : Int) - 1)))]) (fun c => [.tail (turnL l n c).length 9 41])
    (fun c => c ≤ l.length) (fun c => c) l.length (Nat.le_refl _) ⟨rfl, rfl, rfl, by rw [turnL_full]; rfl, rfl, trivial⟩ (by rw [turnL_full]; rfl) ?_
  intro c hc
  rcases c with _ | c
  · have hge : Value.bool (iLe 0 (((0 : Nat) : Int) - 1)) = .bool false := by rw [(iLe_f _ _).mpr (by omega)]
    have hln := turnL_len l n 0
    generalize turnL l n 0 = m at *
    repeat' first
      | (refine m_appW (d := 62) (els' := [dC (l[n]'hnl)]) rfl rfl rfl (by rw [List.length_map]) rfl rfl (by simp only [List.length_map, List.length_cons, List.length_nil]; omega) (by simp only [List.length_map, List.length_cons, List.length_nil]; omega) rfl ?_)
      | (apply p1 (hd := rfl); case hop => first | (apply D_move; rfl) | (apply D_assign; rfl) | exact D_sc (D_int rfl rfl rfl) hge | (apply D_pc hfl; rfl; exact .same rfl .nil) | (apply D_pc hfm; rfl; exact .tok rfl .nil) | (apply D_pc hsm; rfl; exact .same rfl (.same rfl .nil)) | exact D_sc (D_int rfl rfl rfl) hee | (apply D_load1; rfl) | (apply D_pickT; rfl; rfl) | (apply D_pickF; rfl; rfl) | (apply D_int; rfl; rfl; rfl) | (apply D_lenM; rfl) | (apply D_len_sl; rfl) | (apply D_ext; rfl; rfl) | (apply D_not; rfl) | (apply D_loadW; rfl; rfl) | (apply D_loadA; rfl; rfl) | (apply D_len_nil; rfl) | (apply D_idxAn; rfl; rfl; (first | omega | (simp; done))) | (apply D_idxA; rfl; rfl; omega; (first | omega | (simp; done) | (simp; omega))) | (apply D_idxA0; rfl; rfl; omega; (first | omega | (simp; done) | (simp; omega))) | (apply D_lit; rfl; rfl; rfl; rfl) | (apply D_lenR; rfl) | (apply D_ixRn; rfl; rfl; (first | omega | (simp; done))) | (apply D_ixR; rfl; rfl; all_goals first | omega | ((repeat rw [w64 _ (by omega) (by omega)]); omega) | decide) | (apply D_rem; rfl; rfl; first | omega | ((repeat rw [w64 _ (by omega) (by omega)]); omega) | decide))
      | refine W_seq ?_
      | refine W_region ?_
      | (refine idC ?_; first | refine c1 rfl ?_ | refine c0 rfl ?_ | refine cs rfl (fun _ => ?_) (fun _ => ?_))
      | refine WL_nil ?_
      | (refine idG ?_; first | refine g0t rfl rfl rfl ?_ | refine g0f rfl rfl rfl ?_ | refine g0u rfl rfl rfl ?_ | refine gr rfl rfl ?_ | refine gs rfl rfl (fun _ => ?_) (fun _ => ?_) | refine grn rfl rfl ?_)
      | refine tn ?_
      | refine tr ?_
      | refine br ?_
      | refine bn ?_
      | refine te ?_
      | (refine idB ?_; first | refine bh rfl ?_ | refine bm rfl ?_)
      | refine W_skip ?_
      | refine W_block ?_
      | refine W_exit ?_
      | refine W_ret ?_
      | refine W_label ?_
      | refine W_scope ?_
      | refine sn ?_
      | refine sr ?_
      | refine se ?_
      | (refine idR ?_; first | refine ret1 rfl rfl rfl ?_ | refine rL1 rfl (by first | exact trivial | exact ⟨rfl, trivial⟩) (by first | exact ResO.tmp rfl | exact ResO.cellBA rfl rfl rfl | exact ResO.cellB1 rfl rfl rfl | exact ResO.cellEA rfl rfl | exact ResO.cellE1 rfl) ?_)
      | refine Le.bool ?_
      | refine Le.int ?_
      | refine Le.str ?_
      | (refine idAp ?_; refine m_app rfl rfl (by first | rfl | assumption | exact get_set (by assumption) | exact get_set (get_set (by assumption)) | exact get_set (get_set (get_set (by assumption))) | ((repeat first | assumption | exact get_last | (refine get_last2 ?_; focus (simp; done)) | apply get_set | apply get_app | (apply get_ne; focus omega)); done)) ?_ rfl rfl ?_ ?_ rfl ?_; (first | rfl | focus (simp only [List.length_map, List.length_append, List.length_cons, List.length_nil]; omega) | focus (simp; done) | focus (simp; omega)); (first | focus (simp only [List.length_map, List.length_append, List.length_cons, List.length_nil]; omega) | focus (simp; done) | focus (simp; omega)); (first | focus (simp only [List.length_map, List.length_append, List.length_cons, List.length_nil]; omega) | focus (simp; done) | focus (simp; omega)))
      | (refine idAp ?_; refine m_appB rfl rfl rfl (by first | rfl | assumption | exact get_set (by assumption) | exact get_set (get_set (by assumption)) | exact get_set (get_set (get_set (by assumption))) | ((repeat first | assumption | exact get_last | (refine get_last2 ?_; focus (simp; done)) | apply get_set | apply get_app | (apply get_ne; focus omega)); done)) ?_ rfl rfl ?_ ?_ rfl ?_; (first | rfl | focus (simp only [List.length_map, List.length_append, List.length_cons, List.length_nil]; omega) | focus (simp; done) | focus (simp; omega)); (first | focus (simp only [List.length_map, List.length_append, List.length_cons, List.length_nil]; omega) | focus (simp; done) | focus (simp; omega)); (first | focus (simp only [List.length_map, List.length_append, List.length_cons, List.length_nil]; omega) | focus (simp; done) | focus (simp; omega)))
    all_goals first
      | rfl
      | (exfalso; omega)
      | contradiction
      | skip
    all_goals trace_state
  · have hst := turnL_step l n c (by omega)
    have hln := turnL_len l n (c + 1)
    have hcm : (c + n) % l.length < l.length := Nat.mod_lt _ hl0
    have e0 : (((c + 1 : Nat) : Int) - 1) = (c : Int) := by omega
    have e1 : Value.int .i64 (IntKind.i64.wrap ((c : Int) + (n : Int))) = .int .i64 ((c + n : Nat) : Int) := by rw [w64 _ (by omega) (by omega)]; rfl
    have e2 : Value.int .i64 (((c + n : Nat) : Int).tmod l.length) = .int .i64 (((c + n) % l.length : Nat) : Int) := by
      rw [Int.tmod_eq_emod_of_nonneg (by omega)]; rfl
    have e3 : IntKind.i64.wrap ((c : Int) - 1) = (c : Int) - 1 := by rw [w64 _ (by omega) (by omega)]
    rw [e0]
    generalize turnL l n (c + 1) = m at *
    repeat' first
      | (refine m_appW (d := 55) (els' := [dC (l[(c + n) % l.length]'hcm)]) rfl rfl rfl (by rw [List.length_map]) rfl rfl (by simp only [List.length_map, List.length_cons, List.length_nil]; omega) (by simp only [List.length_map, List.length_cons, List.length_nil]; omega) rfl ?_)
      | (apply p1 (hd := rfl); case hop => first | (apply D_move; rfl) | (apply D_assign; rfl) | exact D_sc (D_int rfl rfl rfl) e1 | exact D_sc (D_rem rfl rfl hr1) e2 | (apply D_load1; rfl) | (apply D_pickT; rfl; rfl) | (apply D_pickF; rfl; rfl) | (apply D_int; rfl; rfl; rfl) | (apply D_lenM; rfl) | (apply D_len_sl; rfl) | (apply D_ext; rfl; rfl) | (apply D_not; rfl) | (apply D_loadW; rfl; rfl) | (apply D_loadA; rfl; rfl) | (apply D_len_nil; rfl) | (apply D_idxAn; rfl; rfl; (first | omega | (simp; done))) | (apply D_idxA; rfl; rfl; omega; (first | omega | (simp; done) | (simp; omega))) | (apply D_idxA0; rfl; rfl; omega; (first | omega | (simp; done) | (simp; omega))) | (apply D_lit; rfl; rfl; rfl; rfl) | (apply D_lenR; rfl) | (apply D_ixRn; rfl; rfl; (first | omega | (simp; done))) | (apply D_ixR; rfl; rfl; all_goals first | omega | ((repeat rw [w64 _ (by omega) (by omega)]); omega) | decide) | (apply D_rem; rfl; rfl; first | omega | ((repeat rw [w64 _ (by omega) (by omega)]); omega) | decide))
      | refine W_seq ?_
      | refine W_region ?_
      | (refine idC ?_; first | refine c1 rfl ?_ | refine c0 rfl ?_ | refine cs rfl (fun _ => ?_) (fun _ => ?_))
      | refine WL_nil ?_
      | (refine idG ?_; first | refine g0t rfl rfl rfl ?_ | refine g0f rfl rfl rfl ?_ | refine g0u rfl rfl rfl ?_ | refine gr rfl rfl ?_ | refine gs rfl rfl (fun _ => ?_) (fun _ => ?_) | refine grn rfl rfl ?_)
      | refine tn ?_
      | refine tr ?_
      | refine br ?_
      | refine bn ?_
      | refine te ?_
      | (refine idB ?_; first | refine bh rfl ?_ | refine bm rfl ?_)
      | refine W_skip ?_
      | refine W_block ?_
      | refine W_exit ?_
      | refine W_ret ?_
      | refine W_label ?_
      | refine W_scope ?_
      | refine sn ?_
      | refine sr ?_
      | refine se ?_
      | (refine idR ?_; first | refine ret1 rfl rfl rfl ?_ | refine rL1 rfl (by first | exact trivial | exact ⟨rfl, trivial⟩) (by first | exact ResO.tmp rfl | exact ResO.cellBA rfl rfl rfl | exact ResO.cellB1 rfl rfl rfl | exact ResO.cellEA rfl rfl | exact ResO.cellE1 rfl) ?_)
      | refine Le.bool ?_
      | refine Le.int ?_
      | refine Le.str ?_
      | (refine idAp ?_; refine m_app rfl rfl (by first | rfl | assumption | exact get_set (by assumption) | exact get_set (get_set (by assumption)) | exact get_set (get_set (get_set (by assumption))) | ((repeat first | assumption | exact get_last | (refine get_last2 ?_; focus (simp; done)) | apply get_set | apply get_app | (apply get_ne; focus omega)); done)) ?_ rfl rfl ?_ ?_ rfl ?_; (first | rfl | focus (simp only [List.length_map, List.length_append, List.length_cons, List.length_nil]; omega) | focus (simp; done) | focus (simp; omega)); (first | focus (simp only [List.length_map, List.length_append, List.length_cons, List.length_nil]; omega) | focus (simp; done) | focus (simp; omega)); (first | focus (simp only [List.length_map, List.length_append, List.length_cons, List.length_nil]; omega) | focus (simp; done) | focus (simp; omega)))
      | (refine idAp ?_; refine m_appB rfl rfl rfl (by first | rfl | assumption | exact get_set (by assumption) | exact get_set (get_set (by assumption)) | exact get_set (get_set (get_set (by assumption))) | ((repeat first | assumption | exact get_last | (refine get_last2 ?_; focus (simp; done)) | apply get_set | apply get_app | (apply get_ne; focus omega)); done)) ?_ rfl rfl ?_ ?_ rfl ?_; (first | rfl | focus (simp only [List.length_map, List.length_append, List.length_cons, List.length_nil]; omega) | focus (simp; done) | focus (simp; omega)); (first | focus (simp only [List.length_map, List.length_append, List.length_cons, List.length_nil]; omega) | focus (simp; done) | focus (simp; omega)); (first | focus (simp only [List.length_map, List.length_append, List.length_cons, List.length_nil]; omega) | focus (simp; done) | focus (simp; omega)))
    all_goals first
      | (exfalso; omega)
      | (refine ⟨rfl, c, by omega, by omega, ⟨rfl, rfl, rfl, ?_, ieq e3, trivial⟩, ?_⟩
         · rw [hst, List.map_append]; rfl
         · rw [hst, List.length_append, ← List.length_map (f := dC)]; rfl)
      | skip
    all_goals trace_state
set_option maxHeartbeats 16000000 in
theorem factsOrder_pc [GlobF Try.prog] (l : List Dat) (by_ : Int) (h1 : -9223372036854775808 ≤ by_ ∧ by_ ≤ 9223372036854775807) (hl : l.length * 80 ≤ 140737488355328) (hsl : ∀ d, d ∈ l → d.v.s.length < 9223372036854775808) (hrg : rgD l) :
    PC Try.prog 6 [sl9 l, .sc (.int .i64 by_)] (.sc (.bool true)) := by
  by_cases hgr : 4000 < grS 0 l
  · have hg := great_pc l (by omega)
    rw [if_pos hgr] at hg
    refine PC.of_body Try.func6 Try.ntmps6 rfl rfl rfl ?_
    repeat' first
      | (exfalso; omega)
      | (apply p1 (hd := rfl); case hop => first | (apply D_move; rfl) | (apply D_assign; rfl) | (apply D_pc falive_pc; rfl; exact .nil) | (apply D_pc hg; rfl; exact .same rfl .nil) | (apply D_load1; rfl) | (apply D_pickT; rfl; rfl) | (apply D_pickF; rfl; rfl) | (apply D_int; rfl; rfl; rfl) | (apply D_lenM; rfl) | (apply D_len_sl; rfl) | (apply D_ext; rfl; rfl) | (apply D_not; rfl) | (apply D_loadW; rfl; rfl) | (apply D_loadA; rfl; rfl) | (apply D_len_nil; rfl) | (apply D_idxAn; rfl; rfl; (first | omega | (simp; done))) | (apply D_idxA; rfl; rfl; omega; (first | omega | (simp; done) | (simp; omega))) | (apply D_idxA0; rfl; rfl; omega; (first | omega | (simp; done) | (simp; omega))) | (apply D_lit; rfl; rfl; rfl; rfl) | (apply D_lenR; rfl) | (apply D_ixRn; rfl; rfl; (first | omega | (simp; done))) | (apply D_ixR; rfl; rfl; all_goals first | omega | ((repeat rw [w64 _ (by omega) (by omega)]); omega) | decide) | (apply D_rem; rfl; rfl; first | omega | ((repeat rw [w64 _ (by omega) (by omega)]); omega) | decide))
      | refine W_seq ?_
      | refine W_region ?_
      | (refine idC ?_; first | refine c1 rfl ?_ | refine c0 rfl ?_ | refine cs rfl (fun _ => ?_) (fun _ => ?_))
      | refine WL_nil ?_
      | (refine idG ?_; first | refine g0t rfl rfl rfl ?_ | refine g0f rfl rfl rfl ?_ | refine g0u rfl rfl rfl ?_ | refine gr rfl rfl ?_ | refine gs rfl rfl (fun _ => ?_) (fun _ => ?_) | refine grn rfl rfl ?_)
      | refine tn ?_
      | refine tr ?_
      | refine br ?_
      | refine bn ?_
      | refine te ?_
      | (refine idB ?_; first | refine bh rfl ?_ | refine bm rfl ?_)
      | refine W_skip ?_
      | refine W_block ?_
      | refine W_exit ?_
      | refine W_ret ?_
      | refine W_label ?_
      | refine W_scope ?_
      | refine sn ?_
      | refine sr ?_
      | refine se ?_
      | (refine idR ?_; first | refine ret1 rfl rfl rfl ?_ | refine rL1 rfl (by first | exact trivial | exact ⟨rfl, trivial⟩) (by first | exact ResO.tmp rfl | exact ResO.cellBA rfl rfl rfl | exact ResO.cellB1 rfl rfl rfl | exact ResO.cellEA rfl rfl | exact ResO.cellE1 rfl) ?_)
      | refine Le.bool ?_
      | refine Le.int ?_
      | refine Le.str ?_
      | (refine idAp ?_; refine m_app rfl rfl (by first | rfl | assumption | exact get_set (by assumption) | exact get_set (get_set (by assumption)) | exact get_set (get_set (get_set (by assumption))) | ((repeat first | assumption | exact get_last | (refine get_last2 ?_; focus (simp; done)) | apply get_set | apply get_app | (apply get_ne; focus omega)); done)) ?_ rfl rfl ?_ ?_ rfl ?_; (first | rfl | focus (simp only [List.length_map, List.length_append, List.length_cons, List.length_nil]; omega) | focus (simp; done) | focus (simp; omega)); (first | focus (simp only [List.length_map, List.length_append, List.length_cons, List.length_nil]; omega) | focus (simp; done) | focus (simp; omega)); (first | focus (simp only [List.length_map, List.length_append, List.length_cons, List.length_nil]; omega) | focus (simp; done) | focus (simp; omega)))
      | (refine idAp ?_; refine m_appB rfl rfl rfl (by first | rfl | assumption | exact get_set (by assumption) | exact get_set (get_set (by assumption)) | exact get_set (get_set (get_set (by assumption))) | ((repeat first | assumption | exact get_last | (refine get_last2 ?_; focus (simp; done)) | apply get_set | apply get_app | (apply get_ne; focus omega)); done)) ?_ rfl rfl ?_ ?_ rfl ?_; (first | rfl | focus (simp only [List.length_map, List.length_append, List.length_cons, List.length_nil]; omega) | focus (simp; done) | focus (simp; omega)); (first | focus (simp only [List.length_map, List.length_append, List.length_cons, List.length_nil]; omega) | focus (simp; done) | focus (simp; omega)); (first | focus (simp only [List.length_map, List.length_append, List.length_cons, List.length_nil]; omega) | focus (simp; done) | focus (simp; omega)))
    all_goals first
      | rfl
      | (exfalso; omega)
      | contradiction
      | skip
    all_goals trace_state
  · rcases Nat.eq_zero_or_pos l.length with h0 | h0
    · have hg := great_pc l (by omega)
      rw [if_neg hgr] at hg
      have hll : Value.bool (iEq (l.length : Int) 0) = .bool true := by rw [(iEq_t _ _).mpr (by omega)]
      have h00 : Value.bool (iLt 0 0) = .bool false := by rw [(iLt_f _ _).mpr (by omega)]
      refine PC.of_body Try.func6 Try.ntmps6 rfl rfl rfl ?_
      repeat' first
        | (apply p1 (hd := rfl); case hop => first | (apply D_move; rfl) | (apply D_assign; rfl) | (apply D_pc falive_pc; rfl; exact .nil) | (apply D_pc hg; rfl; exact .same rfl .nil) | exact D_sc (D_int rfl rfl rfl) h00 | exact D_sc (D_int rfl rfl rfl) hll | (apply D_load1; rfl) | (apply D_pickT; rfl; rfl) | (apply D_pickF; rfl; rfl) | (apply D_int; rfl; rfl; rfl) | (apply D_lenM; rfl) | (apply D_len_sl; rfl) | (apply D_ext; rfl; rfl) | (apply D_not; rfl) | (apply D_loadW; rfl; rfl) | (apply D_loadA; rfl; rfl) | (apply D_len_nil; rfl) | (apply D_idxAn; rfl; rfl; (first | omega | (simp; done))) | (apply D_idxA; rfl; rfl; omega; (first | omega | (simp; done) | (simp; omega))) | (apply D_idxA0; rfl; rfl; omega; (first | omega | (simp; done) | (simp; omega))) | (apply D_lit; rfl; rfl; rfl; rfl) | (apply D_lenR; rfl) | (apply D_ixRn; rfl; rfl; (first | omega | (simp; done))) | (apply D_ixR; rfl; rfl; all_goals first | omega | ((repeat rw [w64 _ (by omega) (by omega)]); omega) | decide) | (apply D_rem; rfl; rfl; first | omega | ((repeat rw [w64 _ (by omega) (by omega)]); omega) | decide))
        | refine W_seq ?_
        | refine W_region ?_
        | (refine idC ?_; first | refine c1 rfl ?_ | refine c0 rfl ?_ | refine cs rfl (fun _ => ?_) (fun _ => ?_))
        | refine WL_nil ?_
        | (refine idG ?_; first | refine g0t rfl rfl rfl ?_ | refine g0f rfl rfl rfl ?_ | refine g0u rfl rfl rfl ?_ | refine gr rfl rfl ?_ | refine gs rfl rfl (fun _ => ?_) (fun _ => ?_) | refine grn rfl rfl ?_)
        | refine tn ?_
        | refine tr ?_
        | refine br ?_
        | refine bn ?_
        | refine te ?_
        | (refine idB ?_; first | refine bh rfl ?_ | refine bm rfl ?_)
        | refine W_skip ?_
        | refine W_block ?_
        | refine W_exit ?_
        | refine W_ret ?_
        | refine W_label ?_
        | refine W_scope ?_
        | refine sn ?_
        | refine sr ?_
        | refine se ?_
        | (refine idR ?_; first | refine ret1 rfl rfl rfl ?_ | refine rL1 rfl (by first | exact trivial | exact ⟨rfl, trivial⟩) (by first | exact ResO.tmp rfl | exact ResO.cellBA rfl rfl rfl | exact ResO.cellB1 rfl rfl rfl | exact ResO.cellEA rfl rfl | exact ResO.cellE1 rfl) ?_)
        | refine Le.bool ?_
        | refine Le.int ?_
        | refine Le.str ?_
        | (refine idAp ?_; refine m_app rfl rfl (by first | rfl | assumption | exact get_set (by assumption) | exact get_set (get_set (by assumption)) | exact get_set (get_set (get_set (by assumption))) | ((repeat first | assumption | exact get_last | (refine get_last2 ?_; focus (simp; done)) | apply get_set | apply get_app | (apply get_ne; focus omega)); done)) ?_ rfl rfl ?_ ?_ rfl ?_; (first | rfl | focus (simp only [List.length_map, List.length_append, List.length_cons, List.length_nil]; omega) | focus (simp; done) | focus (simp; omega)); (first | focus (simp only [List.length_map, List.length_append, List.length_cons, List.length_nil]; omega) | focus (simp; done) | focus (simp; omega)); (first | focus (simp only [List.length_map, List.length_append, List.length_cons, List.length_nil]; omega) | focus (simp; done) | focus (simp; omega)))
        | (refine idAp ?_; refine m_appB rfl rfl rfl (by first | rfl | assumption | exact get_set (by assumption) | exact get_set (get_set (by assumption)) | exact get_set (get_set (get_set (by assumption))) | ((repeat first | assumption | exact get_last | (refine get_last2 ?_; focus (simp; done)) | apply get_set | apply get_app | (apply get_ne; focus omega)); done)) ?_ rfl rfl ?_ ?_ rfl ?_; (first | rfl | focus (simp only [List.length_map, List.length_append, List.length_cons, List.length_nil]; omega) | focus (simp; done) | focus (simp; omega)); (first | focus (simp only [List.length_map, List.length_append, List.length_cons, List.length_nil]; omega) | focus (simp; done) | focus (simp; omega)); (first | focus (simp only [List.length_map, List.length_append, List.length_cons, List.length_nil]; omega) | focus (simp; done) | focus (simp; omega)))
      all_goals first
        | rfl
        | (exfalso; omega)
        | contradiction
        | skip
      all_goals trace_state
    · exact factsOrder_core l by_ h1.1 h1.2 (by omega) h0 hsl hrg hgr
end Go.Proofs
