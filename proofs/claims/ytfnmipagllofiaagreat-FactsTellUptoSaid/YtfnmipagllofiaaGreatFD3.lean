/- Contracts of the reference: datoms sorted, may one be, how two values stand. -/
import Derived.Test.YtfnmipagllofiaaGreatFD2
namespace Go.Proofs
open Go.AL Go.Sort
attribute [local irreducible] Go.AL.W Go.AL.WL Go.AL.WD Go.AL.POp Go.AL.PPOp Go.AL.POpS Go.AL.PC Go.AL.AC Go.AL.YW Go.AL.Ret Go.AL.Le Go.AL.thn Go.AL.inBlk Go.AL.scp
theorem cb_drop : ∀ (i : Nat) (a b : List UInt8), i ≤ a.length → i ≤ b.length → (∀ j (h : j < a.length) (h' : j < b.length), j < i → a[j] = b[j]) → Lib.compareBytes a b = Lib.compareBytes (a.drop i) (b.drop i)
  | 0, _, _, _, _, _ => rfl
  | i + 1, [], _, h, _, _ => by simp at h
  | i + 1, _, [], _, h, _ => by simp at h
  | i + 1, x :: a, y :: b, h1, h2, h => by
    have e : x = y := h 0 (by simp) (by simp) (by omega)
    subst e
    simp only [List.drop_succ_cons, Lib.compareBytes, UInt8.lt_irrefl, if_false]
    exact cb_drop i a b (by simpa using h1) (by simpa using h2) fun j hj hj' hji => by
      have := h (j + 1) (by simpa using hj) (by simpa using hj') (by omega)
      simpa using this
theorem cmpV_s {a b : Val} (h1 : a.kind = b.kind) (h2 : a.n = b.n) : cmpV a b = Lib.compareBytes a.s b.s := by
  simp only [cmpV, cmpI, h1, h2, Int.lt_irrefl, if_false, orI]
  split <;> simp_all
set_option maxHeartbeats 1000000 in
theorem compare1_pc [GlobF Tryz.prog] (a b : Val) (ha : a.s.length < 9223372036854775808) : PC Tryz.prog 62 [eV a, eV b] (.sc (.int .i64 (cmpV a b))) := by
  refine PC.of_body Tryz.func62 Tryz.ntmps62 rfl rfl rfl ?_
  repeat' first
    | (apply p1 (hd := rfl); case hop => first | (apply D_assign; rfl) | (apply D_load1; rfl) | (apply D_fld; rfl) | (apply D_int; rfl; rfl; rfl) | (apply D_box; rfl; rfl))
    | refine W_seq ?_
    | refine W_region ?_
    | (refine idC ?_; refine cs rfl (fun _ => ?_) (fun _ => ?_))
    | refine WL_nil ?_
    | refine tn ?_
    | refine tr ?_
    | refine W_skip ?_
    | refine W_block ?_
    | refine W_ret ?_
    | (refine idR ?_; refine ret1 rfl rfl rfl ?_)
    | refine Le.int ?_
    | fail
  · simp only [cmpV, cmpI, orI]; split <;> simp_all
  · simp only [cmpV, cmpI, orI]; split <;> simp_all <;> omega
  · have e : a.kind = b.kind := by omega
    simp only [cmpV, cmpI, orI, e]; simp_all
  · have e : a.kind = b.kind := by omega
    have e2 : ¬ a.n < b.n := by omega
    have e3 : b.n < a.n := by omega
    simp [cmpV, cmpI, orI, e, e2, e3]
  rename_i h1 h2 h3 h4
  have hc := cmpV_s (a := a) (b := b) (by omega) (by omega)
  rw [hc]
  refine W_loopL (X := Nat) (fun i => [(2, .ep (vC a)), (3, .ep (vC b)), (4, .sc (.int .i64 0)), (5, .sc (.int .i64 (i : Int)))]) (fun _ => [])
    (fun i => i ≤ a.s.length ∧ i ≤ b.s.length ∧ ∀ (j : Nat) (h : j < a.s.length) (h' : j < b.s.length), j < i → a.s[j] = b.s[j]) (fun i => a.s.length - i) 0 ⟨by omega, by omega, fun j h h' h'' => by omega⟩ ⟨rfl, rfl, rfl, rfl, trivial⟩ rfl ?_
  rintro i ⟨hia, hib, hz⟩
  have hd := cb_drop i a.s b.s hia hib hz
  repeat' first
    | (apply p1 (hd := rfl); case hop => first | (apply D_move; rfl) | (apply D_assign; rfl) | (apply D_load1; rfl) | (apply D_fld; rfl) | (apply D_pickT; rfl; rfl) | (apply D_pickF; rfl; rfl) | (apply D_int; rfl; rfl; rfl) | (apply D_len_str; rfl))
    | refine W_seq ?_
    | refine W_region ?_
    | (refine idC ?_; first | refine c0 rfl ?_ | refine cs rfl (fun _ => ?_) (fun _ => ?_))
    | refine WL_nil ?_
    | (refine idG ?_; first | refine g0t rfl rfl rfl ?_ | refine gr rfl rfl ?_ | refine gs rfl rfl (fun _ => ?_) (fun _ => ?_))
    | refine tn ?_
    | refine tr ?_
    | refine br ?_
    | refine bn ?_
    | refine te ?_
    | (refine idB ?_; refine bh rfl ?_)
    | refine W_skip ?_
    | refine W_block ?_
    | refine W_exit ?_
    | refine W_ret ?_
    | (refine idR ?_; refine ret1 rfl rfl rfl ?_)
    | refine Le.int ?_
    | (refine idW ?_; refine W_draw0 rfl ?_)
    | (apply d1 (hd := rfl); case hop => first | (apply D_move; rfl) | (apply D_load1; rfl) | (apply D_fld; rfl) | (apply D_int; rfl; rfl; rfl) | (apply D_idxSn; rfl; rfl; (first | omega | (simp; done))))
    | refine WD_nil (by first | decide +kernel | kernel_rfl | rfl) ?_
    | fail
  · have ga : i < a.s.length := by omega
    have gb : i < b.s.length := by omega
    rw [hd, List.drop_eq_getElem_cons ga, List.drop_eq_getElem_cons gb, Lib.compareBytes, if_pos (by rw [UInt8.lt_iff_toNat_lt]; omega)]
  · have ga : i < a.s.length := by omega
    have gb : i < b.s.length := by omega
    rw [hd, List.drop_eq_getElem_cons ga, List.drop_eq_getElem_cons gb, Lib.compareBytes, if_neg (by rw [UInt8.lt_iff_toNat_lt]; omega), if_pos (by rw [UInt8.lt_iff_toNat_lt]; omega)]
  · refine ⟨rfl, i + 1, ⟨by omega, by omega, fun j h h' hj => ?_⟩, by omega, ⟨rfl, rfl, rfl, ieq (wsucc i (by omega)), trivial⟩, rfl⟩
    by_cases e : j = i
    · subst e; exact UInt8.toNat_inj.1 (by omega)
    · exact hz j h h' (by omega)
  all_goals rw [hd]
  all_goals first
    | (exfalso; omega)
    | (have ga : i < a.s.length := by omega
       have gb : b.s.drop i = [] := List.drop_eq_nil_of_le (by omega)
       rw [List.drop_eq_getElem_cons ga, gb]; rfl)
    | (have gb : i < b.s.length := by omega
       have ga : a.s.drop i = [] := List.drop_eq_nil_of_le (by omega)
       rw [List.drop_eq_getElem_cons gb, ga]; rfl)
    | (have gb : b.s.drop i = [] := List.drop_eq_nil_of_le (by omega)
       have ga : a.s.drop i = [] := List.drop_eq_nil_of_le (by omega)
       rw [ga, gb]; rfl)
def shapeS (o : Int) : List UInt8 := if o = 1 then [101, 97, 118] else if o = 2 then [97, 101, 118] else if o = 3 then [97, 118, 101] else [118, 97, 101]
set_option maxHeartbeats 1000000 in
theorem shape_pc [GlobF Tryz.prog] (o : Int) : PC Tryz.prog 126 [.sc (.int .i64 o)] (str (shapeS o)) := by
  refine PC.of_body Tryz.func126 Tryz.ntmps126 rfl rfl rfl ?_
  repeat' first
    | (apply p1 (hd := rfl); case hop => first | (apply D_move; rfl) | (apply D_assign; rfl) | (apply D_int; rfl; rfl; rfl))
    | refine W_seq ?_
    | refine W_region ?_
    | (refine idC ?_; refine cs rfl (fun _ => ?_) (fun _ => ?_))
    | refine WL_nil ?_
    | refine tn ?_
    | refine tr ?_
    | refine br ?_
    | refine bn ?_
    | refine W_skip ?_
    | refine W_block ?_
    | refine W_ret ?_
    | (refine idR ?_; refine ret1 rfl rfl rfl ?_)
    | refine Le.str ?_
    | fail
  all_goals simp [shapeS, *]
set_option maxHeartbeats 1000000 in
theorem dhas1_pc [GlobF Tryz.prog] (o : Int) (d : Dat) : PC Tryz.prog 76 [.sc (.int .i64 o), eD d] (.sc (.bool (dP (hasP o d)))) := by
  refine PC.of_body Tryz.func76 Tryz.ntmps76 rfl rfl rfl ?_
  repeat' first
    | (apply p1 (hd := rfl); case hop => first | (apply D_move; rfl) | (apply D_assign; rfl) | (apply D_load1; rfl) | (apply D_fld; rfl) | (apply D_pickT; rfl; rfl) | (apply D_pickF; rfl; rfl) | (apply D_int; rfl; rfl; rfl) | (apply D_box; rfl; rfl))
    | refine W_seq ?_
    | refine W_region ?_
    | refine WL_nil ?_
    | (refine idG ?_; first | refine g0t rfl rfl rfl ?_ | refine g0f rfl rfl rfl ?_ | refine g0u rfl rfl rfl ?_ | refine gr rfl rfl ?_ | refine gs rfl rfl (fun _ => ?_) (fun _ => ?_))
    | refine tn ?_
    | refine W_ret ?_
    | (refine idR ?_; refine ret1 rfl rfl rfl ?_)
    | refine Le.bool ?_
    | fail
  all_goals (refine dP_eq ?_; unfold hasP; first | (simp [iEq_t]; omega) | (simp only [iEq_t]; omega))
theorem shape_cases (o : Int) : o = 1 ∨ o = 2 ∨ o = 3 ∨ (shapeS o = [118, 97, 101] ∧ ∀ d, part7 o d = part7 4 d) := by
  by_cases h1 : o = 1
  · exact .inl h1
  by_cases h2 : o = 2
  · exact .inr (.inl h2)
  by_cases h3 : o = 3
  · exact .inr (.inr (.inl h3))
  · exact .inr (.inr (.inr ⟨by simp [shapeS, *], fun d => by simp [part7, fst1, fst2, fst3, *]⟩))
set_option maxHeartbeats 4000000 in
theorem parts1_pc [GlobF Tryz.prog] (o : Int) (d : Dat) : PC Tryz.prog 100 [.sc (.int .i64 o), eD d] (.sl none 5 ((part7 o d).map pC)) := by
  have key : ∀ (a b c : UInt8) (q : List Prt), PC Tryz.prog 126 [.sc (.int .i64 o)] (str [a, b, c]) → ((([a, b, c], q) : List UInt8 × List Prt) = ([101, 97, 118], [prtN d.e, prtN d.a, prtV d.v]) ∨ (([a, b, c], q) : List UInt8 × List Prt) = ([97, 101, 118], [prtN d.a, prtN d.e, prtV d.v]) ∨
      (([a, b, c], q) : List UInt8 × List Prt) = ([97, 118, 101], [prtN d.a, prtV d.v, prtN d.e]) ∨ (([a, b, c], q) : List UInt8 × List Prt) = ([118, 97, 101], [prtV d.v, prtN d.a, prtN d.e])) →
      part7 o d = q ++ [prtN d.t, prtN (if d.add then 0 else 1), prtN d.fr, prtN d.to] → PC Tryz.prog 100 [.sc (.int .i64 o), eD d] (.sl none 5 ((part7 o d).map pC)) := by
    intro a b c q hsh hq h7
    refine PC.of_body Tryz.func100 Tryz.ntmps100 rfl rfl rfl ?_
    repeat' first
      | (apply p1 (hd := rfl); case hop => first | (apply D_move; rfl) | (apply D_assign; rfl) | (apply D_pc hsh; rfl; exact .same rfl .nil) | (apply D_box; rfl; rfl))
      | refine W_seq ?_
      | refine W_region ?_
      | refine WL_nil ?_
      | refine tn ?_
      | refine W_block ?_
      | fail
    refine W_adopt 6 5 132 rfl ?_
    have hql : q.length = 3 := by rcases hq with h | h | h | h <;> (cases h; rfl)
    refine W_loopL (X := Nat) (fun i => [(3, .ep (dC d)), (5, str [a, b, c]), (6, .sl (some 0) 5 ((q.take i).map pC)), (7, .sc (.int .i64 (i : Int)))]) (fun i => [.tail i 5 132])
      (fun i => i ≤ 3) (fun i => 3 - i) 0 (by omega) ⟨rfl, rfl, rfl, rfl, trivial⟩ rfl ?_
    intro i hi
    have hc : i = 0 ∨ i = 1 ∨ i = 2 ∨ i = 3 := by omega
    rcases hq with hq | hq | hq | hq <;> cases hq <;> rcases hc with rfl | rfl | rfl | rfl
    all_goals
      repeat' first
        | (apply p1 (hd := rfl); case hop => first | (apply D_move; rfl) | (apply D_assign; rfl) | (apply D_load1; rfl) | (apply D_fld; rfl) | (apply D_int; rfl; rfl; rfl) | (apply D_loadA; rfl; rfl) | (apply D_idxSn; rfl; rfl; (first | omega | (simp; done))) | (apply D_lit; rfl; rfl; rfl; rfl) | exact D_build rfl)
        | refine W_seq ?_
        | refine W_region ?_
        | (refine idC ?_; refine cs rfl (fun _ => ?_) (fun _ => ?_))
        | refine WL_nil ?_
        | refine tn ?_
        | refine bn ?_
        | refine te ?_
        | (refine idB ?_; refine bh rfl ?_)
        | refine W_skip ?_
        | refine W_block ?_
        | refine W_exit ?_
        | refine W_ret ?_
        | (refine idR ?_; refine ret1 rfl rfl rfl ?_)
        | (refine idAp ?_; refine m_appB rfl rfl rfl (by first | rfl | assumption | exact get_set (by assumption) | exact get_set (get_set (by assumption)) | exact get_set (get_set (get_set (by assumption))) | ((repeat first | assumption | exact get_last | (refine get_last2 ?_; focus (simp; done)) | apply get_set | apply get_app | (apply get_ne; focus omega)); done)) ?_ rfl rfl ?_ ?_ rfl ?_; (first | rfl | focus (simp only [List.length_map, List.length_append, List.length_cons, List.length_nil]; omega) | focus (simp; done) | focus (simp; omega)); (first | focus (simp only [List.length_map, List.length_append, List.length_cons, List.length_nil]; omega) | focus (simp; done) | focus (simp; omega)); (first | focus (simp only [List.length_map, List.length_append, List.length_cons, List.length_nil]; omega) | focus (simp; done) | focus (simp; omega)))
        | fail
    all_goals first
      | omega
      | contradiction
      | skip
    all_goals first
      | exact ⟨rfl, 1, by omega, by omega, ⟨rfl, rfl, rfl, ieq (wsucc _ (by omega)), trivial⟩, rfl⟩
      | exact ⟨rfl, 2, by omega, by omega, ⟨rfl, rfl, rfl, ieq (wsucc _ (by omega)), trivial⟩, rfl⟩
      | exact ⟨rfl, 3, by omega, by omega, ⟨rfl, rfl, rfl, ieq (wsucc _ (by omega)), trivial⟩, rfl⟩
      | (have h : d.add = true := by assumption
         rw [h7, if_pos h]; exact Le.tokq rfl)
      | (have h : d.add = false := by assumption
         rw [h7, if_neg (by rw [h]; exact Bool.false_ne_true)]; exact Le.tokq rfl)
  rcases shape_cases o with rfl | rfl | rfl | ⟨h1, h2⟩
  · exact key _ _ _ _ (shape_pc 1) (.inl rfl) rfl
  · exact key _ _ _ _ (shape_pc 2) (.inr (.inl rfl)) rfl
  · exact key _ _ _ _ (shape_pc 3) (.inr (.inr (.inl rfl))) rfl
  · exact key _ _ _ _ (h1 ▸ shape_pc o) (.inr (.inr (.inr rfl))) (by rw [h2]; rfl)
set_option maxHeartbeats 4000000 in
theorem cmp2_pc [GlobF Tryz.prog] (a b : List Prt) (ha : a.length < 9223372036854775808) (hs : ∀ p, p ∈ a → p.v.s.length < 9223372036854775808) : PC Tryz.prog 101 [.sl none 5 (a.map pC), .sl none 5 (b.map pC)] (.sc (.int .i64 (cmpPs a b))) := by
  refine PC.of_body Tryz.func101 Tryz.ntmps101 rfl rfl rfl ?_
  repeat' first
    | (apply p1 (hd := rfl); case hop => (apply D_assign; rfl))
    | refine W_seq ?_
    | refine W_region ?_
    | refine WL_nil ?_
    | refine tn ?_
    | refine W_block ?_
    | fail
  refine W_loopL (X := Nat) (fun i => [(0, .sl none 5 (a.map pC)), (1, .sl none 5 (b.map pC)), (5, .sc (.int .i64 (i : Int)))]) (fun _ => [])
    (fun i => i ≤ a.length ∧ ∀ (j : Nat) (h : j < a.length) (h' : j < b.length), j < i → standI a[j] b[j] = 0) (fun i => a.length - i) 0 ⟨by omega, fun j h h' hj => absurd hj (Nat.not_lt_zero j)⟩ ⟨rfl, rfl, rfl, trivial⟩ rfl ?_
  rintro i ⟨hi, hz⟩
  repeat' first
    | (apply p1 (hd := rfl); case hop => first | (apply D_move; rfl) | (apply D_assign; rfl) | (apply D_load1; rfl) | (apply D_fld; rfl) | (apply D_pickT; rfl; rfl) | (apply D_pickF; rfl; rfl) | (apply D_int; rfl; rfl; rfl) | (apply D_lenM; rfl) | (apply D_idxAn; rfl; rfl; (first | omega | (simp; done))))
    | refine W_seq ?_
    | refine W_region ?_
    | (refine idC ?_; first | refine c0 rfl ?_ | refine cs rfl (fun _ => ?_) (fun _ => ?_))
    | refine WL_nil ?_
    | (refine idG ?_; first | refine g0t rfl rfl rfl ?_ | refine gr rfl rfl ?_ | refine gs rfl rfl (fun _ => ?_) (fun _ => ?_))
    | refine tn ?_
    | refine tr ?_
    | refine br ?_
    | refine bn ?_
    | refine te ?_
    | (refine idB ?_; refine bh rfl ?_)
    | refine W_skip ?_
    | refine W_block ?_
    | refine W_exit ?_
    | refine W_ret ?_
    | (refine idR ?_; refine ret1 rfl rfl rfl ?_)
    | refine Le.int ?_
    | (refine idW ?_; refine W_draw0 rfl ?_)
    | (apply d1 (hd := rfl); case hop => first | (apply D_move; rfl) | (apply D_assign; rfl) | (apply D_pc (compare1_pc _ _ (hs _ (List.getElem_mem _))); rfl; exact .same rfl (.same rfl .nil)) | (apply D_load1; rfl) | (apply D_fld; rfl) | (apply D_int; rfl; rfl; rfl) | (apply D_loadW; rfl; rfl) | (apply D_idxAn; rfl; rfl; (first | omega | (simp; done))))
    | refine WD_nil (by first | decide +kernel | kernel_rfl | rfl) ?_
    | fail
  · rename_i h1 h2 h3 h4
    have e : standI a[i] b[i] = cmpV a[i].v b[i].v := by simp [standI, h3]
    rw [← e] at h4 ⊢
    exact (cmpPs_at i (by omega) (by omega) hz h4).symm
  · rename_i h1 h2 h3 h4
    have e : standI a[i] b[i] = 0 := by simp [standI, h3, h4]
    refine ⟨rfl, i + 1, ⟨by omega, fun j h h' hj => ?_⟩, by omega, ⟨rfl, rfl, ieq (wsucc i (by omega)), trivial⟩, rfl⟩
    by_cases q : j = i
    · subst q; exact e
    · exact hz j h h' (by omega)
  · rename_i h1 h2 h3 h4
    have e : standI a[i] b[i] = -1 := by simp [standI, h3, cmpI, h4]
    rw [cmpPs_at i (by omega) (by omega) hz (by rw [e]; decide), e]
  · rename_i h1 h2 h3 h4 h5
    have e : standI a[i] b[i] = 1 := by simp only [standI, h3, cmpI, Bool.false_eq_true, if_false]; rw [if_neg (by omega), if_pos h5]
    rw [cmpPs_at i (by omega) (by omega) hz (by rw [e]; decide), e]
  · rename_i h1 h2 h3 h4 h5
    have e : standI a[i] b[i] = 0 := by simp only [standI, h3, cmpI, Bool.false_eq_true, if_false]; rw [if_neg (by omega), if_neg (by omega)]
    refine ⟨rfl, i + 1, ⟨by omega, fun j h h' hj => ?_⟩, by omega, ⟨rfl, rfl, ieq (wsucc i (by omega)), trivial⟩, rfl⟩
    by_cases q : j = i
    · subst q; exact e
    · exact hz j h h' (by omega)
  · exact (cmpPs_end i (.inr (by omega)) hz).symm
  · exact (cmpPs_end i (.inl (by omega)) hz).symm
theorem part7_all {o : Int} {d : Dat} {C : Prt → Prop} (hv : C (prtV d.v)) (hn : ∀ n, C (prtN n)) : ∀ p, p ∈ part7 o d → C p := by
  intro p hp
  simp only [part7, List.mem_cons, List.not_mem_nil, or_false] at hp
  rcases hp with rfl | rfl | rfl | rfl | rfl | rfl | rfl
  · unfold fst1; split <;> (try split) <;> (try split) <;> first | exact hv | exact hn _
  · unfold fst2; split <;> (try split) <;> (try split) <;> first | exact hv | exact hn _
  · unfold fst3; split <;> (try split) <;> (try split) <;> first | exact hv | exact hn _
  all_goals exact hn _
set_option maxHeartbeats 1000000 in
theorem entity_pc [GlobF Tryz.prog] (n : Int) : PC Tryz.prog 60 [.sc (.int .i64 n)] (.sc (.bool (dP (0 ≤ n ∧ n < 9007199254740992)))) := by
  refine PC.of_body Tryz.func60 Tryz.ntmps60 rfl rfl rfl ?_
  repeat' first
    | (apply p1 (hd := rfl); case hop => first | (apply D_move; rfl) | (apply D_assign; rfl) | (apply D_pickT; rfl; rfl) | (apply D_pickF; rfl; rfl) | (apply D_int; rfl; rfl; rfl))
    | refine W_seq ?_
    | refine W_region ?_
    | refine WL_nil ?_
    | (refine idG ?_; first | refine g0t rfl rfl rfl ?_ | refine gr rfl rfl ?_ | refine gs rfl rfl (fun _ => ?_) (fun _ => ?_))
    | refine tn ?_
    | refine W_ret ?_
    | (refine idR ?_; refine ret1 rfl rfl rfl ?_)
    | refine Le.bool ?_
    | fail
  all_goals (refine dP_eq ?_; first | (rw [iLt_t]; omega) | (simp; omega))
set_option maxHeartbeats 4000000 in
theorem dmay1_pc [GlobF Tryz.prog] (d : Dat) (hl : d.v.s.length < 9223372036854775808) : PC Tryz.prog 32 [eD d] (.sc (.bool (dP (dmayP d)))) := by
  refine PC.of_body Tryz.func32 Tryz.ntmps32 rfl rfl rfl ?_
  repeat' first
    | (apply p1 (hd := rfl); case hop => first | (apply D_move; rfl) | (apply D_assign; rfl) | (apply D_pc (may1_pc d.v hl); rfl; exact .same rfl .nil) | (apply D_pc (entity_pc d.e); rfl; exact .same rfl .nil) | (apply D_pc (entity_pc d.a); rfl; exact .same rfl .nil) | (apply D_load1; rfl) | (apply D_fld; rfl) | (apply D_pickT; rfl; rfl) | (apply D_pickF; rfl; rfl) | (apply D_int; rfl; rfl; rfl) | (apply D_loadA; rfl; rfl) | (apply D_box; rfl; rfl))
    | refine W_seq ?_
    | refine W_region ?_
    | refine WL_nil ?_
    | (refine idG ?_; first | refine g0t rfl rfl rfl ?_ | refine gr rfl rfl ?_ | refine gs rfl rfl (fun _ => ?_) (fun _ => ?_))
    | refine tn ?_
    | refine W_ret ?_
    | (refine idR ?_; refine ret1 rfl rfl rfl ?_)
    | refine Le.bool ?_
    | fail
  all_goals
    have hm : mayB d.v = true ↔ MayP d.v := by simp only [mayB, dP_t]
    refine dP_eq ?_
    unfold dmayP
    rw [hm]
  all_goals first
    | (simp_all [iLt_t]; done)
    | (simp_all [iLt_t]; omega)
    | (simp only [iLt_t]; simp_all; omega)
noncomputable instance : DecidableEq Val := fun _ _ => Classical.propDecidable _
set_option maxHeartbeats 4000000 in
theorem dcmp1_pc [GlobF Tryz.prog] (o : Int) (a b : Dat) (ha : a.v.s.length < 9223372036854775808) : PC Tryz.prog 77 [.sc (.int .i64 o), eD a, eD b] (.sc (.int .i64 (if 1 ≤ o ∧ o ≤ 4 then cmpPs (part7 o a) (part7 o b) else 0))) := by
  refine PC.of_body Tryz.func77 Tryz.ntmps77 rfl rfl rfl ?_
  repeat' first
    | (apply p1 (hd := rfl); case hop => first | (apply D_move; rfl) | (apply D_assign; rfl) | (apply D_pc (parts1_pc o a); rfl; exact .same rfl (.same rfl .nil)) | (apply D_pc (parts1_pc o b); rfl; exact .same rfl (.same rfl .nil)) | (apply D_pc (cmp2_pc (part7 o a) (part7 o b) (by rw [part7_len]; decide) (part7_all ha (fun n => (by decide : (0 : Nat) < 9223372036854775808)))); rfl; exact .same rfl (.same rfl .nil)) | (apply D_pickT; rfl; rfl) | (apply D_pickF; rfl; rfl) | (apply D_int; rfl; rfl; rfl) | (apply D_loadW; rfl; rfl) | (apply D_box; rfl; rfl))
    | refine W_seq ?_
    | refine W_region ?_
    | (refine idC ?_; first | refine c1 rfl ?_ | refine cs rfl (fun _ => ?_) (fun _ => ?_))
    | refine WL_nil ?_
    | (refine idG ?_; first | refine g0f rfl rfl rfl ?_ | refine gr rfl rfl ?_ | refine gs rfl rfl (fun _ => ?_) (fun _ => ?_))
    | refine tn ?_
    | refine tr ?_
    | refine W_skip ?_
    | refine W_ret ?_
    | (refine idR ?_; refine ret1 rfl rfl rfl ?_)
    | refine Le.int ?_
    | fail
  all_goals first
    | (rw [if_neg (by omega)])
    | (rw [if_pos (by omega)])
instance : Inhabited Val := ⟨val0⟩
instance : Inhabited Dat := ⟨dat0⟩
noncomputable instance : DecidableEq Dat := fun _ _ => Classical.propDecidable _
theorem has1b_pc [GlobF Tryz.prog] (o : Int) (d : Dat) : PC Tryz.prog 76 [.sc (.int .i64 o), eD d] (.sc (.bool (hasB o d))) := dhas1_pc o d
theorem dcmp1c_pc [GlobF Tryz.prog] (o : Int) (ho : 1 ≤ o ∧ o ≤ 4) (a b : Dat) (ha : a.v.s.length < 9223372036854775808) : PC Tryz.prog 77 [.sc (.int .i64 o), eD a, eD b] (.sc (.int .i64 (cmpD o a b))) := by
  have := dcmp1_pc o a b ha
  rw [if_pos ho] at this; exact this
theorem insL_app {α : Type} (c : α → α → Int) (m : List α) (x : α) : insL c (m ++ [x]) = insC c x (insL c m) := by unfold insL; rw [List.foldl_append]; rfl
theorem insL_le {α : Type} (c : α → α → Int) (m : List α) : (insL c m).length ≤ m.length := by
  have := insL_len c m m.length (Nat.le_refl _)
  rwa [List.take_length] at this
theorem insD_mem (o : Int) (l : List Dat) (p : Dat) : p ∈ insL (cmpD o) l → p ∈ l := by
  unfold insL
  rw [fold_sortC (wc_cmpD o) (cmpD_z o), sortC_mem]; exact id
theorem insD_eq (o : Int) (l : List Dat) (ho : 1 ≤ o ∧ o ≤ 4) : insL (cmpD o) (l.filter (hasB o)) = dsortL o l := by
  rw [dsortL, if_pos ho]; exact fold_sortC (wc_cmpD o) (cmpD_z o) _
attribute [local irreducible] insL insC cmpD dsortL hasB in
set_option maxHeartbeats 8000000 in
theorem dsort1_pc [GlobF Tryz.prog] (o : Int) (l : List Dat) (hl : l.length * 80 ≤ 140737488355328) (hs : ∀ p, p ∈ l → p.v.s.length < 9223372036854775808) : PC Tryz.prog 42 [.sc (.int .i64 o), .sl none 9 (l.map dC)] (.sl none 9 ((dsortL o l).map dC)) := by
  by_cases ho : 1 ≤ o ∧ o ≤ 4
  rotate_left 1
  · rw [dsortL, if_neg ho]
    refine PC.of_body Tryz.func42 Tryz.ntmps42 rfl rfl rfl ?_
    repeat' first
      | (apply p1 (hd := rfl); case hop => first | (apply D_move; rfl) | (apply D_assign; rfl) | (apply D_pickT; rfl; rfl) | (apply D_pickF; rfl; rfl) | (apply D_int; rfl; rfl; rfl))
      | refine W_seq ?_
      | refine W_region ?_
      | (refine idC ?_; first | refine c1 rfl ?_ | refine cs rfl (fun _ => ?_) (fun _ => ?_))
      | refine WL_nil ?_
      | (refine idG ?_; first | refine g0f rfl rfl rfl ?_ | refine gr rfl rfl ?_ | refine gs rfl rfl (fun _ => ?_) (fun _ => ?_))
      | refine tn ?_
      | refine tr ?_
      | refine W_skip ?_
      | refine W_block ?_
      | refine W_ret ?_
      | (refine idR ?_; refine ret1 rfl rfl rfl ?_)
      | fail
    all_goals first
      | exact Le.nil rfl
      | (exfalso; apply ho; omega)
  rw [← insD_eq o l ho]
  refine PC.of_body Tryz.func42 Tryz.ntmps42 rfl rfl rfl ?_
  repeat' first
    | (apply p1 (hd := rfl); case hop => first | (apply D_move; rfl) | (apply D_assign; rfl) | (apply D_pickT; rfl; rfl) | (apply D_pickF; rfl; rfl) | (apply D_int; rfl; rfl; rfl))
    | refine W_seq ?_
    | refine W_region ?_
    | (refine idC ?_; first | refine c1 rfl ?_ | refine cs rfl (fun _ => ?_) (fun _ => ?_))
    | refine WL_nil ?_
    | (refine idG ?_; first | refine g0f rfl rfl rfl ?_ | refine gr rfl rfl ?_ | refine gs rfl rfl (fun _ => ?_) (fun _ => ?_))
    | refine tn ?_
    | refine tr ?_
    | refine W_skip ?_
    | refine W_block ?_
    | refine W_ret ?_
    | (refine idR ?_; refine ret1 rfl rfl rfl ?_)
    | fail
  · exfalso; omega
  · exfalso; omega
  refine W_adopt 5 9 52 rfl ?_
  refine W_ren (rg' := [(0, .sc (.int .i64 o)), (1, .sl none 9 (l.map dC)), (5, .sl none 9 (([] : List Dat).map dC)), (6, .sc (.int .i64 0))]) (h' := []) [] ⟨by decide, fun r hr => absurd hr (Nat.not_lt_zero r), fun r hr => (by cases hr), ⟨⟨_, rfl, .pur⟩, ⟨_, rfl, .pur⟩, ⟨_, rfl, .slN⟩, ⟨_, rfl, .pur⟩, trivial⟩, trivial⟩ ?_
  refine W_loopR (X := Nat) (fun i => [(0, .sc (.int .i64 o)), (1, .sl none 9 (l.map dC)), (5, .sl none 9 ((insL (cmpD o) ((l.take i).filter (hasB o))).map dC)), (6, .sc (.int .i64 (i : Int)))]) (fun _ => [])
    (fun i => i ≤ l.length) (fun i => l.length - i) 0 (Nat.zero_le _) ⟨rfl, rfl, by simp [insL, lookO], rfl, trivial⟩ rfl ?_
  intro i hi
  have hlen : (insL (cmpD o) ((l.take i).filter (hasB o))).length ≤ i := by
    have h1 := insL_le (cmpD o) ((l.take i).filter (hasB o))
    have h2 := List.length_filter_le (hasB o) (l.take i)
    have h3 : (l.take i).length ≤ i := by rw [List.length_take]; omega
    omega
  have hsn : ∀ h : i < l.length, insL (cmpD o) ((l.take (i + 1)).filter (hasB o)) = if hasB o l[i] then insC (cmpD o) l[i] (insL (cmpD o) ((l.take i).filter (hasB o))) else insL (cmpD o) ((l.take i).filter (hasB o)) := fun h => by
    rw [filt_succ (hasB o) l i h]
    split
    · rw [insL_app]
    · rw [List.append_nil]
  have hfin : i = l.length → insL (cmpD o) ((l.take i).filter (hasB o)) = insL (cmpD o) (l.filter (hasB o)) := fun e => by rw [e, List.take_length]
  have hOs : ∀ p, p ∈ insL (cmpD o) ((l.take i).filter (hasB o)) → p.v.s.length < 9223372036854775808 := fun p hp => hs p (List.mem_of_mem_take ((List.mem_filter.1 (insD_mem o _ p hp)).1))
  generalize insL (cmpD o) ((l.take i).filter (hasB o)) = O at *
  repeat' first
    | (apply p1 (hd := rfl); case hop => first | (apply D_move; rfl) | (apply D_assign; rfl) | (apply D_pc (has1b_pc o l[i]); rfl; exact .same rfl (.same rfl .nil)) | (apply D_int; rfl; rfl; rfl) | (apply D_lenM; rfl) | (apply D_not; rfl) | (apply D_loadW; rfl; rfl) | (apply D_idxAn; rfl; rfl; (first | omega | (simp; done))))
    | refine W_seq ?_
    | refine W_region ?_
    | (refine idC ?_; refine cs rfl (fun _ => ?_) (fun _ => ?_))
    | refine WL_nil ?_
    | refine tn ?_
    | refine te ?_
    | (refine idB ?_; refine bh rfl ?_)
    | refine W_skip ?_
    | refine W_block ?_
    | refine W_exit ?_
    | refine W_ret ?_
    | (refine idR ?_; refine ret1 rfl rfl rfl ?_)
    | fail
  · rename_i h1 hx
    have hi1 : i < l.length := by omega
    have hsn := hsn hi1
    rw [if_neg (by rw [hx]; decide)] at hsn
    refine ⟨rfl, i + 1, by omega, by omega, [], ?_⟩
    refine ⟨by decide, fun r hr => absurd hr (Nat.not_lt_zero r), fun r hr => (by cases hr), ⟨⟨_, rfl, .pur⟩, ⟨_, rfl, .pur⟩, ⟨_, rfl, ?_⟩, ⟨_, rfl, ?_⟩, trivial⟩, trivial⟩
    · rw [hsn]; exact .slN
    · rw [wsucc i (by omega)]; exact .pur
  · rename_i h1 hx
    have hi1 : i < l.length := by omega
    have hsn := hsn hi1
    rw [if_pos hx] at hsn
    refine W_loopL (X := Nat) (fun n => [(0, .sc (.int .i64 o)), (1, .sl none 9 (l.map dC)), (5, .sl none 9 (O.map dC)), (6, .sc (.int .i64 (i : Int))), (8, .sc (.int .i64 (n : Int)))]) (fun _ => [])
      (fun n => n ≤ O.length ∧ ∀ (j : Nat) (h : j < O.length), j < n → cmpD o O[j] l[i] < 0) (fun n => O.length - n) 0 ⟨Nat.zero_le _, fun j h hj => absurd hj (Nat.not_lt_zero j)⟩ ⟨rfl, rfl, rfl, rfl, rfl, trivial⟩ rfl ?_
    rintro n ⟨hn, hz⟩
    have hat := insC_at (c := cmpD o) l[i] n O hn hz
    repeat' first
      | (refine W_adopt 9 9 52 rfl ?_)
      | (apply p1 (hd := rfl); case hop => first | (apply D_move; rfl) | (apply D_assign; rfl) | (apply D_int; rfl; rfl; rfl) | (apply D_loadW; rfl; rfl) | (apply D_idxAn; rfl; rfl; (first | omega | (simp; done))) | (apply D_lit; rfl; rfl; rfl; rfl) | (apply D_slVhM; rfl; rfl; all_goals first | omega | ((repeat rw [w64 _ (by omega) (by omega)]); omega) | decide) | (apply D_slVlM; rfl; rfl; all_goals first | omega | ((repeat rw [w64 _ (by omega) (by omega)]); omega) | decide))
      | refine W_seq ?_
      | refine W_region ?_
      | (refine idC ?_; first | refine c0 rfl ?_ | refine cs rfl (fun _ => ?_) (fun _ => ?_))
      | refine WL_nil ?_
      | refine tn ?_
      | refine bn ?_
      | refine te ?_
      | (refine idB ?_; refine bh rfl ?_)
      | refine W_skip ?_
      | refine W_block ?_
      | refine W_exit ?_
      | (refine idAp ?_; refine m_app rfl rfl (by first | rfl | assumption | exact get_set (by assumption) | exact get_set (get_set (by assumption)) | exact get_set (get_set (get_set (by assumption))) | ((repeat first | assumption | exact get_last | (refine get_last2 ?_; focus (simp; done)) | apply get_set | apply get_app | (apply get_ne; focus omega)); done)) ?_ rfl rfl ?_ ?_ rfl ?_; (first | rfl | focus (simp only [List.length_map, List.length_append, List.length_cons, List.length_nil, List.length_take, List.length_drop]; omega) | focus (simp; done) | focus (simp; omega)); (first | focus (simp only [List.length_map, List.length_append, List.length_cons, List.length_nil, List.length_take, List.length_drop]; omega) | focus (simp; done) | focus (simp; omega)); (first | focus (simp only [List.length_map, List.length_append, List.length_cons, List.length_nil, List.length_take, List.length_drop]; omega) | focus (simp; done) | focus (simp; omega)))
      | (refine idW ?_; refine W_draw0 rfl ?_)
      | (apply d1 (hd := rfl); case hop => first | (apply D_move; rfl) | (apply D_pc (dcmp1c_pc o ho _ _ (hOs _ (List.getElem_mem _))); rfl; exact .same rfl (.same rfl (.same rfl .nil))) | (apply D_pickT; rfl; rfl) | (apply D_pickF; rfl; rfl) | (apply D_int; rfl; rfl; rfl) | (apply D_lenM; rfl) | (apply D_loadW; rfl; rfl) | (apply D_idxAn; rfl; rfl; (first | omega | (simp; done))))
      | (refine idDg ?_; first | refine dg0t rfl rfl rfl ?_ | refine dgr rfl rfl ?_ | refine dgs rfl rfl (fun _ => ?_) (fun _ => ?_))
      | refine WD_nil (by first | decide +kernel | kernel_rfl | rfl) ?_
      | fail
    all_goals first
      | (have hx : cmpD o O[n] l[i] < 0 := by assumption
         refine ⟨rfl, n + 1, ⟨by omega, fun j h hj => ?_⟩, by omega, ⟨rfl, rfl, rfl, rfl, ieq (wsucc n (by omega)), trivial⟩, rfl⟩
         by_cases e : j = n
         · subst e; exact hx
         · exact hz j h (by omega))
      | (exfalso; omega)
      | (have hx : cmpD o O[n] l[i] = 0 := by assumption
         have hnl : n < O.length := by omega
         have e := (hat.1 hnl (by omega)).1 hx
         refine ⟨rfl, i + 1, by omega, by omega, [], ?_⟩
         refine ⟨by decide, fun r hr => absurd hr (Nat.not_lt_zero r), fun r hr => (by cases hr), ⟨⟨_, rfl, .pur⟩, ⟨_, rfl, .pur⟩, ⟨_, rfl, ?_⟩, ⟨_, rfl, ?_⟩, trivial⟩, trivial⟩
         · rw [hsn, e]; exact .slN
         · rw [wsucc i (by omega)]; exact .pur)
      | (have hx : cmpD o O[n] l[i] ≠ 0 := by assumption
         have hnl : n < O.length := by omega
         have e := (hat.1 hnl (by omega)).2 hx
         refine ⟨rfl, i + 1, by omega, by omega, [], ?_⟩
         refine ⟨by decide, fun r hr => absurd hr (Nat.not_lt_zero r), fun r hr => (by cases hr), ⟨⟨_, rfl, .pur⟩, ⟨_, rfl, .pur⟩, ⟨_, rfl, ?_⟩, ⟨_, rfl, ?_⟩, trivial⟩, trivial⟩
         · have e2 : (insL (cmpD o) ((l.take (i + 1)).filter (hasB o))).map dC = [] ++ (O.take (n : Int).toNat).map dC ++ [dC l[i]] ++ (O.drop (n : Int).toNat).map dC := by rw [hsn, e]; simp
           rw [e2]; exact .slN
         · rw [wsucc i (by omega)]; exact .pur)
      | (have hnl : n = O.length := by omega
         have e := hat.2 hnl
         refine ⟨rfl, i + 1, by omega, by omega, [], ?_⟩
         refine ⟨by decide, fun r hr => absurd hr (Nat.not_lt_zero r), fun r hr => (by cases hr), ⟨⟨_, rfl, .pur⟩, ⟨_, rfl, .pur⟩, ⟨_, rfl, ?_⟩, ⟨_, rfl, ?_⟩, trivial⟩, trivial⟩
         · have e2 : (insL (cmpD o) ((l.take (i + 1)).filter (hasB o))).map dC = [] ++ (O.take (n : Int).toNat).map dC ++ [dC l[i]] ++ (O.drop (n : Int).toNat).map dC := by rw [hsn, e, hnl]; simp
           rw [e2]; exact .slN
         · rw [wsucc i (by omega)]; exact .pur)
  · rw [← hfin (by omega)]
    exact Le.of_eq rfl
end Go.Proofs
