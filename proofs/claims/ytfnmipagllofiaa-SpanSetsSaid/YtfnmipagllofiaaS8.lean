/- Contracts of the document's sets of instants: what two lists have; Make, Two, Covers. -/
import Derived.Test.YtfnmipagllofiaaS7
import Derived.Test.YtfnmipagllofiaaOps26
namespace Go.Proofs
open Go.AL Go.Sort
attribute [local irreducible] Go.AL.W Go.AL.WL Go.AL.WD Go.AL.POp Go.AL.PPOp Go.AL.POpS Go.AL.PC Go.AL.AC Go.AL.YW Go.AL.Ret Go.AL.Le Go.AL.thn Go.AL.inBlk Go.AL.scp

noncomputable def selB (w : Int) (a b : List Sp) (v : Int) : Bool :=
  if w = 0 then (dP (inS a v) || dP (inS b v)) else if w = 1 then (dP (inS a v) && dP (inS b v)) else (dP (inS a v) && !dP (inS b v))
noncomputable def gE (l : List Sp) (i : Nat) : Int := (endsL l)[i]?.getD 0
noncomputable def ofJ (w : Int) (a b : List Sp) (i : Nat) : List Sp := ofI (gE (a ++ b)) (selB w a b) i
/-- What the document's way gives of two lists. -/
noncomputable def ofL (w : Int) (a b : List Sp) : List Sp := ofJ w a b ((endsL (a ++ b)).length - 1)
theorem gE_at {l : List Sp} {i : Nat} (h : i < (endsL l).length) : gE l i = (endsL l)[i] := by unfold gE; rw [List.getElem?_eq_getElem h]; rfl
theorem ofJ_len (w : Int) (a b : List Sp) (i : Nat) : (ofJ w a b i).length ≤ i := ofI_len _ _ _
theorem ofJ_succ (w : Int) (a b : List Sp) (i : Nat) (E : List Int) (hE : endsL (a ++ b) = E) (h : i + 1 < E.length) :
    ofJ w a b (i + 1) = if selB w a b E[i] = true then jo (ofJ w a b i) E[i] E[i + 1] else ofJ w a b i := by
  subst hE
  unfold ofJ
  rw [ofI, gE_at h, gE_at (i := i) (by omega)]
theorem ends_len (l : List Sp) : (endsL l).length ≤ 2 * l.length := by
  unfold endsL insL
  rw [fold_sortC wc_int cmpI_zz]
  have := sortC_len cmpI (ptsL l)
  rw [pts_len] at this; exact this
theorem ofL_len (w : Int) (a b : List Sp) : (ofL w a b).length ≤ 2 * (a.length + b.length) := by
  have h1 := ofJ_len w a b ((endsL (a ++ b)).length - 1)
  have h2 := ends_len (a ++ b)
  rw [List.length_append] at h2
  unfold ofL; omega
theorem ofL_gen (w : Int) (a b : List Sp) {C : Prop → Prop → Prop} (hsel : ∀ v, selB w a b v = true ↔ C (inS a v) (inS b v)) (h0 : ∀ p q, C p q → p ∨ q) (hC : ∀ p q p' q', (p ↔ p') → (q ↔ q') → C p q → C p' q') :
    SetP (ofL w a b) ∧ ∀ x, inS (ofL w a b) x ↔ C (inS a x) (inS b x) := by
  refine of_ok (g := gE (a ++ b)) (n := (endsL (a ++ b)).length) (fun i j hij hj => ?_) (fun s hs => ?_) hsel h0 hC
  · rw [gE_at hj, gE_at (by omega)]
    exact List.pairwise_iff_getElem.1 (ends_rise (a ++ b)) i j (by omega) hj hij
  · obtain ⟨h1, h2⟩ := pts_mem (a ++ b) s hs
    obtain ⟨k, hk, e⟩ := List.getElem_of_mem ((ends_mem _ _).2 h1)
    obtain ⟨m, hm, e2⟩ := List.getElem_of_mem ((ends_mem _ _).2 h2)
    exact ⟨⟨k, hk, by rw [gE_at hk, e]⟩, m, hm, by rw [gE_at hm, e2]⟩
theorem ofL_ok0 (a b : List Sp) : SetP (ofL 0 a b) ∧ ∀ x, inS (ofL 0 a b) x ↔ (inS a x ∨ inS b x) :=
  ofL_gen 0 a b (C := fun p q => p ∨ q) (fun v => by simp [selB, dP_t]) (fun _ _ h => h) (fun p q p' q' h1 h2 h => by rwa [← h1, ← h2])
theorem ofL_ok1 (a b : List Sp) : SetP (ofL 1 a b) ∧ ∀ x, inS (ofL 1 a b) x ↔ (inS a x ∧ inS b x) :=
  ofL_gen 1 a b (C := fun p q => p ∧ q) (fun v => by simp [selB, dP_t]) (fun _ _ h => .inl h.1) (fun p q p' q' h1 h2 h => by rwa [← h1, ← h2])
theorem ofL_ok2 (a b : List Sp) : SetP (ofL 2 a b) ∧ ∀ x, inS (ofL 2 a b) x ↔ (inS a x ∧ ¬ inS b x) :=
  ofL_gen 2 a b (C := fun p q => p ∧ ¬ q) (fun v => by simp [selB, dP_t, dP_f]) (fun _ _ h => .inl h.1) (fun p q p' q' h1 h2 h => by rwa [← h1, ← h2])
theorem ren1 {rg rg' : List (Nat × AV)} {h : List AObj} {q e : Nat} {els : List (List AV)} [PurLL els] (hq : h[q]? = some (.row 2 e els)) (hr : RenL [q] rg rg') : Ren ⟨[], 0⟩ [q] rg h rg' [.row 2 e els] :=
  ⟨by simp, fun r hr => absurd hr (Nat.not_lt_zero r), fun r hr => (by cases hr), hr, ⟨⟨_, hq, .row _ _ _⟩, trivial⟩⟩
set_option maxHeartbeats 64000000 in
theorem of_pc [GlobF Try.prog] (w : Int) (hw : w = 0 ∨ w = 1 ∨ w = 2) (a b : List Sp) (hl : a.length + b.length < 4398046511104) : PC Try.prog 33 [sl2 a, sl2 b, .sc (.int .i64 w)] (sl2 (ofL w a b)) := by
  have he : PC Try.prog 47 [.sl none 2 (([] ++ a.map sC) ++ b.map sC)] (sl1 (endsL (a ++ b))) := by
    have := ends_pc (a ++ b) (by rw [List.length_append]; omega)
    have e : ([] ++ a.map sC) ++ b.map sC = (a ++ b).map sC := by simp
    rw [e]; exact this
  have hel := ends_len (a ++ b)
  rw [List.length_append] at hel
  refine PC.of_body Try.func33 Try.ntmps33 rfl rfl rfl ?_
  repeat' first
    | (refine W_adopt 7 2 48 rfl ?_)
    | (apply p1 (hd := rfl); case hop => first | (apply D_move; rfl) | (apply D_assign; rfl) | (apply D_pc he; rfl; exact .tok rfl .nil) | (apply D_load1; rfl) | (apply D_fld; rfl) | (apply D_pickT; rfl; rfl) | (apply D_pickF; rfl; rfl) | (apply D_int; rfl; rfl; rfl) | (apply D_lenM; rfl) | (apply D_len_sl; rfl) | (apply D_not; rfl) | (apply D_loadW; rfl; rfl) | (apply D_loadA; rfl; rfl) | (apply D_len_nil; rfl) | (apply D_idxAn; rfl; rfl; (first | omega | (simp; done))) | (apply D_idxA; rfl; rfl; omega; (first | omega | (simp; done) | (simp; omega))) | (apply D_idxA0; rfl; rfl; omega; (first | omega | (simp; done) | (simp; omega))) | (apply D_lit; rfl; rfl; rfl; rfl) | exact D_build rfl | exact D_buildA rfl | exact D_fldB rfl | (apply D_lenR; rfl) | (apply D_ixRn; rfl; rfl; (first | omega | (simp; done))) | (apply D_ixR; rfl; rfl; all_goals first | omega | ((repeat rw [w64 _ (by omega) (by omega)]); omega) | decide))
    | refine W_seq ?_
    | refine W_region ?_
    | (refine idC ?_; first | refine c1 rfl ?_ | refine c0 rfl ?_ | refine cs rfl (fun _ => ?_) (fun _ => ?_))
    | refine WL_nil ?_
    | (refine idG ?_; first | refine g0t rfl rfl rfl ?_ | refine g0f rfl rfl rfl ?_ | refine g0u rfl rfl rfl ?_ | refine gr rfl rfl ?_ | refine gs rfl rfl (fun _ => ?_) (fun _ => ?_) | refine grn rfl rfl ?_)
    | refine tn ?_
    | refine tr ?_
    | refine br ?_
    | refine bn ?_
    | refine te ?_
    | (refine idB ?_; first | refine bh rfl ?_ | refine bm rfl ?_)
    | refine W_skip ?_
    | refine W_block ?_
    | refine W_exit ?_
    | refine W_ret ?_
    | refine W_label ?_
    | refine W_scope ?_
    | refine sn ?_
    | refine sr ?_
    | refine se ?_
    | (refine idR ?_; first | refine ret1 rfl rfl rfl ?_ | refine rL1 rfl (by first | exact trivial | exact ⟨rfl, trivial⟩) (by first | exact ResO.tmp rfl | exact ResO.cellBA rfl rfl rfl | exact ResO.cellB1 rfl rfl rfl | exact ResO.cellEA rfl rfl | exact ResO.cellE1 rfl) ?_)
    | (refine idLd ?_; first | refine p1L (D_loadB1 rfl rfl rfl) rfl ?_ | refine p1L (D_loadBA rfl rfl rfl) rfl ?_ | refine p1L (D_loadB1 rfl (by (repeat first | assumption | exact get_last | (refine get_last2 ?_; focus (simp; done)) | apply get_set | apply get_app | (apply get_ne; focus omega) | (apply get_ne; focus (simp only [List.length_set, List.length_append, List.length_cons, List.length_nil]; omega))); done) (by rfl)) rfl ?_ | refine p1L (D_loadBA rfl (by (repeat first | assumption | exact get_last | (refine get_last2 ?_; focus (simp; done)) | apply get_set | apply get_app | (apply get_ne; focus omega) | (apply get_ne; focus (simp only [List.length_set, List.length_append, List.length_cons, List.length_nil]; omega))); done) (by rfl)) rfl ?_)
    | (refine idS ?_; first | refine pS (S_store rfl rfl rfl rfl rfl rfl rfl) ?_ | refine pS (S_store rfl rfl rfl (by (repeat first | assumption | exact get_last | (refine get_last2 ?_; focus (simp; done)) | apply get_set | apply get_app | (apply get_ne; focus omega) | (apply get_ne; focus (simp only [List.length_set, List.length_append, List.length_cons, List.length_nil]; omega))); done) (by rfl) (by rfl) (by rfl)) ?_)
    | refine Le.bool ?_
    | refine Le.int ?_
    | refine Le.str ?_
    | (refine idAp ?_; refine m_app rfl rfl (by first | rfl | assumption | exact get_set (by assumption) | exact get_set (get_set (by assumption)) | exact get_set (get_set (get_set (by assumption))) | ((repeat first | assumption | exact get_last | (refine get_last2 ?_; focus (simp; done)) | apply get_set | apply get_app | (apply get_ne; focus omega)); done)) ?_ rfl rfl ?_ ?_ rfl ?_; (first | rfl | focus (simp only [List.length_map, List.length_append, List.length_cons, List.length_nil]; omega) | focus (simp; done) | focus (simp; omega)); (first | focus (simp only [List.length_map, List.length_append, List.length_cons, List.length_nil]; omega) | focus (simp; done) | focus (simp; omega)); (first | focus (simp only [List.length_map, List.length_append, List.length_cons, List.length_nil]; omega) | focus (simp; done) | focus (simp; omega)))
    | (refine idAp ?_; refine m_appB rfl rfl rfl (by first | rfl | assumption | exact get_set (by assumption) | exact get_set (get_set (by assumption)) | exact get_set (get_set (get_set (by assumption))) | ((repeat first | assumption | exact get_last | (refine get_last2 ?_; focus (simp; done)) | apply get_set | apply get_app | (apply get_ne; focus omega)); done)) ?_ rfl rfl ?_ ?_ rfl ?_; (first | rfl | focus (simp only [List.length_map, List.length_append, List.length_cons, List.length_nil]; omega) | focus (simp; done) | focus (simp; omega)); (first | focus (simp only [List.length_map, List.length_append, List.length_cons, List.length_nil]; omega) | focus (simp; done) | focus (simp; omega)); (first | focus (simp only [List.length_map, List.length_append, List.length_cons, List.length_nil]; omega) | focus (simp; done) | focus (simp; omega)))
    | (refine idW ?_; first | refine W_draw0 rfl ?_ | refine W_draw1 rfl ?_ | refine W_draw2 rfl ?_ | refine W_draw3 rfl ?_)
    | (apply d1 (hd := rfl); case hop => first | (apply D_move; rfl) | (apply D_assign; rfl) | (apply D_pc he; rfl; exact .tok rfl .nil) | (apply D_load1; rfl) | (apply D_fld; rfl) | (apply D_pickT; rfl; rfl) | (apply D_pickF; rfl; rfl) | (apply D_int; rfl; rfl; rfl) | (apply D_lenM; rfl) | (apply D_len_sl; rfl) | (apply D_not; rfl) | (apply D_loadW; rfl; rfl) | (apply D_loadA; rfl; rfl) | (apply D_len_nil; rfl) | (apply D_idxAn; rfl; rfl; (first | omega | (simp; done))) | (apply D_idxA; rfl; rfl; omega; (first | omega | (simp; done) | (simp; omega))) | (apply D_idxA0; rfl; rfl; omega; (first | omega | (simp; done) | (simp; omega))) | (apply D_lit; rfl; rfl; rfl; rfl) | exact D_build rfl | exact D_buildA rfl | exact D_fldB rfl | (apply D_lenR; rfl) | (apply D_ixRn; rfl; rfl; (first | omega | (simp; done))) | (apply D_ixR; rfl; rfl; all_goals first | omega | ((repeat rw [w64 _ (by omega) (by omega)]); omega) | decide))
    | (refine idDg ?_; first | refine dg0t rfl rfl rfl ?_ | refine dg0f rfl rfl rfl ?_ | refine dg0u rfl rfl rfl ?_ | refine dgr rfl rfl ?_ | refine dgs rfl rfl (fun _ => ?_) (fun _ => ?_))
    | (refine idDn ?_; first | refine dL _ (fun hp' hs => D_loadB1 rfl (hs.trans rfl) rfl) rfl ?_ | refine dL _ (fun hp' hs => D_loadBA rfl (hs.trans rfl) rfl) rfl ?_ | refine dS (S_store rfl rfl rfl rfl rfl rfl rfl) rfl ?_ | refine dV (S_alloc 0 rfl) rfl rfl ?_ | refine dV (S_alloc 1 rfl) rfl rfl ?_ | refine dV (S_alloc 2 rfl) rfl rfl ?_ | refine dV (S_alloc 3 rfl) rfl rfl ?_ | refine dV (S_alloc 4 rfl) rfl rfl ?_ | refine dV (S_alloc 5 rfl) rfl rfl ?_ | refine dV (S_alloc 6 rfl) rfl rfl ?_ | refine dV (S_alloc 7 rfl) rfl rfl ?_)
    | refine WD_nil (by first | decide +kernel | kernel_rfl | rfl) ?_
  refine W_ren (rg' := [(0, sl2 a), (1, sl2 b), (2, .sc (.int .i64 w)), (8, sl1 (endsL (a ++ b))), (9, .sc (.slice none 0 0)), (10, .sc (.int .i64 0))]) (h' := []) [] ⟨by decide, fun r hr => absurd hr (Nat.not_lt_zero r), fun r hr => (by cases hr), ⟨⟨_, rfl, .pur⟩, ⟨_, rfl, .pur⟩, ⟨_, rfl, .pur⟩, ⟨_, rfl, .pur⟩, ⟨_, rfl, .pur⟩, ⟨_, rfl, .pur⟩, trivial⟩, trivial⟩ ?_
  refine W_adoptG 9 2 48 rfl ?_
  refine W_loopR (X := Nat) (fun i => [(0, sl2 a), (1, sl2 b), (2, .sc (.int .i64 w)), (8, sl1 (endsL (a ++ b))), (9, rowA 0 (ofJ w a b i).length), (10, .sc (.int .i64 (i : Int)))]) (fun i => [.row 2 48 ((ofJ w a b i).map sC)])
    (fun i => i ≤ (endsL (a ++ b)).length - 1) (fun i => (endsL (a ++ b)).length - i) 0 (Nat.zero_le _) ⟨rfl, rfl, rfl, rfl, rfl, rfl, trivial⟩ rfl ?_
  intro i hi
  have hJ := ofJ_succ w a b i
  have hlen := ofJ_len w a b i
  have hfin : i = (endsL (a ++ b)).length - 1 → ofJ w a b i = ofL w a b := fun e => by rw [e]; rfl
  have hs1 : IntKind.i64.wrap ((i : Int) + 1) = ((i + 1 : Nat) : Int) := wsucc i (by omega)
  generalize ofJ w a b i = O at *
  generalize ofL w a b = OL at *
  generalize endsL (a ++ b) = E at *
  replace hJ := hJ E rfl
  by_cases hil : i + 1 < E.length
  · replace hJ := hJ hil
    have f1 := rin_pc a (E[i]'(by omega)) (by omega)
    have f2 := rin_pc b (E[i]'(by omega)) (by omega)
    unfold selB at hJ
    generalize dP (inS a (E[i]'(by omega))) = x at *
    generalize dP (inS b (E[i]'(by omega))) = y at *
    have hnt : Value.bool (bNot true) = .bool false := by simp [bNot]
    have hnf : Value.bool (bNot false) = .bool true := by simp [bNot]
    have e00 : Value.bool (iEq 0 0) = .bool true := by rw [(iEq_t _ _).mpr rfl]
    have e01 : Value.bool (iEq 0 1) = .bool false := by rw [(iEq_f _ _).mpr (by decide)]
    have e02 : Value.bool (iEq 0 2) = .bool false := by rw [(iEq_f _ _).mpr (by decide)]
    have e10 : Value.bool (iEq 1 0) = .bool false := by rw [(iEq_f _ _).mpr (by decide)]
    have e11 : Value.bool (iEq 1 1) = .bool true := by rw [(iEq_t _ _).mpr rfl]
    have e12 : Value.bool (iEq 1 2) = .bool false := by rw [(iEq_f _ _).mpr (by decide)]
    have e20 : Value.bool (iEq 2 0) = .bool false := by rw [(iEq_f _ _).mpr (by decide)]
    have e21 : Value.bool (iEq 2 1) = .bool false := by rw [(iEq_f _ _).mpr (by decide)]
    have e22 : Value.bool (iEq 2 2) = .bool true := by rw [(iEq_t _ _).mpr rfl]
    rcases snoc_cases O with rfl | ⟨o, p, rfl⟩
    · have hl0 : Value.bool (iLt 0 ((([] : List Sp).length : Nat) : Int)) = .bool false := by rw [(iLt_f _ _).mpr (by simp)]
      rcases hw with rfl | rfl | rfl <;> cases x <;> cases y <;> simp at hJ
      all_goals
        repeat' first
          | (refine idW ?_; refine W_dS0 (id := 16) 12 rfl rfl (by decide +kernel) ?_; simp only [List.take_succ_cons, List.take_zero, List.drop_succ_cons, List.drop_zero])
          | (apply p1 (hd := rfl); case hop => first | (apply D_move; rfl) | (apply D_assign; rfl) | (apply D_pc f1; rfl; exact .same rfl (.same rfl .nil)) | (apply D_pc f2; rfl; exact .same rfl (.same rfl .nil)) | exact D_sc (D_int rfl rfl rfl) (congrArg _ hs1) | exact D_sc (D_int rfl rfl rfl) e00 | exact D_sc (D_int rfl rfl rfl) e01 | exact D_sc (D_int rfl rfl rfl) e02 | exact D_sc (D_int rfl rfl rfl) e10 | exact D_sc (D_int rfl rfl rfl) e11 | exact D_sc (D_int rfl rfl rfl) e12 | exact D_sc (D_int rfl rfl rfl) e20 | exact D_sc (D_int rfl rfl rfl) e21 | exact D_sc (D_int rfl rfl rfl) e22 | exact D_sc (D_int rfl rfl rfl) hl0 | exact D_sc (D_not rfl) hnt | exact D_sc (D_not rfl) hnf | exact D_lenG rfl | (apply D_load1; rfl) | (apply D_fld; rfl) | (apply D_pickT; rfl; rfl) | (apply D_pickF; rfl; rfl) | (apply D_int; rfl; rfl; rfl) | (apply D_lenM; rfl) | (apply D_len_sl; rfl) | (apply D_not; rfl) | (apply D_loadW; rfl; rfl) | (apply D_loadA; rfl; rfl) | (apply D_len_nil; rfl) | (apply D_idxAn; rfl; rfl; (first | omega | (simp; done))) | (apply D_idxA; rfl; rfl; omega; (first | omega | (simp; done) | (simp; omega))) | (apply D_idxA0; rfl; rfl; omega; (first | omega | (simp; done) | (simp; omega))) | (apply D_lit; rfl; rfl; rfl; rfl) | exact D_build rfl | exact D_buildA rfl | exact D_fldB rfl | (apply D_lenR; rfl) | (apply D_ixRn; rfl; rfl; (first | omega | (simp; done))) | (apply D_ixR; rfl; rfl; all_goals first | omega | ((repeat rw [w64 _ (by omega) (by omega)]); omega) | decide))
          | refine W_seq ?_
          | refine W_region ?_
          | (refine idC ?_; first | refine c1 rfl ?_ | refine c0 rfl ?_ | refine cs rfl (fun _ => ?_) (fun _ => ?_))
          | refine WL_nil ?_
          | (refine idG ?_; first | refine g0t rfl rfl rfl ?_ | refine g0f rfl rfl rfl ?_ | refine g0u rfl rfl rfl ?_ | refine gr rfl rfl ?_ | refine gs rfl rfl (fun _ => ?_) (fun _ => ?_) | refine grn rfl rfl ?_)
          | refine tn ?_
          | refine tr ?_
          | refine br ?_
          | refine bn ?_
          | refine te ?_
          | (refine idB ?_; first | refine bh rfl ?_ | refine bm rfl ?_)
          | refine W_skip ?_
          | refine W_block ?_
          | refine W_exit ?_
          | refine W_ret ?_
          | refine W_label ?_
          | refine W_scope ?_
          | refine sn ?_
          | refine sr ?_
          | refine se ?_
          | (refine idR ?_; first | refine ret1 rfl rfl rfl ?_ | refine rL1 rfl (by first | exact trivial | exact ⟨rfl, trivial⟩) (by first | exact ResO.tmp rfl | exact ResO.cellBA rfl rfl rfl | exact ResO.cellB1 rfl rfl rfl | exact ResO.cellEA rfl rfl | exact ResO.cellE1 rfl) ?_)
          | (refine idLd ?_; first | refine p1L (D_loadB1 rfl rfl rfl) rfl ?_ | refine p1L (D_loadBA rfl rfl rfl) rfl ?_ | refine p1L (D_loadB1 rfl (by (repeat first | assumption | exact get_last | (refine get_last2 ?_; focus (simp; done)) | apply get_set | apply get_app | (apply get_ne; focus omega) | (apply get_ne; focus (simp only [List.length_set, List.length_append, List.length_cons, List.length_nil]; omega))); done) (by rfl)) rfl ?_ | refine p1L (D_loadBA rfl (by (repeat first | assumption | exact get_last | (refine get_last2 ?_; focus (simp; done)) | apply get_set | apply get_app | (apply get_ne; focus omega) | (apply get_ne; focus (simp only [List.length_set, List.length_append, List.length_cons, List.length_nil]; omega))); done) (by rfl)) rfl ?_)
          | (refine idS ?_; first | refine pS (S_store rfl rfl rfl rfl rfl rfl rfl) ?_ | refine pS (S_store rfl rfl rfl (by (repeat first | assumption | exact get_last | (refine get_last2 ?_; focus (simp; done)) | apply get_set | apply get_app | (apply get_ne; focus omega) | (apply get_ne; focus (simp only [List.length_set, List.length_append, List.length_cons, List.length_nil]; omega))); done) (by rfl) (by rfl) (by rfl)) ?_)
          | refine Le.bool ?_
          | refine Le.int ?_
          | refine Le.str ?_
          | (refine idAp ?_; refine m_app rfl rfl (by first | rfl | assumption | exact get_set (by assumption) | exact get_set (get_set (by assumption)) | exact get_set (get_set (get_set (by assumption))) | ((repeat first | assumption | exact get_last | (refine get_last2 ?_; focus (simp; done)) | apply get_set | apply get_app | (apply get_ne; focus omega)); done)) ?_ rfl rfl ?_ ?_ rfl ?_; (first | rfl | focus (simp only [List.length_map, List.length_append, List.length_cons, List.length_nil]; omega) | focus (simp; done) | focus (simp; omega)); (first | focus (simp only [List.length_map, List.length_append, List.length_cons, List.length_nil]; omega) | focus (simp; done) | focus (simp; omega)); (first | focus (simp only [List.length_map, List.length_append, List.length_cons, List.length_nil]; omega) | focus (simp; done) | focus (simp; omega)))
          | (refine idAp ?_; refine m_appB rfl rfl rfl (by first | rfl | assumption | exact get_set (by assumption) | exact get_set (get_set (by assumption)) | exact get_set (get_set (get_set (by assumption))) | ((repeat first | assumption | exact get_last | (refine get_last2 ?_; focus (simp; done)) | apply get_set | apply get_app | (apply get_ne; focus omega)); done)) ?_ rfl rfl ?_ ?_ rfl ?_; (first | rfl | focus (simp only [List.length_map, List.length_append, List.length_cons, List.length_nil]; omega) | focus (simp; done) | focus (simp; omega)); (first | focus (simp only [List.length_map, List.length_append, List.length_cons, List.length_nil]; omega) | focus (simp; done) | focus (simp; omega)); (first | focus (simp only [List.length_map, List.length_append, List.length_cons, List.length_nil]; omega) | focus (simp; done) | focus (simp; omega)))
          | (refine m_appG (d := 112) (els := []) (els' := [sC ⟨E[i]'(by omega), E[i + 1]'hil⟩]) rfl rfl rfl rfl (by simp) rfl (by simp) (by simp) rfl ?_)
          | (refine idW ?_; first | refine W_draw0 rfl ?_ | refine W_draw1 rfl ?_ | refine W_draw2 rfl ?_ | refine W_draw3 rfl ?_)
          | (apply d1 (hd := rfl); case hop => first | (apply D_move; rfl) | (apply D_assign; rfl) | (apply D_pc f1; rfl; exact .same rfl (.same rfl .nil)) | (apply D_pc f2; rfl; exact .same rfl (.same rfl .nil)) | exact D_sc (D_int rfl rfl rfl) (congrArg _ hs1) | exact D_sc (D_int rfl rfl rfl) e00 | exact D_sc (D_int rfl rfl rfl) e01 | exact D_sc (D_int rfl rfl rfl) e02 | exact D_sc (D_int rfl rfl rfl) e10 | exact D_sc (D_int rfl rfl rfl) e11 | exact D_sc (D_int rfl rfl rfl) e12 | exact D_sc (D_int rfl rfl rfl) e20 | exact D_sc (D_int rfl rfl rfl) e21 | exact D_sc (D_int rfl rfl rfl) e22 | exact D_sc (D_int rfl rfl rfl) hl0 | exact D_sc (D_not rfl) hnt | exact D_sc (D_not rfl) hnf | exact D_lenG rfl | (apply D_load1; rfl) | (apply D_fld; rfl) | (apply D_pickT; rfl; rfl) | (apply D_pickF; rfl; rfl) | (apply D_int; rfl; rfl; rfl) | (apply D_lenM; rfl) | (apply D_len_sl; rfl) | (apply D_not; rfl) | (apply D_loadW; rfl; rfl) | (apply D_loadA; rfl; rfl) | (apply D_len_nil; rfl) | (apply D_idxAn; rfl; rfl; (first | omega | (simp; done))) | (apply D_idxA; rfl; rfl; omega; (first | omega | (simp; done) | (simp; omega))) | (apply D_idxA0; rfl; rfl; omega; (first | omega | (simp; done) | (simp; omega))) | (apply D_lit; rfl; rfl; rfl; rfl) | exact D_build rfl | exact D_buildA rfl | exact D_fldB rfl | (apply D_lenR; rfl) | (apply D_ixRn; rfl; rfl; (first | omega | (simp; done))) | (apply D_ixR; rfl; rfl; all_goals first | omega | ((repeat rw [w64 _ (by omega) (by omega)]); omega) | decide))
          | (refine idDg ?_; first | refine dg0t rfl rfl rfl ?_ | refine dg0f rfl rfl rfl ?_ | refine dg0u rfl rfl rfl ?_ | refine dgr rfl rfl ?_ | refine dgs rfl rfl (fun _ => ?_) (fun _ => ?_))
          | (refine idDn ?_; first | refine dL _ (fun hp' hs => D_loadB1 rfl (hs.trans rfl) rfl) rfl ?_ | refine dL _ (fun hp' hs => D_loadBA rfl (hs.trans rfl) rfl) rfl ?_ | refine dS (S_store rfl rfl rfl rfl rfl rfl rfl) rfl ?_ | refine dV (S_alloc 0 rfl) rfl rfl ?_ | refine dV (S_alloc 1 rfl) rfl rfl ?_ | refine dV (S_alloc 2 rfl) rfl rfl ?_ | refine dV (S_alloc 3 rfl) rfl rfl ?_ | refine dV (S_alloc 4 rfl) rfl rfl ?_ | refine dV (S_alloc 5 rfl) rfl rfl ?_ | refine dV (S_alloc 6 rfl) rfl rfl ?_ | refine dV (S_alloc 7 rfl) rfl rfl ?_)
          | refine WD_nil (by first | decide +kernel | kernel_rfl | rfl) ?_
      all_goals first
        | (exfalso; omega)
        | (refine ⟨rfl, i + 1, by omega, by omega, [0], ren1 ?_ ⟨⟨_, rfl, .pur⟩, ⟨_, rfl, .pur⟩, ⟨_, rfl, .pur⟩, ⟨_, rfl, .pur⟩, ⟨_, rfl, ?_⟩, ⟨_, rfl, .pur⟩, trivial⟩⟩
           · rw [hJ]; rfl
           · rw [hJ]; exact mvRow rfl rfl)
        | (refine ⟨rfl, i + 1, by omega, by omega, [1], ren1 ?_ ⟨⟨_, rfl, .pur⟩, ⟨_, rfl, .pur⟩, ⟨_, rfl, .pur⟩, ⟨_, rfl, .pur⟩, ⟨_, rfl, ?_⟩, ⟨_, rfl, .pur⟩, trivial⟩⟩
           · rw [hJ, jo_nil]; rfl
           · rw [hJ, jo_nil]; exact mvRow rfl rfl)
        | skip
      all_goals trace_state
    · have hlo : (o ++ [p]).length = o.length + 1 := by simp
      rw [hlo] at hlen ⊢
      have hl1 : Value.bool (iLt 0 ((o.length + 1 : Nat) : Int)) = .bool true := by rw [(iLt_t _ _).mpr (by omega)]
      rcases hw with rfl | rfl | rfl <;> cases x <;> cases y <;> simp at hJ
      all_goals
        repeat' first
          | (refine idW ?_; refine W_dS0 (id := 16) 12 rfl rfl (by decide +kernel) ?_; simp only [List.take_succ_cons, List.take_zero, List.drop_succ_cons, List.drop_zero])
          | (refine dL 0 (fun hp' hs => D_ixRowN rfl (hs.trans rfl) (by simp) rfl (by omega)) rfl ?_)
          | (refine dL 0 (fun hp' hs => D_loadG1 rfl (hs.trans rfl) flat_get) rfl ?_)
          | (refine p1L (D_ixRowN rfl rfl (by simp) rfl (by omega)) rfl ?_)
          | (refine pS (S_storeG (r := 0) ((o ++ [(⟨p.f, E[i + 1]'hil⟩ : Sp)]).map sC) rfl rfl rfl rfl rfl rfl (by rw [flat2_len]; simp; omega) (by simp) sC_row flat_st (by simp)) ?_)
          | (apply p1 (hd := rfl); case hop => first | (apply D_move; rfl) | (apply D_assign; rfl) | (apply D_pc f1; rfl; exact .same rfl (.same rfl .nil)) | (apply D_pc f2; rfl; exact .same rfl (.same rfl .nil)) | exact D_sc (D_int rfl rfl rfl) (congrArg _ hs1) | exact D_sc (D_int rfl rfl rfl) e00 | exact D_sc (D_int rfl rfl rfl) e01 | exact D_sc (D_int rfl rfl rfl) e02 | exact D_sc (D_int rfl rfl rfl) e10 | exact D_sc (D_int rfl rfl rfl) e11 | exact D_sc (D_int rfl rfl rfl) e12 | exact D_sc (D_int rfl rfl rfl) e20 | exact D_sc (D_int rfl rfl rfl) e21 | exact D_sc (D_int rfl rfl rfl) e22 | exact D_sc (D_int rfl rfl rfl) hl1 | exact D_sc (D_not rfl) hnt | exact D_sc (D_not rfl) hnf | exact D_lenG rfl | exact D_sub1 rfl rfl (by omega) | (apply D_load1; rfl) | (apply D_fld; rfl) | (apply D_pickT; rfl; rfl) | (apply D_pickF; rfl; rfl) | (apply D_int; rfl; rfl; rfl) | (apply D_lenM; rfl) | (apply D_len_sl; rfl) | (apply D_not; rfl) | (apply D_loadW; rfl; rfl) | (apply D_loadA; rfl; rfl) | (apply D_len_nil; rfl) | (apply D_idxAn; rfl; rfl; (first | omega | (simp; done))) | (apply D_idxA; rfl; rfl; omega; (first | omega | (simp; done) | (simp; omega))) | (apply D_idxA0; rfl; rfl; omega; (first | omega | (simp; done) | (simp; omega))) | (apply D_lit; rfl; rfl; rfl; rfl) | exact D_build rfl | exact D_buildA rfl | exact D_fldB rfl | (apply D_lenR; rfl) | (apply D_ixRn; rfl; rfl; (first | omega | (simp; done))) | (apply D_ixR; rfl; rfl; all_goals first | omega | ((repeat rw [w64 _ (by omega) (by omega)]); omega) | decide))
          | refine W_seq ?_
          | refine W_region ?_
          | (refine idC ?_; first | refine c1 rfl ?_ | refine c0 rfl ?_ | refine cs rfl (fun _ => ?_) (fun _ => ?_))
          | refine WL_nil ?_
          | (refine idG ?_; first | refine g0t rfl rfl rfl ?_ | refine g0f rfl rfl rfl ?_ | refine g0u rfl rfl rfl ?_ | refine gr rfl rfl ?_ | refine gs rfl rfl (fun _ => ?_) (fun _ => ?_) | refine grn rfl rfl ?_)
          | refine tn ?_
          | refine tr ?_
          | refine br ?_
          | refine bn ?_
          | refine te ?_
          | (refine idB ?_; first | refine bh rfl ?_ | refine bm rfl ?_)
          | refine W_skip ?_
          | refine W_block ?_
          | refine W_exit ?_
          | refine W_ret ?_
          | refine W_label ?_
          | refine W_scope ?_
          | refine sn ?_
          | refine sr ?_
          | refine se ?_
          | (refine idR ?_; first | refine ret1 rfl rfl rfl ?_ | refine rL1 rfl (by first | exact trivial | exact ⟨rfl, trivial⟩) (by first | exact ResO.tmp rfl | exact ResO.cellBA rfl rfl rfl | exact ResO.cellB1 rfl rfl rfl | exact ResO.cellEA rfl rfl | exact ResO.cellE1 rfl) ?_)
          | (refine idLd ?_; first | refine p1L (D_loadB1 rfl rfl rfl) rfl ?_ | refine p1L (D_loadBA rfl rfl rfl) rfl ?_ | refine p1L (D_loadB1 rfl (by (repeat first | assumption | exact get_last | (refine get_last2 ?_; focus (simp; done)) | apply get_set | apply get_app | (apply get_ne; focus omega) | (apply get_ne; focus (simp only [List.length_set, List.length_append, List.length_cons, List.length_nil]; omega))); done) (by rfl)) rfl ?_ | refine p1L (D_loadBA rfl (by (repeat first | assumption | exact get_last | (refine get_last2 ?_; focus (simp; done)) | apply get_set | apply get_app | (apply get_ne; focus omega) | (apply get_ne; focus (simp only [List.length_set, List.length_append, List.length_cons, List.length_nil]; omega))); done) (by rfl)) rfl ?_)
          | (refine idS ?_; first | refine pS (S_store rfl rfl rfl rfl rfl rfl rfl) ?_ | refine pS (S_store rfl rfl rfl (by (repeat first | assumption | exact get_last | (refine get_last2 ?_; focus (simp; done)) | apply get_set | apply get_app | (apply get_ne; focus omega) | (apply get_ne; focus (simp only [List.length_set, List.length_append, List.length_cons, List.length_nil]; omega))); done) (by rfl) (by rfl) (by rfl)) ?_)
          | refine Le.bool ?_
          | refine Le.int ?_
          | refine Le.str ?_
          | (refine idAp ?_; refine m_app rfl rfl (by first | rfl | assumption | exact get_set (by assumption) | exact get_set (get_set (by assumption)) | exact get_set (get_set (get_set (by assumption))) | ((repeat first | assumption | exact get_last | (refine get_last2 ?_; focus (simp; done)) | apply get_set | apply get_app | (apply get_ne; focus omega)); done)) ?_ rfl rfl ?_ ?_ rfl ?_; (first | rfl | focus (simp only [List.length_map, List.length_append, List.length_cons, List.length_nil]; omega) | focus (simp; done) | focus (simp; omega)); (first | focus (simp only [List.length_map, List.length_append, List.length_cons, List.length_nil]; omega) | focus (simp; done) | focus (simp; omega)); (first | focus (simp only [List.length_map, List.length_append, List.length_cons, List.length_nil]; omega) | focus (simp; done) | focus (simp; omega)))
          | (refine idAp ?_; refine m_appB rfl rfl rfl (by first | rfl | assumption | exact get_set (by assumption) | exact get_set (get_set (by assumption)) | exact get_set (get_set (get_set (by assumption))) | ((repeat first | assumption | exact get_last | (refine get_last2 ?_; focus (simp; done)) | apply get_set | apply get_app | (apply get_ne; focus omega)); done)) ?_ rfl rfl ?_ ?_ rfl ?_; (first | rfl | focus (simp only [List.length_map, List.length_append, List.length_cons, List.length_nil]; omega) | focus (simp; done) | focus (simp; omega)); (first | focus (simp only [List.length_map, List.length_append, List.length_cons, List.length_nil]; omega) | focus (simp; done) | focus (simp; omega)); (first | focus (simp only [List.length_map, List.length_append, List.length_cons, List.length_nil]; omega) | focus (simp; done) | focus (simp; omega)))
          | (refine m_appG (d := 112) (els := (o ++ [p]).map sC) (els' := [sC ⟨E[i]'(by omega), E[i + 1]'hil⟩]) rfl rfl rfl (by simp) (by simp) rfl (by simp; omega) (by simp; omega) rfl ?_)
          | (refine idW ?_; first | refine W_draw0 rfl ?_ | refine W_draw1 rfl ?_ | refine W_draw2 rfl ?_ | refine W_draw3 rfl ?_)
          | (apply d1 (hd := rfl); case hop => first | (apply D_move; rfl) | (apply D_assign; rfl) | (apply D_pc f1; rfl; exact .same rfl (.same rfl .nil)) | (apply D_pc f2; rfl; exact .same rfl (.same rfl .nil)) | exact D_sc (D_int rfl rfl rfl) (congrArg _ hs1) | exact D_sc (D_int rfl rfl rfl) e00 | exact D_sc (D_int rfl rfl rfl) e01 | exact D_sc (D_int rfl rfl rfl) e02 | exact D_sc (D_int rfl rfl rfl) e10 | exact D_sc (D_int rfl rfl rfl) e11 | exact D_sc (D_int rfl rfl rfl) e12 | exact D_sc (D_int rfl rfl rfl) e20 | exact D_sc (D_int rfl rfl rfl) e21 | exact D_sc (D_int rfl rfl rfl) e22 | exact D_sc (D_int rfl rfl rfl) hl1 | exact D_sc (D_not rfl) hnt | exact D_sc (D_not rfl) hnf | exact D_lenG rfl | exact D_sub1 rfl rfl (by omega) | (apply D_load1; rfl) | (apply D_fld; rfl) | (apply D_pickT; rfl; rfl) | (apply D_pickF; rfl; rfl) | (apply D_int; rfl; rfl; rfl) | (apply D_lenM; rfl) | (apply D_len_sl; rfl) | (apply D_not; rfl) | (apply D_loadW; rfl; rfl) | (apply D_loadA; rfl; rfl) | (apply D_len_nil; rfl) | (apply D_idxAn; rfl; rfl; (first | omega | (simp; done))) | (apply D_idxA; rfl; rfl; omega; (first | omega | (simp; done) | (simp; omega))) | (apply D_idxA0; rfl; rfl; omega; (first | omega | (simp; done) | (simp; omega))) | (apply D_lit; rfl; rfl; rfl; rfl) | exact D_build rfl | exact D_buildA rfl | exact D_fldB rfl | (apply D_lenR; rfl) | (apply D_ixRn; rfl; rfl; (first | omega | (simp; done))) | (apply D_ixR; rfl; rfl; all_goals first | omega | ((repeat rw [w64 _ (by omega) (by omega)]); omega) | decide))
          | (refine idDg ?_; first | refine dg0t rfl rfl rfl ?_ | refine dg0f rfl rfl rfl ?_ | refine dg0u rfl rfl rfl ?_ | refine dgr rfl rfl ?_ | refine dgs rfl rfl (fun _ => ?_) (fun _ => ?_))
          | (refine idDn ?_; first | refine dL _ (fun hp' hs => D_loadB1 rfl (hs.trans rfl) rfl) rfl ?_ | refine dL _ (fun hp' hs => D_loadBA rfl (hs.trans rfl) rfl) rfl ?_ | refine dS (S_store rfl rfl rfl rfl rfl rfl rfl) rfl ?_ | refine dV (S_alloc 0 rfl) rfl rfl ?_ | refine dV (S_alloc 1 rfl) rfl rfl ?_ | refine dV (S_alloc 2 rfl) rfl rfl ?_ | refine dV (S_alloc 3 rfl) rfl rfl ?_ | refine dV (S_alloc 4 rfl) rfl rfl ?_ | refine dV (S_alloc 5 rfl) rfl rfl ?_ | refine dV (S_alloc 6 rfl) rfl rfl ?_ | refine dV (S_alloc 7 rfl) rfl rfl ?_)
          | refine WD_nil (by first | decide +kernel | kernel_rfl | rfl) ?_
      all_goals first
        | (exfalso; omega)
        | (refine ⟨rfl, i + 1, by omega, by omega, [0], ren1 ?_ ⟨⟨_, rfl, .pur⟩, ⟨_, rfl, .pur⟩, ⟨_, rfl, .pur⟩, ⟨_, rfl, .pur⟩, ⟨_, rfl, ?_⟩, ⟨_, rfl, .pur⟩, trivial⟩⟩
           · first
               | (rw [hJ]; rfl)
               | (rw [hJ, jo_snoc, if_pos (by assumption)]; rfl)
           · first
               | (rw [hJ]; exact mvRow rfl (by simp))
               | (rw [hJ, jo_snoc, if_pos (by assumption)]; exact mvRow rfl (by simp)))
        | (refine ⟨rfl, i + 1, by omega, by omega, [1], ren1 ?_ ⟨⟨_, rfl, .pur⟩, ⟨_, rfl, .pur⟩, ⟨_, rfl, .pur⟩, ⟨_, rfl, .pur⟩, ⟨_, rfl, ?_⟩, ⟨_, rfl, .pur⟩, trivial⟩⟩
           · rw [hJ, jo_snoc, if_neg (by assumption), show ((o ++ [p]) ++ [(⟨E[i]'(by omega), E[i + 1]'hil⟩ : Sp)]).map sC = (o ++ [p]).map sC ++ [sC ⟨E[i]'(by omega), E[i + 1]'hil⟩] by simp]; rfl
           · rw [hJ, jo_snoc, if_neg (by assumption)]; exact mvRow rfl (by simp))
        | skip
      all_goals trace_state
  · have hE : i = E.length - 1 := by omega
    have hO := hfin hE
    subst hO
    rcases snoc_cases O with rfl | ⟨o, p, rfl⟩
    · repeat' first
        | (apply p1 (hd := rfl); case hop => first | (apply D_move; rfl) | (apply D_assign; rfl) | exact D_sc (D_int rfl rfl rfl) (congrArg _ hs1) | (apply D_load1; rfl) | (apply D_fld; rfl) | (apply D_pickT; rfl; rfl) | (apply D_pickF; rfl; rfl) | (apply D_int; rfl; rfl; rfl) | (apply D_lenM; rfl) | (apply D_len_sl; rfl) | (apply D_not; rfl) | (apply D_loadW; rfl; rfl) | (apply D_loadA; rfl; rfl) | (apply D_len_nil; rfl) | (apply D_idxAn; rfl; rfl; (first | omega | (simp; done))) | (apply D_idxA; rfl; rfl; omega; (first | omega | (simp; done) | (simp; omega))) | (apply D_idxA0; rfl; rfl; omega; (first | omega | (simp; done) | (simp; omega))) | (apply D_lit; rfl; rfl; rfl; rfl) | exact D_build rfl | exact D_buildA rfl | exact D_fldB rfl | (apply D_lenR; rfl) | (apply D_ixRn; rfl; rfl; (first | omega | (simp; done))) | (apply D_ixR; rfl; rfl; all_goals first | omega | ((repeat rw [w64 _ (by omega) (by omega)]); omega) | decide))
        | refine W_seq ?_
        | refine W_region ?_
        | (refine idC ?_; first | refine c1 rfl ?_ | refine c0 rfl ?_ | refine cs rfl (fun _ => ?_) (fun _ => ?_))
        | refine WL_nil ?_
        | (refine idG ?_; first | refine g0t rfl rfl rfl ?_ | refine g0f rfl rfl rfl ?_ | refine g0u rfl rfl rfl ?_ | refine gr rfl rfl ?_ | refine gs rfl rfl (fun _ => ?_) (fun _ => ?_) | refine grn rfl rfl ?_)
        | refine tn ?_
        | refine tr ?_
        | refine br ?_
        | refine bn ?_
        | refine te ?_
        | (refine idB ?_; first | refine bh rfl ?_ | refine bm rfl ?_)
        | refine W_skip ?_
        | refine W_block ?_
        | refine W_exit ?_
        | refine W_ret ?_
        | refine W_label ?_
        | refine W_scope ?_
        | refine sn ?_
        | refine sr ?_
        | refine se ?_
        | (refine idR ?_; first | refine ret1 rfl rfl rfl ?_ | refine rL1 rfl (by first | exact trivial | exact ⟨rfl, trivial⟩) (by first | exact ResO.tmp rfl | exact ResO.cellBA rfl rfl rfl | exact ResO.cellB1 rfl rfl rfl | exact ResO.cellEA rfl rfl | exact ResO.cellE1 rfl) ?_)
        | (refine idLd ?_; first | refine p1L (D_loadB1 rfl rfl rfl) rfl ?_ | refine p1L (D_loadBA rfl rfl rfl) rfl ?_ | refine p1L (D_loadB1 rfl (by (repeat first | assumption | exact get_last | (refine get_last2 ?_; focus (simp; done)) | apply get_set | apply get_app | (apply get_ne; focus omega) | (apply get_ne; focus (simp only [List.length_set, List.length_append, List.length_cons, List.length_nil]; omega))); done) (by rfl)) rfl ?_ | refine p1L (D_loadBA rfl (by (repeat first | assumption | exact get_last | (refine get_last2 ?_; focus (simp; done)) | apply get_set | apply get_app | (apply get_ne; focus omega) | (apply get_ne; focus (simp only [List.length_set, List.length_append, List.length_cons, List.length_nil]; omega))); done) (by rfl)) rfl ?_)
        | (refine idS ?_; first | refine pS (S_store rfl rfl rfl rfl rfl rfl rfl) ?_ | refine pS (S_store rfl rfl rfl (by (repeat first | assumption | exact get_last | (refine get_last2 ?_; focus (simp; done)) | apply get_set | apply get_app | (apply get_ne; focus omega) | (apply get_ne; focus (simp only [List.length_set, List.length_append, List.length_cons, List.length_nil]; omega))); done) (by rfl) (by rfl) (by rfl)) ?_)
        | refine Le.bool ?_
        | refine Le.int ?_
        | refine Le.str ?_
        | (refine idAp ?_; refine m_app rfl rfl (by first | rfl | assumption | exact get_set (by assumption) | exact get_set (get_set (by assumption)) | exact get_set (get_set (get_set (by assumption))) | ((repeat first | assumption | exact get_last | (refine get_last2 ?_; focus (simp; done)) | apply get_set | apply get_app | (apply get_ne; focus omega)); done)) ?_ rfl rfl ?_ ?_ rfl ?_; (first | rfl | focus (simp only [List.length_map, List.length_append, List.length_cons, List.length_nil]; omega) | focus (simp; done) | focus (simp; omega)); (first | focus (simp only [List.length_map, List.length_append, List.length_cons, List.length_nil]; omega) | focus (simp; done) | focus (simp; omega)); (first | focus (simp only [List.length_map, List.length_append, List.length_cons, List.length_nil]; omega) | focus (simp; done) | focus (simp; omega)))
        | (refine idAp ?_; refine m_appB rfl rfl rfl (by first | rfl | assumption | exact get_set (by assumption) | exact get_set (get_set (by assumption)) | exact get_set (get_set (get_set (by assumption))) | ((repeat first | assumption | exact get_last | (refine get_last2 ?_; focus (simp; done)) | apply get_set | apply get_app | (apply get_ne; focus omega)); done)) ?_ rfl rfl ?_ ?_ rfl ?_; (first | rfl | focus (simp only [List.length_map, List.length_append, List.length_cons, List.length_nil]; omega) | focus (simp; done) | focus (simp; omega)); (first | focus (simp only [List.length_map, List.length_append, List.length_cons, List.length_nil]; omega) | focus (simp; done) | focus (simp; omega)); (first | focus (simp only [List.length_map, List.length_append, List.length_cons, List.length_nil]; omega) | focus (simp; done) | focus (simp; omega)))
        | (refine idW ?_; first | refine W_draw0 rfl ?_ | refine W_draw1 rfl ?_ | refine W_draw2 rfl ?_ | refine W_draw3 rfl ?_)
        | (apply d1 (hd := rfl); case hop => first | (apply D_move; rfl) | (apply D_assign; rfl) | exact D_sc (D_int rfl rfl rfl) (congrArg _ hs1) | (apply D_load1; rfl) | (apply D_fld; rfl) | (apply D_pickT; rfl; rfl) | (apply D_pickF; rfl; rfl) | (apply D_int; rfl; rfl; rfl) | (apply D_lenM; rfl) | (apply D_len_sl; rfl) | (apply D_not; rfl) | (apply D_loadW; rfl; rfl) | (apply D_loadA; rfl; rfl) | (apply D_len_nil; rfl) | (apply D_idxAn; rfl; rfl; (first | omega | (simp; done))) | (apply D_idxA; rfl; rfl; omega; (first | omega | (simp; done) | (simp; omega))) | (apply D_idxA0; rfl; rfl; omega; (first | omega | (simp; done) | (simp; omega))) | (apply D_lit; rfl; rfl; rfl; rfl) | exact D_build rfl | exact D_buildA rfl | exact D_fldB rfl | (apply D_lenR; rfl) | (apply D_ixRn; rfl; rfl; (first | omega | (simp; done))) | (apply D_ixR; rfl; rfl; all_goals first | omega | ((repeat rw [w64 _ (by omega) (by omega)]); omega) | decide))
        | (refine idDg ?_; first | refine dg0t rfl rfl rfl ?_ | refine dg0f rfl rfl rfl ?_ | refine dg0u rfl rfl rfl ?_ | refine dgr rfl rfl ?_ | refine dgs rfl rfl (fun _ => ?_) (fun _ => ?_))
        | (refine idDn ?_; first | refine dL _ (fun hp' hs => D_loadB1 rfl (hs.trans rfl) rfl) rfl ?_ | refine dL _ (fun hp' hs => D_loadBA rfl (hs.trans rfl) rfl) rfl ?_ | refine dS (S_store rfl rfl rfl rfl rfl rfl rfl) rfl ?_ | refine dV (S_alloc 0 rfl) rfl rfl ?_ | refine dV (S_alloc 1 rfl) rfl rfl ?_ | refine dV (S_alloc 2 rfl) rfl rfl ?_ | refine dV (S_alloc 3 rfl) rfl rfl ?_ | refine dV (S_alloc 4 rfl) rfl rfl ?_ | refine dV (S_alloc 5 rfl) rfl rfl ?_ | refine dV (S_alloc 6 rfl) rfl rfl ?_ | refine dV (S_alloc 7 rfl) rfl rfl ?_)
        | refine WD_nil (by first | decide +kernel | kernel_rfl | rfl) ?_
      all_goals first
        | (exfalso; omega)
        | exact Le.row0
        | skip
      all_goals trace_state
    · have hlo : (o ++ [p]).length = o.length + 1 := by simp
      rw [hlo] at hlen ⊢
      repeat' first
        | (refine WL_rowM 9 0 rfl rfl (by simp) (by simp) ?_; intro sp2; refine WL_frz 9 0 2 (els := (o ++ [p]).map sC) (sp := sp2) rfl rfl (by simp) sC_row ?_)
        | (apply p1 (hd := rfl); case hop => first | (apply D_move; rfl) | (apply D_assign; rfl) | exact D_sc (D_int rfl rfl rfl) (congrArg _ hs1) | (apply D_load1; rfl) | (apply D_fld; rfl) | (apply D_pickT; rfl; rfl) | (apply D_pickF; rfl; rfl) | (apply D_int; rfl; rfl; rfl) | (apply D_lenM; rfl) | (apply D_len_sl; rfl) | (apply D_not; rfl) | (apply D_loadW; rfl; rfl) | (apply D_loadA; rfl; rfl) | (apply D_len_nil; rfl) | (apply D_idxAn; rfl; rfl; (first | omega | (simp; done))) | (apply D_idxA; rfl; rfl; omega; (first | omega | (simp; done) | (simp; omega))) | (apply D_idxA0; rfl; rfl; omega; (first | omega | (simp; done) | (simp; omega))) | (apply D_lit; rfl; rfl; rfl; rfl) | exact D_build rfl | exact D_buildA rfl | exact D_fldB rfl | (apply D_lenR; rfl) | (apply D_ixRn; rfl; rfl; (first | omega | (simp; done))) | (apply D_ixR; rfl; rfl; all_goals first | omega | ((repeat rw [w64 _ (by omega) (by omega)]); omega) | decide))
        | refine W_seq ?_
        | refine W_region ?_
        | (refine idC ?_; first | refine c1 rfl ?_ | refine c0 rfl ?_ | refine cs rfl (fun _ => ?_) (fun _ => ?_))
        | refine WL_nil ?_
        | (refine idG ?_; first | refine g0t rfl rfl rfl ?_ | refine g0f rfl rfl rfl ?_ | refine g0u rfl rfl rfl ?_ | refine gr rfl rfl ?_ | refine gs rfl rfl (fun _ => ?_) (fun _ => ?_) | refine grn rfl rfl ?_)
        | refine tn ?_
        | refine tr ?_
        | refine br ?_
        | refine bn ?_
        | refine te ?_
        | (refine idB ?_; first | refine bh rfl ?_ | refine bm rfl ?_)
        | refine W_skip ?_
        | refine W_block ?_
        | refine W_exit ?_
        | refine W_ret ?_
        | refine W_label ?_
        | refine W_scope ?_
        | refine sn ?_
        | refine sr ?_
        | refine se ?_
        | (refine idR ?_; first | refine ret1 rfl rfl rfl ?_ | refine rL1 rfl (by first | exact trivial | exact ⟨rfl, trivial⟩) (by first | exact ResO.tmp rfl | exact ResO.cellBA rfl rfl rfl | exact ResO.cellB1 rfl rfl rfl | exact ResO.cellEA rfl rfl | exact ResO.cellE1 rfl) ?_)
        | (refine idLd ?_; first | refine p1L (D_loadB1 rfl rfl rfl) rfl ?_ | refine p1L (D_loadBA rfl rfl rfl) rfl ?_ | refine p1L (D_loadB1 rfl (by (repeat first | assumption | exact get_last | (refine get_last2 ?_; focus (simp; done)) | apply get_set | apply get_app | (apply get_ne; focus omega) | (apply get_ne; focus (simp only [List.length_set, List.length_append, List.length_cons, List.length_nil]; omega))); done) (by rfl)) rfl ?_ | refine p1L (D_loadBA rfl (by (repeat first | assumption | exact get_last | (refine get_last2 ?_; focus (simp; done)) | apply get_set | apply get_app | (apply get_ne; focus omega) | (apply get_ne; focus (simp only [List.length_set, List.length_append, List.length_cons, List.length_nil]; omega))); done) (by rfl)) rfl ?_)
        | (refine idS ?_; first | refine pS (S_store rfl rfl rfl rfl rfl rfl rfl) ?_ | refine pS (S_store rfl rfl rfl (by (repeat first | assumption | exact get_last | (refine get_last2 ?_; focus (simp; done)) | apply get_set | apply get_app | (apply get_ne; focus omega) | (apply get_ne; focus (simp only [List.length_set, List.length_append, List.length_cons, List.length_nil]; omega))); done) (by rfl) (by rfl) (by rfl)) ?_)
        | refine Le.bool ?_
        | refine Le.int ?_
        | refine Le.str ?_
        | (refine idAp ?_; refine m_app rfl rfl (by first | rfl | assumption | exact get_set (by assumption) | exact get_set (get_set (by assumption)) | exact get_set (get_set (get_set (by assumption))) | ((repeat first | assumption | exact get_last | (refine get_last2 ?_; focus (simp; done)) | apply get_set | apply get_app | (apply get_ne; focus omega)); done)) ?_ rfl rfl ?_ ?_ rfl ?_; (first | rfl | focus (simp only [List.length_map, List.length_append, List.length_cons, List.length_nil]; omega) | focus (simp; done) | focus (simp; omega)); (first | focus (simp only [List.length_map, List.length_append, List.length_cons, List.length_nil]; omega) | focus (simp; done) | focus (simp; omega)); (first | focus (simp only [List.length_map, List.length_append, List.length_cons, List.length_nil]; omega) | focus (simp; done) | focus (simp; omega)))
        | (refine idAp ?_; refine m_appB rfl rfl rfl (by first | rfl | assumption | exact get_set (by assumption) | exact get_set (get_set (by assumption)) | exact get_set (get_set (get_set (by assumption))) | ((repeat first | assumption | exact get_last | (refine get_last2 ?_; focus (simp; done)) | apply get_set | apply get_app | (apply get_ne; focus omega)); done)) ?_ rfl rfl ?_ ?_ rfl ?_; (first | rfl | focus (simp only [List.length_map, List.length_append, List.length_cons, List.length_nil]; omega) | focus (simp; done) | focus (simp; omega)); (first | focus (simp only [List.length_map, List.length_append, List.length_cons, List.length_nil]; omega) | focus (simp; done) | focus (simp; omega)); (first | focus (simp only [List.length_map, List.length_append, List.length_cons, List.length_nil]; omega) | focus (simp; done) | focus (simp; omega)))
        | (refine idW ?_; first | refine W_draw0 rfl ?_ | refine W_draw1 rfl ?_ | refine W_draw2 rfl ?_ | refine W_draw3 rfl ?_)
        | (apply d1 (hd := rfl); case hop => first | (apply D_move; rfl) | (apply D_assign; rfl) | exact D_sc (D_int rfl rfl rfl) (congrArg _ hs1) | (apply D_load1; rfl) | (apply D_fld; rfl) | (apply D_pickT; rfl; rfl) | (apply D_pickF; rfl; rfl) | (apply D_int; rfl; rfl; rfl) | (apply D_lenM; rfl) | (apply D_len_sl; rfl) | (apply D_not; rfl) | (apply D_loadW; rfl; rfl) | (apply D_loadA; rfl; rfl) | (apply D_len_nil; rfl) | (apply D_idxAn; rfl; rfl; (first | omega | (simp; done))) | (apply D_idxA; rfl; rfl; omega; (first | omega | (simp; done) | (simp; omega))) | (apply D_idxA0; rfl; rfl; omega; (first | omega | (simp; done) | (simp; omega))) | (apply D_lit; rfl; rfl; rfl; rfl) | exact D_build rfl | exact D_buildA rfl | exact D_fldB rfl | (apply D_lenR; rfl) | (apply D_ixRn; rfl; rfl; (first | omega | (simp; done))) | (apply D_ixR; rfl; rfl; all_goals first | omega | ((repeat rw [w64 _ (by omega) (by omega)]); omega) | decide))
        | (refine idDg ?_; first | refine dg0t rfl rfl rfl ?_ | refine dg0f rfl rfl rfl ?_ | refine dg0u rfl rfl rfl ?_ | refine dgr rfl rfl ?_ | refine dgs rfl rfl (fun _ => ?_) (fun _ => ?_))
        | (refine idDn ?_; first | refine dL _ (fun hp' hs => D_loadB1 rfl (hs.trans rfl) rfl) rfl ?_ | refine dL _ (fun hp' hs => D_loadBA rfl (hs.trans rfl) rfl) rfl ?_ | refine dS (S_store rfl rfl rfl rfl rfl rfl rfl) rfl ?_ | refine dV (S_alloc 0 rfl) rfl rfl ?_ | refine dV (S_alloc 1 rfl) rfl rfl ?_ | refine dV (S_alloc 2 rfl) rfl rfl ?_ | refine dV (S_alloc 3 rfl) rfl rfl ?_ | refine dV (S_alloc 4 rfl) rfl rfl ?_ | refine dV (S_alloc 5 rfl) rfl rfl ?_ | refine dV (S_alloc 6 rfl) rfl rfl ?_ | refine dV (S_alloc 7 rfl) rfl rfl ?_)
        | refine WD_nil (by first | decide +kernel | kernel_rfl | rfl) ?_
      all_goals first
        | (exfalso; omega)
        | (rw [List.take_of_length_le (by simp)]; exact Le.of_eq rfl)
        | skip
      all_goals trace_state
end Go.Proofs
