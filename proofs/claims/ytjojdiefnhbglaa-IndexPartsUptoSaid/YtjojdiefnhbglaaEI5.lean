/- The law IndexAdds. -/
import Derived.Test.YtjojdiefnhbglaaEI4
namespace Go.Proofs
open Go.AL Go.Sort
attribute [local irreducible] Go.AL.W Go.AL.WL Go.AL.WD Go.AL.POp Go.AL.PPOp Go.AL.POpS Go.AL.PC Go.AL.AC Go.AL.YW Go.AL.Ret Go.AL.Le Go.AL.thn Go.AL.inBlk Go.AL.scp
abbrev wtD1 (d : Dat) : Nat := 1 + d.v.s.length
theorem gr_sum : ∀ (l : List Dat) (n : Int), 0 ≤ n → n + 21 * ((l.map wtD1).sum : Nat) < 9223372036854775807 → grS n l = n + ((l.map fun d => 20 + d.v.s.length).sum : Nat)
  | [], n, h0, h => by simp [grS]
  | d :: t, n, h0, h => by
    simp only [List.map_cons, List.sum_cons, wtD1] at h ⊢
    have hw : IntKind.i64.wrap (IntKind.i64.wrap (n + 20) + d.v.s.length) = n + 20 + d.v.s.length := by
      rw [w64 (n + 20) (by omega) (by omega), w64 _ (by omega) (by omega)]
    rw [grS, hw, gr_sum t _ (by omega) (by omega)]
    omega
theorem gr_few {l : List Dat} (hw : (l.map wtD1).sum ≤ 1048576) (h : ¬ 4000 < grS 0 l) : l.length ≤ 200 ∧ ∀ d, d ∈ l → d.v.s.length ≤ 4000 := by
  have h1 := gr_sum l 0 (by omega) (by omega)
  rw [h1] at h
  have h2 : 20 * l.length ≤ (l.map fun d => 20 + d.v.s.length).sum ∧ ∀ d, d ∈ l → 20 + d.v.s.length ≤ (l.map fun d => 20 + d.v.s.length).sum := by
    clear h h1 hw
    induction l with
    | nil => exact ⟨by simp, fun d hd => by cases hd⟩
    | cons x t ih =>
      simp only [List.map_cons, List.sum_cons, List.length_cons]
      refine ⟨by omega, fun d hd => ?_⟩
      rcases List.mem_cons.1 hd with rfl | hd
      · omega
      · have := ih.2 d hd; omega
  exact ⟨by omega, fun d hd => by have := h2.2 d hd; omega⟩
theorem wt_sl {l : List Dat} (hw : (l.map wtD1).sum ≤ 1048576) : l.length ≤ 1048576 ∧ ∀ d, d ∈ l → d.v.s.length ≤ 1048576 := by
  have h2 : l.length ≤ (l.map wtD1).sum ∧ ∀ d, d ∈ l → d.v.s.length ≤ (l.map wtD1).sum := by
    clear hw
    induction l with
    | nil => exact ⟨by simp, fun d hd => by cases hd⟩
    | cons x t ih =>
      simp only [List.map_cons, List.sum_cons, List.length_cons, wtD1]
      refine ⟨by omega, fun d hd => ?_⟩
      rcases List.mem_cons.1 hd with rfl | hd
      · omega
      · have := ih.2 d hd; omega
  exact ⟨by omega, fun d hd => by have := h2.2 d hd; omega⟩
theorem dsort1_mem (L : List Dat) (d : Dat) : d ∈ dsortL 1 L ↔ d ∈ L := (dsort_mem (by decide) L d).trans ⟨fun h => h.1, fun h => ⟨h, .inl (by decide)⟩⟩
theorem dsort_congr {o : Int} {L L' : List Dat} (h : ∀ d, d ∈ L ↔ d ∈ L') : dsortL o L = dsortL o L' := by
  by_cases ho : 1 ≤ o ∧ o ≤ 4
  · exact rise_eq (wc_cmpD o) (dsort_rise ho L) (dsort_rise ho L') fun d => by rw [dsort_mem ho, dsort_mem ho, h]
  · unfold dsortL; rw [if_neg ho, if_neg ho]
theorem ilen_L {L : List Dat} {T : Ix} (h : IxOf L T) (hL : okL L) : manyT (topT (T 1)) = ((dsortL 1 L).length : Int) := by
  have h1 := h 1 (by decide) (by decide)
  rw [(okT_deep h1.ok).2, h1.size (by decide) hL]; rfl
end Go.Proofs

namespace Go.Proofs
open Go.AL Go.Sort
attribute [local irreducible] Go.AL.W Go.AL.WL Go.AL.WD Go.AL.POp Go.AL.PPOp Go.AL.POpS Go.AL.PC Go.AL.AC Go.AL.YW Go.AL.Ret Go.AL.Le Go.AL.thn Go.AL.inBlk Go.AL.scp
structure Vw where
  up : Int
  af : Int
  at_ : Int
  one : Bool
  no : Bool
abbrev wC (v : Vw) : List AV := [.sc (.int .i64 v.up), .sc (.int .i64 v.af), .sc (.int .i64 v.at_), .sc (.bool v.one), .sc (.bool v.no)]
abbrev eW (v : Vw) : AV := .ag (wC v)
def seeP (v : Vw) (d : Dat) : Prop := v.af < d.t ∧ (v.up = 0 ∨ d.t ≤ v.up)
noncomputable def seeB (v : Vw) (d : Dat) : Bool := dP (seeP v d)
abbrev okV (v : Vw) : Prop := (0 ≤ v.up ∧ 0 ≤ v.af) ∧ v.up ≤ 1099511627776 ∧ v.af ≤ 1099511627776
open Classical in
noncomputable def datsE (o : Int) (p : List Prt) (v : Vw) : Int := if preE o p ≠ 0 then preE o p else if okV v then 0 else 2
open Classical in
noncomputable def datsL (o : Int) (p : List Prt) (v : Vw) (L : List Dat) : List Dat := if datsE o p v = 0 then (preL o (preB o p) L).filter (seeB v) else []
theorem preB_len (o : Int) (p : List Prt) : (preB o p).length ≤ 8036 := by
  unfold preB
  split
  · rename_i h
    unfold keyB
    split
    · rename_i h2
      have : ∀ l : List Prt, (∀ p, p ∈ l → PartP p) → (l.flatMap partB).length ≤ 2009 * l.length := by
        intro l
        induction l with
        | nil => intro _; simp
        | cons x t ih =>
          intro h3
          have h4 := ih fun p hp => h3 p (.tail _ hp)
          have h5 := partB_len (h3 x (.head _))
          rw [List.flatMap_cons, List.length_append, List.length_cons]; omega
      have h6 := this p h2
      have := h.2.1
      omega
    · simp
  · simp
theorem preE_o {o : Int} {p : List Prt} (h : preE o p = 0) : 1 ≤ o ∧ o ≤ 4 := (preE_P h).1
set_option maxHeartbeats 16000000 in
theorem idatoms_pc [GlobF Try.prog] (x : Option Ix) (L : List Dat) (hx : IxOf L (topI x)) (hL : okL L) (hl : L.length ≤ 262144) (o : Int) (p : List Prt) (v : Vw) (hp : p.length < 9223372036854775808) (hs : ∀ q, q ∈ p → q.v.s.length < 9223372036854775808) :
    PC Try.prog 28 [xA x, .sc (.int .i64 o), .sl none 5 (p.map pC), eW v] (.tu [sl9 (datsL o p v L), .sc (.int .i64 (datsE o p v))]) := by
  have hpre := prefix_pc o p hp hs
  refine PC.of_body Try.func28 Try.ntmps28 rfl rfl rfl ?_
  by_cases c1 : preE o p = 0
  rotate_left
  · have e1 : datsE o p v = preE o p := by unfold datsE; rw [if_pos c1]
    rw [show datsL o p v L = [] by unfold datsL; rw [e1, if_neg c1], e1]
    repeat' first
      | (apply p1 (hd := rfl); case hop => first | (apply D_move; rfl) | (apply D_assign; rfl) | (apply D_pc hpre; rfl; exact .same rfl (.same rfl .nil)) | (apply D_load1; rfl) | (apply D_fld; rfl) | (apply D_int; rfl; rfl; rfl) | (apply D_ext; rfl; rfl) | (apply D_box; rfl; rfl))
      | refine W_seq ?_
      | refine W_region ?_
      | (refine idC ?_; first | refine cs rfl (fun _ => ?_) (fun _ => ?_))
      | refine WL_nil ?_
      | refine tn ?_
      | refine tr ?_
      | refine W_skip ?_
      | refine W_ret ?_
      | (refine idR ?_; first | refine ret2 rfl rfl rfl rfl ?_ ?_)
      | refine Le.int ?_
    all_goals first | exact Le.nil rfl | rfl | contradiction | skip
  have e1 : datsE o p v = if okV v then 0 else 2 := by unfold datsE; rw [if_neg (by simpa using c1)]
  rw [c1] at hpre
  by_cases c2 : okV v
  rotate_left
  · rw [if_neg c2] at e1
    rw [show datsL o p v L = [] by unfold datsL; rw [e1, if_neg (by decide)], e1]
    by_cases c3 : (min v.up v.af) < 0
    · have g1 : Value.bool (iLt (min v.up v.af) 0) = .bool true := by rw [(iLt_t _ _).mpr c3]
      repeat' first
        | (apply p1 (hd := rfl); case hop => first | (apply D_move; rfl) | (apply D_assign; rfl) | (apply D_pc hpre; rfl; exact .same rfl (.same rfl .nil)) | exact D_min rfl rfl | exact D_sc (D_int rfl rfl rfl) g1 | (apply D_load1; rfl) | (apply D_fld; rfl) | (apply D_pickT; rfl; rfl) | (apply D_int; rfl; rfl; rfl) | (apply D_ext; rfl; rfl) | (apply D_box; rfl; rfl))
        | refine W_seq ?_
        | refine W_region ?_
        | (refine idC ?_; first | refine cs rfl (fun _ => ?_) (fun _ => ?_))
        | refine WL_nil ?_
        | (refine idG ?_; first | refine g0f rfl rfl rfl ?_)
        | refine tn ?_
        | refine tr ?_
        | refine W_skip ?_
        | refine W_ret ?_
        | (refine idR ?_; first | refine ret2 rfl rfl rfl rfl ?_ ?_)
        | (refine idA ?_; first | refine m_alloc rfl ?_)
        | refine Le.int ?_
      all_goals first | exact Le.nil rfl | rfl | contradiction | skip
    · have g1 : Value.bool (iLt (min v.up v.af) 0) = .bool false := by rw [(iLt_f _ _).mpr (by omega)]
      have g2 : Value.bool (iLt 1099511627776 (max v.up v.af)) = .bool true := by
        rw [(iLt_t _ _).mpr]
        unfold okV at c2
        omega
      repeat' first
        | (apply p1 (hd := rfl); case hop => first | (apply D_move; rfl) | (apply D_assign; rfl) | (apply D_pc hpre; rfl; exact .same rfl (.same rfl .nil)) | exact D_min rfl rfl | exact D_max rfl rfl | exact D_sc (D_int rfl rfl rfl) g1 | exact D_sc (D_int rfl rfl rfl) g2 | (apply D_load1; rfl) | (apply D_fld; rfl) | (apply D_pickF; rfl; rfl) | (apply D_int; rfl; rfl; rfl) | (apply D_ext; rfl; rfl) | (apply D_box; rfl; rfl))
        | refine W_seq ?_
        | refine W_region ?_
        | (refine idC ?_; first | refine cs rfl (fun _ => ?_) (fun _ => ?_))
        | refine WL_nil ?_
        | (refine idG ?_; first | refine gr rfl rfl ?_)
        | refine tn ?_
        | refine tr ?_
        | refine W_skip ?_
        | refine W_ret ?_
        | (refine idR ?_; first | refine ret2 rfl rfl rfl rfl ?_ ?_)
        | (refine idA ?_; first | refine m_alloc rfl ?_)
        | refine Le.int ?_
      all_goals first | exact Le.nil rfl | rfl | contradiction | skip
  rw [if_pos c2] at e1
  have eL : datsL o p v L = (preL o (preB o p) L).filter (seeB v) := by unfold datsL; rw [if_pos e1]
  rw [e1, eL]
  obtain ⟨n, hn⟩ : ∃ n : Nat, o = n := ⟨o.toNat, by have := (preE_o c1).1; omega⟩
  have ho := preE_o c1
  have hb := preB_len o p
  subst hn
  have hbg := begin_pc x (n : Int) (preB n p)
  have g1 : Value.bool (iLt (min v.up v.af) 0) = .bool false := by
    rw [(iLt_f _ _).mpr]
    unfold okV at c2
    omega
  have g2 : Value.bool (iLt 1099511627776 (max v.up v.af)) = .bool false := by
    rw [(iLt_f _ _).mpr]
    unfold okV at c2
    omega
  repeat' first
    | (apply p1 (hd := rfl); case hop => first | (apply D_move; rfl) | (apply D_assign; rfl) | (apply D_pc hpre; rfl; exact .same rfl (.same rfl .nil)) | exact D_min rfl rfl | exact D_max rfl rfl | exact D_sc (D_int rfl rfl rfl) g1 | exact D_sc (D_int rfl rfl rfl) g2 | (apply D_pc hbg; rfl; exact .same rfl (.same rfl (.same rfl .nil))) | (apply D_load1; rfl) | (apply D_fld; rfl) | (apply D_pickF; rfl; rfl) | (apply D_int; rfl; rfl; rfl) | (apply D_ext; rfl; rfl) | (apply D_box; rfl; rfl))
    | refine W_seq ?_
    | refine W_region ?_
    | (refine idC ?_; first | refine c0 rfl ?_ | refine cs rfl (fun _ => ?_) (fun _ => ?_))
    | refine WL_nil ?_
    | (refine idG ?_; first | refine gr rfl rfl ?_)
    | refine tn ?_
    | refine tr ?_
    | refine W_skip ?_
    | refine W_block ?_
    | refine W_ret ?_
    | (refine idR ?_; first | refine ret2 rfl rfl rfl rfl ?_ ?_)
    | (refine idA ?_; first | refine m_alloc rfl ?_)
    | refine Le.int ?_
  all_goals try contradiction
  have hEl := preL_len n (preB n p) L
  refine W_adoptC 0 0 9 36 rfl rfl ?_
  refine W_rangeX (.inl rfl) fun l1 X hX => ?_
  generalize hE : preL n (preB n p) L = E at *
  refine AC.mono (begin1_ac x L hx hL hl n (by omega) (preB n p) (by omega) l1 (fun i h => h = [.cells [.sl (some 1) 9 (((E.take i).filter (seeB v)).map dC)], .tail ((E.take i).filter (seeB v)).length 9 36, rawD, X .ready none]) rfl ?_) ?_
  · rw [hE]
    rintro i hi h rfl
    have hli : ((E.take i).filter (seeB v)).length ≤ i := Nat.le_trans (List.length_filter_le _ _) (by rw [List.length_take]; omega)
    have hts : E.take (i + 1) = E.take i ++ [E[i]'hi] := List.take_succ_eq_append_getElem hi
    refine YW.round (r := 3) ((show _ = some (X .ready none) from rfl).trans (congrArg some (hX .ready none))) rfl rfl ?_
    repeat' first
      | refine W_region ?_
      | refine WL_nil ?_
      | (refine idA ?_; first | refine m_var rfl rfl rfl rfl rfl rfl rfl ?_)
    refine ⟨rfl, (show _ = some (X .ready none) from rfl).trans (congrArg some (hX .ready none)), ?_⟩
    refine W_hq (h' := [.cells [.sl (some 1) 9 (((E.take i).filter (seeB v)).map dC)], .tail ((E.take i).filter (seeB v)).length 9 36, rawD, X .busy none]) (by rw [hX .busy none]; rfl) ?_
    have hT : seeP v (E[i]'hi) → (E.take (i + 1)).filter (seeB v) = (E.take i).filter (seeB v) ++ [E[i]'hi] := fun h => by
      rw [hts, List.filter_append, List.filter_cons, if_pos (show seeB v (E[i]'hi) = true from dP_t.mpr h)]; rfl
    have hF : ¬ seeP v (E[i]'hi) → (E.take (i + 1)).filter (seeB v) = (E.take i).filter (seeB v) := fun h => by
      rw [hts, List.filter_append, List.filter_cons, if_neg (show ¬ seeB v (E[i]'hi) = true from fun h2 => h (dP_t.mp h2))]; simp
    repeat' first
      | (apply p1 (hd := rfl); case hop => first | (apply D_move; rfl) | (apply D_load1; rfl) | (apply D_fld; rfl) | (apply D_pickT; rfl; rfl) | (apply D_pickF; rfl; rfl) | (apply D_int; rfl; rfl; rfl) | (apply D_loadW; rfl; rfl) | (apply D_lit; rfl; rfl; rfl; rfl))
      | refine W_seq ?_
      | refine W_region ?_
      | (refine idC ?_; first | refine c0 rfl ?_ | refine cs rfl (fun _ => ?_) (fun _ => ?_))
      | refine WL_nil ?_
      | (refine idG ?_; first | refine g0t rfl rfl rfl ?_ | refine g0f rfl rfl rfl ?_ | refine g0u rfl rfl rfl ?_ | refine gr rfl rfl ?_ | refine gs rfl rfl (fun _ => ?_) (fun _ => ?_))
      | refine tn ?_
      | refine bn ?_
      | refine W_skip ?_
      | refine W_block ?_
      | (refine idLd ?_; first | refine p1L (D_loadB1 rfl rfl rfl) rfl ?_)
      | (refine idS ?_; first | refine pS (S_store rfl rfl rfl rfl rfl rfl rfl) ?_)
      | (refine idAp ?_; refine m_app rfl rfl (by first | rfl | assumption | exact get_set (by assumption) | exact get_set (get_set (by assumption)) | exact get_set (get_set (get_set (by assumption))) | ((repeat first | assumption | exact get_last | (refine get_last2 ?_; focus (simp; done)) | apply get_set | apply get_app | (apply get_ne; focus omega)); done)) ?_ rfl rfl ?_ ?_ rfl ?_; (first | rfl | focus (simp only [List.length_map, List.length_append, List.length_cons, List.length_nil]; omega) | focus (simp; done) | focus (simp; omega)); (first | focus (simp only [List.length_map, List.length_append, List.length_cons, List.length_nil]; omega) | focus (simp; done) | focus (simp; omega)); (first | focus (simp only [List.length_map, List.length_append, List.length_cons, List.length_nil]; omega) | focus (simp; done) | focus (simp; omega)))
    all_goals first
      | contradiction
      | (have h9 : seeP v (E[i]'hi) := ⟨by assumption, by first | exact .inl (by assumption) | exact .inr (by assumption)⟩
         refine ⟨rfl, ⟨_, _, (show _ = some (X .busy none) from rfl).trans (congrArg some (hX _ _))⟩, ⟨rfl, ?_⟩⟩
         rw [show ((E.take (i + 1)).filter (seeB v)).length = ((E.take i).filter (seeB v)).length + 1 by rw [hT h9, List.length_append]; rfl, hT h9, ← hX .ready none, List.map_append]; simp only [List.length_map]; rfl)
      | (have h9 : ¬ seeP v (E[i]'hi) := fun h => by
           have h1 := h.1
           have h2 := h.2
           omega
         refine ⟨rfl, ⟨_, _, (show _ = some (X .busy none) from rfl).trans (congrArg some (hX _ _))⟩, ⟨rfl, ?_⟩⟩
         rw [hF h9, ← hX .ready none]; rfl)
      | skip
  · rw [hE]
    rintro _ h' rfl
    refine ⟨_, _, (show _ = some (X .ready none) from rfl).trans (congrArg some (hX _ _)), by decide, ?_⟩
    repeat' first
      | (apply p1 (hd := rfl); case hop => first | (apply D_assign; rfl))
      | refine W_seq ?_
      | refine W_region ?_
      | refine WL_nil ?_
      | refine tn ?_
      | refine bn ?_
      | refine W_ret ?_
      | (refine idR ?_; first | refine rL2 rfl (by first | exact trivial | exact ⟨rfl, trivial⟩) (by first | exact ResO.tmp rfl | exact ResO.cellBA rfl rfl rfl | exact ResO.cellB1 rfl rfl rfl | exact ResO.cellEA rfl rfl | exact ResO.cellE1 rfl) (by first | exact ResO.tmp rfl | exact ResO.cellBA rfl rfl rfl | exact ResO.cellB1 rfl rfl rfl | exact ResO.cellEA rfl rfl | exact ResO.cellE1 rfl) ?_ ?_)
      | (refine idLd ?_; first | refine p1L (D_loadB1 rfl rfl rfl) rfl ?_)
      | refine Le.int ?_
    all_goals first | exact Le.tokq (by rw [List.take_length]) | rfl | skip
end Go.Proofs

namespace Go.Proofs
open Go.AL Go.Sort
attribute [local irreducible] Go.AL.W Go.AL.WL Go.AL.WD Go.AL.POp Go.AL.PPOp Go.AL.POpS Go.AL.PC Go.AL.AC Go.AL.YW Go.AL.Ret Go.AL.Le Go.AL.thn Go.AL.inBlk Go.AL.scp
def one1 : Val := ⟨1, 1, []⟩
def few1 : Dat := ⟨20, 10, ⟨1, 1, []⟩, 1, true, -9223372036854775808, 9223372036854775807⟩
def few2 : Dat := ⟨20, 10, ⟨1, 1, []⟩, 2, false, 0, 5⟩
def few3 : Dat := ⟨21, 10, ⟨1, 2, []⟩, 1, true, -9223372036854775808, 9223372036854775807⟩
def fewL : List Dat := [few1, few2, few3]
set_option maxHeartbeats 8000000 in
theorem few_pc [GlobF Try.prog] : PC Try.prog 27 [] (sl9 fewL) := by
  refine PC.of_body Try.func27 Try.ntmps27 rfl rfl rfl ?_
  repeat' first
    | (apply p1 (hd := rfl); case hop => first | (apply D_assign; rfl) | (apply D_loadW; rfl; rfl) | (apply D_lit; rfl; rfl; rfl; rfl) | exact D_build rfl)
    | refine W_seq ?_
    | refine W_region ?_
    | refine WL_nil ?_
    | refine tn ?_
    | refine W_ret ?_
    | (refine idR ?_; first | refine ret1 rfl rfl rfl ?_)
    | (refine idA ?_; first | refine m_var rfl rfl rfl rfl rfl rfl rfl ?_)
  all_goals first | exact Le.of_eq rfl | rfl | skip
theorem may_n (n : Int) : mayB ⟨1, n, []⟩ = true := by unfold mayB; rw [dP_t]; exact .inr (.inl ⟨.inl rfl, rfl⟩)
theorem few_may : ∀ d, d ∈ fewL → dmayP d := fun d hd => by
  simp only [fewL, List.mem_cons, List.not_mem_nil, or_false] at hd
  rcases hd with rfl | rfl | rfl <;> exact ⟨by decide, by decide, by decide, by decide, may_n _, by decide, by decide, by decide⟩
theorem few_ok : okL fewL := fun d hd => ⟨few_may d hd, by
  simp only [fewL, List.mem_cons, List.not_mem_nil, or_false] at hd
  rcases hd with rfl | rfl | rfl <;> (unfold datI i64P; decide)⟩
theorem few_s : ∀ d, d ∈ fewL → d.v.s.length < 9223372036854775808 := fun d hd => by
  simp only [fewL, List.mem_cons, List.not_mem_nil, or_false] at hd
  rcases hd with rfl | rfl | rfl <;> decide
theorem few_sort (o : Int) (ho : o = 1 ∨ o = 3) : dsortL o fewL = fewL := by
  have h1 : 1 ≤ o ∧ o ≤ 4 := by omega
  have h2 : ∀ d, hasB o d = true := fun d => (hasB_t o d).2 (.inl (by omega))
  unfold dsortL
  rw [if_pos h1, List.filter_eq_self.2 fun d _ => h2 d]
  refine (sortC_eq (wc_cmpD o) (cmpD_z o) ?_ fun x => Iff.rfl).symm
  unfold Rise fewL
  rcases ho with rfl | rfl
  · refine .cons (fun y hy => ?_) (.cons (fun y hy => ?_) (List.pairwise_singleton _ _))
    · simp only [List.mem_cons, List.not_mem_nil, or_false] at hy
      rcases hy with rfl | rfl <;> decide
    · simp only [List.mem_cons, List.not_mem_nil, or_false] at hy
      subst hy; decide
  · refine .cons (fun y hy => ?_) (.cons (fun y hy => ?_) (List.pairwise_singleton _ _))
    · simp only [List.mem_cons, List.not_mem_nil, or_false] at hy
      rcases hy with rfl | rfl <;> decide
    · simp only [List.mem_cons, List.not_mem_nil, or_false] at hy
      subst hy; decide
theorem few_key (o : Int) (ho : o = 1 ∨ o = 3) (d : Dat) (hd : d ∈ fewL) : dkeyB o d = (part7 o d).flatMap partB := by
  unfold dkeyB
  rw [if_pos (by omega), if_pos ⟨few_may d hd, .inl (by omega)⟩]
def pA1 : List Prt := [prtN 10, prtV one1]
def pA2 : List Prt := [prtN 20]
theorem pA1_p : preP 3 pA1 := ⟨by decide, by decide, fun i h h7 => by
  have : i = 0 ∨ i = 1 := by simp [pA1] at h; omega
  rcases this with rfl | rfl <;> rfl⟩
theorem pA2_p : preP 1 pA2 := ⟨by decide, by decide, fun i h h7 => by
  have : i = 0 := by simp [pA2] at h; omega
  subst this; rfl⟩
theorem pA1_k : ∀ p, p ∈ pA1 → PartP p := fun p hp => by
  simp only [pA1, List.mem_cons, List.not_mem_nil, or_false] at hp
  rcases hp with rfl | rfl
  · exact fun h => by cases h
  · exact fun _ => may_n 1
theorem pA2_k : ∀ p, p ∈ pA2 → PartP p := fun p hp => by
  simp only [pA2, List.mem_cons, List.not_mem_nil, or_false] at hp
  subst hp; exact fun h => by cases h
theorem see1 {v : Vw} {d : Dat} (h : seeP v d) : seeB v d = true := dP_t.mpr h
theorem see0 {v : Vw} {d : Dat} (h : ¬ seeP v d) : seeB v d = false := dP_f.mpr h
theorem dats1 : datsE 3 pA1 ⟨0, 0, 0, false, false⟩ = 0 ∧ datsL 3 pA1 ⟨0, 0, 0, false, false⟩ fewL = [few1, few2] := by
  have e0 : preE 3 pA1 = 0 := by unfold preE keyE; rw [if_pos pA1_p, if_pos pA1_k]
  have e1 : datsE 3 pA1 ⟨0, 0, 0, false, false⟩ = 0 := by unfold datsE; rw [if_neg (by rw [e0]; decide), if_pos (by unfold okV; decide)]
  refine ⟨e1, ?_⟩
  unfold datsL preL
  rw [if_pos e1, few_sort 3 (.inr rfl), show preB 3 pA1 = pA1.flatMap partB by unfold preB keyB; rw [if_pos pA1_p, if_pos pA1_k]]
  rw [List.filter_congr (p := fun d => (pA1.flatMap partB).isPrefixOf (dkeyB 3 d)) (q := fun d => (pA1.flatMap partB).isPrefixOf ((part7 3 d).flatMap partB)) fun d hd => by rw [few_key 3 (.inr rfl) d hd]]
  rw [show fewL.filter (fun d => (pA1.flatMap partB).isPrefixOf ((part7 3 d).flatMap partB)) = [few1, few2] by unfold fewL; rw [List.filter_cons, if_pos (by decide +kernel), List.filter_cons, if_pos (by decide +kernel), List.filter_cons, if_neg (by decide +kernel)]; rfl]
  rw [List.filter_cons, if_pos (see1 (by unfold seeP few1; decide)), List.filter_cons, if_pos (see1 (by unfold seeP few2; decide))]; rfl
theorem dats2 : datsE 1 pA2 ⟨1, 0, 0, false, false⟩ = 0 ∧ datsL 1 pA2 ⟨1, 0, 0, false, false⟩ fewL = [few1] := by
  have e0 : preE 1 pA2 = 0 := by unfold preE keyE; rw [if_pos pA2_p, if_pos pA2_k]
  have e1 : datsE 1 pA2 ⟨1, 0, 0, false, false⟩ = 0 := by unfold datsE; rw [if_neg (by rw [e0]; decide), if_pos (by unfold okV; decide)]
  refine ⟨e1, ?_⟩
  unfold datsL preL
  rw [if_pos e1, few_sort 1 (.inl rfl), show preB 1 pA2 = pA2.flatMap partB by unfold preB keyB; rw [if_pos pA2_p, if_pos pA2_k]]
  rw [List.filter_congr (p := fun d => (pA2.flatMap partB).isPrefixOf (dkeyB 1 d)) (q := fun d => (pA2.flatMap partB).isPrefixOf ((part7 1 d).flatMap partB)) fun d hd => by rw [few_key 1 (.inl rfl) d hd]]
  rw [show fewL.filter (fun d => (pA2.flatMap partB).isPrefixOf ((part7 1 d).flatMap partB)) = [few1, few2] by unfold fewL; rw [List.filter_cons, if_pos (by decide +kernel), List.filter_cons, if_pos (by decide +kernel), List.filter_cons, if_neg (by decide +kernel)]; rfl]
  rw [List.filter_cons, if_pos (see1 (by unfold seeP few1; decide)), List.filter_cons, if_neg (by rw [see0 (by unfold seeP few2; decide)]; decide)]; rfl
set_option maxHeartbeats 16000000 in
theorem alive_pc [GlobF Try.prog] : PC Try.prog 7 [] (.sc (.bool true)) := by
  have hT : IxOf fewL (addsT (fun _ => none) fewL) := by have := IxOf.init.adds fewL (by decide); simpa using this
  obtain ⟨T, eT⟩ : ∃ T, T = addsT (fun _ => none) fewL := ⟨_, rfl⟩
  rw [← eT] at hT
  have q1 := iadd_pc none [] fewL IxOf.init (by decide) few_s (xA (some T)) 0 (fun _ => ⟨by rw [eT]; rfl, rfl⟩) (fun ⟨x, hx, h⟩ => absurd (few_may x hx) h)
  have q2 := idatoms_pc (some T) fewL hT few_ok (by decide) 3 pA1 ⟨0, 0, 0, false, false⟩ (by decide) (fun q hq => by simp only [pA1, List.mem_cons, List.not_mem_nil, or_false] at hq; rcases hq with rfl | rfl <;> decide)
  have q3 := idatoms_pc (some T) fewL hT few_ok (by decide) 1 pA2 ⟨1, 0, 0, false, false⟩ (by decide) (fun q hq => by simp only [pA2, List.mem_cons, List.not_mem_nil, or_false] at hq; subst hq; decide)
  rw [dats1.1, dats1.2] at q2
  rw [dats2.1, dats2.2] at q3
  have g1 : Value.bool (lEq (encD few1) (encD few1)) = .bool true := by rw [(lEq_t _ _).mpr rfl]
  have g2 : Value.bool (lEq (encD few2) (encD few2)) = .bool true := by rw [(lEq_t _ _).mpr rfl]
  rw [xA_no, xA_so] at q1
  rw [xA_so] at q2 q3
  have q0 : PC Try.prog 27 [] (.sl none 9 [dC few1, dC few2, dC few3]) := few_pc
  refine PC.of_body Try.func7 Try.ntmps7 rfl rfl rfl ?_
  repeat' first
    | (apply p1 (hd := rfl); case hop => first | (apply D_move; rfl) | (apply D_assign; rfl) | (apply D_pc q0; rfl; exact .nil) | (apply D_pc q1; rfl; exact .same rfl (.same rfl .nil)) | (apply D_pc q2; rfl; exact .same rfl (.same rfl (.same rfl (.same rfl .nil)))) | (apply D_pc q3; rfl; exact .same rfl (.same rfl (.same rfl (.same rfl .nil)))) | (apply D_ext; rfl; rfl) | (apply D_lit; rfl; rfl; rfl; rfl) | exact D_build rfl)
    | refine W_seq ?_
    | refine W_region ?_
    | refine WL_nil ?_
    | refine tn ?_
    | refine W_ret ?_
    | (refine idR ?_; first | refine ret1 rfl rfl rfl ?_)
    | refine Le.bool ?_
    | (refine idW ?_; first | refine W_draw0 rfl ?_)
    | (apply d1 (hd := rfl); case hop => first | (apply D_move; rfl) | (apply D_assign; rfl) | (apply D_pc q0; rfl; exact .nil) | exact D_sc (D_eqA rfl rfl rfl rfl rfl rfl rfl) g1 | exact D_sc (D_eqA rfl rfl rfl rfl rfl rfl rfl) g2 | (apply D_pickT; rfl; rfl) | (apply D_pickF; rfl; rfl) | (apply D_int; rfl; rfl; rfl) | (apply D_lenM; rfl) | (apply D_loadW; rfl; rfl) | (apply D_idxAn; rfl; rfl; (first | omega | (simp; done))) | (apply D_idxA0; rfl; rfl; omega; (first | omega | (simp; done) | (simp; omega))))
    | (refine idDg ?_; first | refine dg0t rfl rfl rfl ?_ | refine dgr rfl rfl ?_ | refine dgs rfl rfl (fun _ => ?_) (fun _ => ?_))
    | refine WD_nil (by first | decide +kernel | kernel_rfl | rfl) ?_
  all_goals first | rfl | contradiction | skip
end Go.Proofs
