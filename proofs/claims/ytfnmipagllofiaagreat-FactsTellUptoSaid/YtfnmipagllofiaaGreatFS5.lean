/- Contracts of the sets of instants: spans put together. -/
import Derived.Test.YtfnmipagllofiaaGreatFS1
import Derived.Test.YtfnmipagllofiaaGreatFD2
import Derived.Test.YtfnmipagllofiaaGreatQO2
import Derived.Test.YtfnmipagllofiaaGreatOps24
namespace Go.Proofs
open Go.AL Go.Sort
attribute [local irreducible] Go.AL.W Go.AL.WL Go.AL.WD Go.AL.POp Go.AL.PPOp Go.AL.POpS Go.AL.PC Go.AL.AC Go.AL.YW Go.AL.Ret Go.AL.Le Go.AL.thn Go.AL.inBlk Go.AL.scp
instance : Inhabited Sp := ⟨⟨0, 0⟩⟩
theorem flat2 {o : List Sp} {p : Sp} : ((o ++ [p]).map sC).flatten = (o.map sC).flatten ++ sC p := by simp
theorem flat2_len (o : List Sp) : ((o.map sC).flatten).length = o.length * 2 := by
  rw [flat_len sC_row, List.length_map]
theorem flat_get {o : List Sp} {p : Sp} : (((o ++ [p]).map sC).flatten)[o.length * 2 + 1]? = some (.sc (.int .i64 p.t)) := by
  have := flat2_len o
  rw [flat2, List.getElem?_append_right (by omega), this, show o.length * 2 + 1 - o.length * 2 = 1 by omega]; rfl
theorem flat_st {o : List Sp} {p : Sp} {t : Int} : ((o ++ [(⟨p.f, t⟩ : Sp)]).map sC).flatten = (((o ++ [p]).map sC).flatten).take (o.length * 2 + 1) ++ [.sc (.int .i64 t)] ++ (((o ++ [p]).map sC).flatten).drop (o.length * 2 + 1 + 1) := by
  have := flat2_len o
  rw [flat2, flat2, List.take_append, List.drop_append, this, show o.length * 2 + 1 - o.length * 2 = 1 by omega, show o.length * 2 + 1 + 1 - o.length * 2 = 2 by omega, List.take_of_length_le (by omega), List.drop_eq_nil_of_le (by omega)]
  simp
end Go.Proofs

namespace Go.Proofs
open Go.AL
attribute [local irreducible] Go.AL.W Go.AL.WL Go.AL.WD Go.AL.POp Go.AL.PPOp Go.AL.POpS Go.AL.PC Go.AL.AC Go.AL.YW Go.AL.Ret Go.AL.Le Go.AL.thn Go.AL.inBlk Go.AL.scp
set_option maxHeartbeats 4000000 in
theorem meets_ac [GlobF Tryz.prog] (a b : List Sp) (h : List AObj) : AC Tryz.prog 93 [sl2 a, sl2 b] h (fun v h' => v = .fn (.func 111) [] [.bp h.length 0, .bp (h ++ [AObj.cells [sl2 a]]).length 0] ∧ h' = h ++ [.cells [sl2 a]] ++ [.cells [sl2 b]]) := by
  refine AC.of_body Tryz.func93 Tryz.ntmps93 rfl rfl rfl ?_
  repeat' first
    | (refine m_box rfl rfl rfl ?_)
    | (apply p1 (hd := rfl); case hop => first | (apply D_assign; rfl) | exact D_mkfn rfl)
    | refine W_seq ?_
    | refine W_region ?_
    | refine WL_nil ?_
    | refine tn ?_
    | refine W_ret ?_
    | fail
  exact retK1 (.inl rfl) rfl rfl (ResO.tmp rfl) ⟨rfl, rfl⟩
abbrev HM (X1 X2 : AObj) (o a b : List Sp) : List AObj := [.cells [.sl (some 1) 2 (o.map sC)], .tail o.length 2 69, .cells [sl2 a], .cells [sl2 b], X1, X2]
theorem bdS {n : Nat} {tok : Option Nat} {k : Nat} {l : List Sp} (h : ∀ t, tok = some t → t < n) : BdA n (.sl tok k (l.map sC)) := .sl h fun e he x hx => by
  obtain ⟨s, _, rfl⟩ := List.mem_map.1 he
  simp only [List.mem_cons, List.not_mem_nil, or_false] at hx
  rcases hx with rfl | rfl <;> exact .sc _
theorem HM_bd {X1 X2 : AObj} {a b : List Sp} (h : BdH (HM X1 X2 [] a b)) (o a' b' : List Sp) : BdH (HM X1 X2 o a' b') := fun q hq => by
  have h1 : BdO 6 X1 := h X1 (by simp)
  have h2 : BdO 6 X2 := h X2 (by simp)
  simp only [List.mem_cons, List.not_mem_nil, or_false] at hq
  rcases hq with rfl | rfl | rfl | rfl | rfl | rfl
  · exact fun x hx => by rw [List.mem_singleton.1 hx]; exact bdS fun t e => by cases e; show 1 < 6; decide
  · trivial
  · exact fun x hx => by rw [List.mem_singleton.1 hx]; exact bdS fun t e => by cases e
  · exact fun x hx => by rw [List.mem_singleton.1 hx]; exact bdS fun t e => by cases e
  · exact h1
  · exact h2
set_option maxHeartbeats 16000000 in
theorem meets1_ac [GlobF Tryz.prog] (X1 X2 : AObj) (a b : List Sp) (l : Nat) (hla : a.length + b.length < 8796093022208) (hlb : b.length < 8796093022208)
    (hy : ∀ (o a' b' : List Sp) (s : Sp) (ex : List AObj), o.length < 8796093022208 → YW Tryz.prog l [eS s] (HM X1 X2 o a' b' ++ ex) (fun bo h' => bo = true ∧ ∃ ex', h' = HM X1 X2 (o ++ [s]) a' b' ++ ex')) :
    AC Tryz.prog 111 [.sc (.func (.yield l) #[] #[]), .bp 2 0, .bp 3 0] (HM X1 X2 [] a b) (fun _ h' => ∃ a' b' ex, h' = HM X1 X2 (meetL a b) a' b' ++ ex) := by
  refine AC.bd (enters_of Tryz.func111 (by kernel_rfl) rfl) fun hbd => ?_
  refine AC.of_body Tryz.func111 Tryz.ntmps111 rfl rfl rfl ?_
  repeat' first
    | refine W_seq ?_
    | refine tn ?_
    | refine W_block ?_
    | refine W_label ?_
    | refine W_scope ?_
    | fail
  refine W_loopC (X := List Sp × List Sp × List Sp) (fun _ => [(0, .sc (.func (.yield l) #[] #[])), (1, .bp 2 0), (2, .bp 3 0)]) (fun x => HM X1 X2 x.1 x.2.1 x.2.2)
    (fun x => x.1 ++ meetL x.2.1 x.2.2 = meetL a b ∧ x.1.length + x.2.1.length + x.2.2.length ≤ a.length + b.length) (fun x => x.2.1.length + x.2.2.length) ([], a, b) ⟨rfl, by simp⟩ ⟨rfl, rfl, rfl, trivial⟩ rfl
    (fun _ => Nat.le_refl _) (fun x _ => HM_bd hbd _ _ _) (fun x _ => look_all .any (by simp; exact ⟨.sc _, .bp (by decide), .bp (by decide)⟩)) (fun x r hr => by cases hr) ?_
  rintro ⟨o, a', b'⟩ ⟨hI, hS⟩
  simp only at hI hS ⊢
  rcases a' with _ | ⟨s, a1⟩
  · rw [meetL_nil, List.append_nil] at hI
    subst hI
    repeat' first
      | (apply p1 (hd := rfl); case hop => first | (apply D_move; rfl) | (apply D_pickT; rfl; rfl) | (apply D_pickF; rfl; rfl) | (apply D_int; rfl; rfl; rfl) | (apply D_lenM; rfl))
      | refine W_seq ?_
      | refine W_region ?_
      | (refine idC ?_; first | refine c0 rfl ?_ | refine cs rfl (fun _ => ?_) (fun _ => ?_))
      | refine WL_nil ?_
      | (refine idG ?_; first | refine g0t rfl rfl rfl ?_ | refine gr rfl rfl ?_ | refine gs rfl rfl (fun _ => ?_) (fun _ => ?_))
      | refine tn ?_
      | refine te ?_
      | (refine idB ?_; refine bh rfl ?_)
      | refine W_skip ?_
      | refine W_block ?_
      | refine W_exit ?_
      | refine sn ?_
      | (refine idLd ?_; refine p1L (D_loadB1 rfl rfl rfl) rfl ?_)
      | (refine idW ?_; refine W_draw1 rfl ?_)
      | (apply d1 (hd := rfl); case hop => first | (apply D_load1; rfl) | (apply D_fld; rfl) | (apply D_idxA; rfl; rfl; omega; (first | omega | (simp; done) | (simp; omega))))
      | (refine idDn ?_; refine dL _ (fun hp' hs => D_loadB1 rfl (hs.trans rfl) rfl) rfl ?_)
      | fail
    all_goals first
      | exact ret0 (.inr rfl) rfl rfl ⟨_, _, [], (List.append_nil _).symm⟩
      | (exfalso; simp only [List.length_cons, List.length_nil] at *; omega)
      | skip
  · rcases b' with _ | ⟨r, b1⟩
    · rw [meetL_nil2, List.append_nil] at hI
      subst hI
      repeat' first
        | (apply p1 (hd := rfl); case hop => first | (apply D_move; rfl) | (apply D_pickT; rfl; rfl) | (apply D_pickF; rfl; rfl) | (apply D_int; rfl; rfl; rfl) | (apply D_lenM; rfl))
        | refine W_seq ?_
        | refine W_region ?_
        | (refine idC ?_; first | refine c0 rfl ?_ | refine cs rfl (fun _ => ?_) (fun _ => ?_))
        | refine WL_nil ?_
        | (refine idG ?_; first | refine g0t rfl rfl rfl ?_ | refine gr rfl rfl ?_ | refine gs rfl rfl (fun _ => ?_) (fun _ => ?_))
        | refine tn ?_
        | refine te ?_
        | (refine idB ?_; refine bh rfl ?_)
        | refine W_skip ?_
        | refine W_block ?_
        | refine W_exit ?_
        | refine sn ?_
        | (refine idLd ?_; refine p1L (D_loadB1 rfl rfl rfl) rfl ?_)
        | (refine idW ?_; refine W_draw1 rfl ?_)
        | (apply d1 (hd := rfl); case hop => first | (apply D_load1; rfl) | (apply D_fld; rfl) | (apply D_idxAn; rfl; rfl; (first | omega | (simp; done))) | (apply D_idxA; rfl; rfl; omega; (first | omega | (simp; done) | (simp; omega))))
        | (refine idDn ?_; refine dL _ (fun hp' hs => D_loadB1 rfl (hs.trans rfl) rfl) rfl ?_)
        | fail
      all_goals first
        | exact ret0 (.inr rfl) rfl rfl ⟨_, _, [], (List.append_nil _).symm⟩
        | (exfalso; simp only [List.length_cons, List.length_nil] at *; omega)
        | skip
    · have hyi := hy o (s :: a1) (r :: b1) ⟨max s.f r.f, min s.t r.t⟩ [.cells (sC ⟨max s.f r.f, min s.t r.t⟩)] (by omega)
      rw [meetL_cons] at hI
      have hnot : Value.bool (bNot true) = .bool false := by simp [bNot]
      simp only [List.length_cons] at hS
      repeat' first
        | (apply p1 (hd := rfl); case hop => first | (apply D_move; rfl) | exact D_sc (D_not rfl) hnot | (apply D_pickT; rfl; rfl) | (apply D_pickF; rfl; rfl) | (apply D_int; rfl; rfl; rfl) | (apply D_lenM; rfl) | (apply D_slVlM; rfl; rfl; all_goals first | omega | ((repeat rw [w64 _ (by omega) (by omega)]); omega) | decide) | exact D_fldB rfl)
        | refine W_seq ?_
        | refine W_region ?_
        | (refine idC ?_; first | refine c0 rfl ?_ | refine cs rfl (fun _ => ?_) (fun _ => ?_))
        | refine WL_nil ?_
        | (refine idG ?_; first | refine g0t rfl rfl rfl ?_ | refine gr rfl rfl ?_ | refine gs rfl rfl (fun _ => ?_) (fun _ => ?_))
        | refine tn ?_
        | refine bn ?_
        | refine te ?_
        | (refine idB ?_; refine bh rfl ?_)
        | refine W_skip ?_
        | refine W_block ?_
        | refine W_exit ?_
        | refine sn ?_
        | (refine idLd ?_; first | refine p1L (D_loadB1 rfl rfl rfl) rfl ?_ | refine p1L (D_loadBA rfl rfl rfl) rfl ?_)
        | (refine idS ?_; refine pS (S_store rfl rfl rfl rfl rfl rfl rfl) ?_)
        | (refine m_yield rfl rfl rfl hyi ?_; rintro bo _ ⟨rfl, ex, rfl⟩)
        | (refine idW ?_; first | refine W_draw0 rfl ?_ | refine W_draw1 rfl ?_)
        | (apply d1 (hd := rfl); case hop => first | exact D_max rfl rfl | exact D_min rfl rfl | (apply D_load1; rfl) | (apply D_fld; rfl) | (apply D_int; rfl; rfl; rfl) | (apply D_idxAn; rfl; rfl; (first | omega | (simp; done))) | exact D_build rfl)
        | (refine idDn ?_; first | refine dL _ (fun hp' hs => D_loadB1 rfl (hs.trans rfl) rfl) rfl ?_ | refine dS (S_store rfl rfl rfl rfl rfl rfl rfl) rfl ?_ | refine dV (S_alloc 6 rfl) rfl rfl ?_)
        | refine WD_nil (by first | decide +kernel | kernel_rfl | rfl) ?_
        | fail
      all_goals first
        | (rw [if_pos (by assumption : max s.f r.f < min s.t r.t), if_pos (by assumption : s.t < r.t), ← List.append_assoc] at hI
           exact ⟨rfl, (_, a1, r :: b1), ⟨hI, by simp; omega⟩, by simp, ⟨rfl, rfl, rfl, trivial⟩, ex, rfl⟩)
        | (rw [if_pos (by assumption : max s.f r.f < min s.t r.t), if_neg (Int.not_lt.2 (by assumption : r.t ≤ s.t)), ← List.append_assoc] at hI
           exact ⟨rfl, (_, s :: a1, b1), ⟨hI, by simp; omega⟩, by simp, ⟨rfl, rfl, rfl, trivial⟩, ex, rfl⟩)
        | (rw [if_neg (Int.not_lt.2 (by assumption : min s.t r.t ≤ max s.f r.f)), if_pos (by assumption : s.t < r.t), List.nil_append] at hI
           exact ⟨rfl, (_, a1, r :: b1), ⟨hI, by simp; omega⟩, by simp, ⟨rfl, rfl, rfl, trivial⟩, _, rfl⟩)
        | (rw [if_neg (Int.not_lt.2 (by assumption : min s.t r.t ≤ max s.f r.f)), if_neg (Int.not_lt.2 (by assumption : r.t ≤ s.t)), List.nil_append] at hI
           exact ⟨rfl, (_, s :: a1, b1), ⟨hI, by simp; omega⟩, by simp, ⟨rfl, rfl, rfl, trivial⟩, _, rfl⟩)
        | (exfalso; simp only [List.length_cons, List.length_nil] at *; omega)
        | skip
      all_goals trace_state
end Go.Proofs

namespace Go.Proofs
open Go.AL
attribute [local irreducible] Go.AL.W Go.AL.WL Go.AL.WD Go.AL.POp Go.AL.PPOp Go.AL.POpS Go.AL.PC Go.AL.AC Go.AL.YW Go.AL.Ret Go.AL.Le Go.AL.thn Go.AL.inBlk Go.AL.scp
theorem meet_len : ∀ (n : Nat) (a b : List Sp), a.length + b.length ≤ n → (meetL a b).length ≤ a.length + b.length
  | _, [], b, _ => by rw [meetL_nil]; simp
  | _, _ :: _, [], _ => by rw [meetL_nil2]; simp
  | 0, _ :: _, _ :: _, h => by simp at h
  | n + 1, s :: a, r :: b, hn => by
    rw [meetL_cons]
    simp only [List.length_cons, List.length_append] at hn ⊢
    have h1 : (if max s.f r.f < min s.t r.t then [(⟨max s.f r.f, min s.t r.t⟩ : Sp)] else []).length ≤ 1 := by split <;> simp
    by_cases hc : s.t < r.t
    · rw [if_pos hc]
      have := meet_len n a (r :: b) (by simp; omega)
      simp only [List.length_cons] at this; omega
    · rw [if_neg hc]
      have := meet_len n (s :: a) b (by simp; omega)
      simp only [List.length_cons] at this; omega
set_option maxHeartbeats 16000000 in
theorem shared_pc [GlobF Tryz.prog] (a b : List Sp) (hla : a.length + b.length < 8796093022208) (hlb : b.length < 8796093022208) : PC Tryz.prog 67 [sl2 a, sl2 b] (sl2 (meetL a b)) := by
  refine PC.of_body Tryz.func67 Tryz.ntmps67 rfl rfl rfl ?_
  repeat' first
    | (refine WL_adoptC 0 0 2 69 rfl rfl ?_)
    | (apply p1 (hd := rfl); case hop => first | (apply D_move; rfl) | (apply D_assign; rfl))
    | refine W_seq ?_
    | refine W_region ?_
    | refine WL_nil ?_
    | refine tn ?_
    | refine W_block ?_
    | (refine idA ?_; refine m_alloc rfl ?_)
    | (refine m_call (d := 9) (meets_ac a b _) rfl rfl rfl ?_; rintro _ _ ⟨rfl, rfl⟩)
    | fail
  refine W_range (.inl rfl) fun l => ?_
  refine AC.mono (meets1_ac _ _ a b l hla hlb ?_) ?_
  · intro o a' b' s ex ho
    refine YW.round (r := 5) rfl rfl rfl ?_
    repeat' first
      | refine W_region ?_
      | refine WL_nil ?_
      | (refine idA ?_; refine m_var rfl rfl rfl rfl rfl rfl rfl ?_)
      | fail
    refine ⟨rfl, rfl, ?_⟩
    repeat' first
      | (apply p1 (hd := rfl); case hop => first | (apply D_loadW; rfl; rfl) | (apply D_lit; rfl; rfl; rfl; rfl))
      | refine W_region ?_
      | refine WL_nil ?_
      | refine bn ?_
      | refine W_block ?_
      | (refine idLd ?_; refine p1L (D_loadB1 rfl rfl rfl) rfl ?_)
      | (refine idS ?_; refine pS (S_store rfl rfl rfl rfl rfl rfl rfl) ?_)
      | (refine idAp ?_; refine m_app rfl rfl (by first | rfl | assumption | exact get_set (by assumption) | exact get_set (get_set (by assumption)) | exact get_set (get_set (get_set (by assumption))) | ((repeat first | assumption | exact get_last | (refine get_last2 ?_; focus (simp; done)) | apply get_set | apply get_app | (apply get_ne; focus omega)); done)) ?_ rfl rfl ?_ ?_ rfl ?_; (first | rfl | focus (simp only [List.length_map, List.length_append, List.length_cons, List.length_nil]; omega) | focus (simp; done) | focus (simp; omega)); (first | focus (simp only [List.length_map, List.length_append, List.length_cons, List.length_nil]; omega) | focus (simp; done) | focus (simp; omega)); (first | focus (simp only [List.length_map, List.length_append, List.length_cons, List.length_nil]; omega) | focus (simp; done) | focus (simp; omega)))
      | fail
    refine ⟨rfl, ⟨_, _, rfl⟩, rfl, ex, ?_⟩
    simp
  · rintro v h' ⟨a', b', ex, rfl⟩
    refine ⟨_, _, rfl, by decide, ?_⟩
    repeat' first
      | (apply p1 (hd := rfl); case hop => (apply D_assign; rfl))
      | refine W_seq ?_
      | refine W_region ?_
      | refine WL_nil ?_
      | refine tn ?_
      | refine bn ?_
      | refine W_ret ?_
      | (refine idR ?_; refine rL1 rfl (by first | exact trivial | exact ⟨rfl, trivial⟩) (by first | exact ResO.tmp rfl | exact ResO.cellBA rfl rfl rfl | exact ResO.cellB1 rfl rfl rfl | exact ResO.cellEA rfl rfl | exact ResO.cellE1 rfl) ?_)
      | (refine idLd ?_; refine p1L (D_loadB1 rfl rfl rfl) rfl ?_)
      | fail
    all_goals exact Le.tokq rfl
abbrev HR (o : List Sp) (at_ : Int) : List AObj := [.cells [.sl (some 1) 2 (o.map sC)], .tail o.length 2 69, .cells [.sc (.int .i64 at_)]]
theorem hr3 {n m e : Nat} {x y : List (List AV)} {z : AObj} (h1 : x = y) (h2 : n = m) : [AObj.cells [.sl (some 1) 2 x], .tail n 2 e, z] = [.cells [.sl (some 1) 2 y], .tail m 2 e, z] := by rw [h1, h2]
def oneR (a b : Int) : List Sp := if a < b then [⟨a, b⟩] else []
set_option maxHeartbeats 4000000 in
theorem rest1_ac [GlobF Tryz.prog] (o : List Sp) (a b : Int) (ho : o.length < 8796093022208) : AC Tryz.prog 94 [.sc (.int .i64 b), .bp 2 0, .bp 0 0] (HR o a) (fun v h' => v = .tu [] ∧ h' = HR (o ++ oneR a b) a) := by
  refine AC.of_body Tryz.func94 Tryz.ntmps94 rfl rfl rfl ?_
  repeat' first
    | (apply p1 (hd := rfl); case hop => first | (apply D_move; rfl) | (apply D_int; rfl; rfl; rfl) | (apply D_lit; rfl; rfl; rfl; rfl) | exact D_build rfl)
    | refine W_seq ?_
    | refine W_region ?_
    | (refine idC ?_; refine cs rfl (fun _ => ?_) (fun _ => ?_))
    | refine WL_nil ?_
    | refine tn ?_
    | refine W_skip ?_
    | (refine idLd ?_; refine p1L (D_loadB1 rfl rfl rfl) rfl ?_)
    | (refine idS ?_; refine pS (S_store rfl rfl rfl rfl rfl rfl rfl) ?_)
    | (refine idAp ?_; refine m_appB rfl rfl rfl (by first | rfl | assumption | exact get_set (by assumption) | exact get_set (get_set (by assumption)) | exact get_set (get_set (get_set (by assumption))) | ((repeat first | assumption | exact get_last | (refine get_last2 ?_; focus (simp; done)) | apply get_set | apply get_app | (apply get_ne; focus omega)); done)) ?_ rfl rfl ?_ ?_ rfl ?_; (first | rfl | focus (simp only [List.length_map, List.length_append, List.length_cons, List.length_nil]; omega) | focus (simp; done) | focus (simp; omega)); (first | focus (simp only [List.length_map, List.length_append, List.length_cons, List.length_nil]; omega) | focus (simp; done) | focus (simp; omega)); (first | focus (simp only [List.length_map, List.length_append, List.length_cons, List.length_nil]; omega) | focus (simp; done) | focus (simp; omega)))
    | fail
  all_goals first
    | exact Nat.le_refl _
    | (rename_i k1
       refine ret0 (.inr rfl) rfl rfl ⟨rfl, ?_⟩
       rw [show oneR a b = [⟨a, b⟩] by unfold oneR; rw [if_pos k1]]
       refine hr3 ?_ ?_
       · rw [List.map_append]; rfl
       · rw [List.length_map, List.length_append]; rfl)
    | (rename_i k1
       refine ret0 (.inr rfl) rfl rfl ⟨rfl, ?_⟩
       unfold oneR; rw [if_neg (Int.not_lt.2 k1)]; simp; done)
    | skip
  all_goals trace_state
set_option maxHeartbeats 16000000 in
theorem rest_pc [GlobF Tryz.prog] (l : List Sp) (hl : l.length + 1 < 8796093022208) : PC Tryz.prog 68 [sl2 l] (sl2 (restL loT l)) := by
  refine PC.of_body Tryz.func68 Tryz.ntmps68 rfl rfl rfl ?_
  repeat' first
    | (refine m_alloc (t := 2) rfl ?_)
    | (refine WL_adoptC 0 0 2 69 rfl rfl ?_)
    | (apply p1 (hd := rfl); case hop => first | (apply D_move; rfl) | (apply D_assign; rfl) | (apply D_lenM; rfl) | exact D_mkfn rfl)
    | refine W_seq ?_
    | refine W_region ?_
    | refine WL_nil ?_
    | refine tn ?_
    | refine W_block ?_
    | (refine idA ?_; refine m_alloc rfl ?_)
    | (refine idS ?_; refine pS (S_store rfl rfl rfl rfl rfl rfl rfl) ?_)
    | fail
  refine W_loopL (X := Nat × List Sp × Int) (fun x => [(3, .bp 0 0), (4, .bp 2 0), (5, .fn (.func 94) [] [.bp 2 0, .bp 0 0]), (9, sl2 l), (10, .sc (.int .i64 (l.length : Int))), (11, .sc (.int .i64 (x.1 : Int)))]) (fun x => HR x.2.1 x.2.2)
    (fun x => x.1 ≤ l.length ∧ x.2.1.length ≤ x.1 ∧ x.2.1 ++ restL x.2.2 (l.drop x.1) = restL loT l) (fun x => l.length - x.1) (0, [], loT) ⟨Nat.zero_le _, Nat.le_refl _, rfl⟩ ⟨rfl, rfl, rfl, rfl, rfl, rfl, trivial⟩ rfl ?_
  rintro ⟨i, o, a⟩ ⟨hi, ho, hI⟩
  simp only at hi ho hI ⊢
  have hone : ∀ b, (oneR a b).length ≤ 1 := fun b => by unfold oneR; split <;> simp
  by_cases hil : i < l.length
  · rw [List.drop_eq_getElem_cons hil, show restL a (l[i] :: l.drop (i + 1)) = oneR a l[i].f ++ restL l[i].t (l.drop (i + 1)) from rfl] at hI
    repeat' first
      | (apply p1 (hd := rfl); case hop => first | (apply D_move; rfl) | (apply D_load1; rfl) | (apply D_fld; rfl) | (apply D_int; rfl; rfl; rfl) | (apply D_loadW; rfl; rfl) | (apply D_idxAn; rfl; rfl; (first | omega | (simp; done))))
      | refine W_seq ?_
      | refine W_region ?_
      | (refine idC ?_; refine cs rfl (fun _ => ?_) (fun _ => ?_))
      | refine WL_nil ?_
      | refine tn ?_
      | refine bn ?_
      | refine te ?_
      | (refine idB ?_; refine bh rfl ?_)
      | refine W_skip ?_
      | refine W_block ?_
      | refine W_exit ?_
      | (refine idA ?_; refine m_var rfl rfl rfl rfl rfl rfl rfl ?_)
      | (refine idS ?_; refine pS (S_store rfl rfl rfl rfl rfl rfl rfl) ?_)
      | (refine m_callC (d := 18) (rest1_ac o a (l[i]'hil).f (by omega)) rfl rfl rfl rfl ?_; rintro _ _ ⟨rfl, rfl⟩)
      | fail
    · have := hone (l[i]'hil).f
      refine ⟨rfl, (i + 1, o ++ oneR a l[i].f, l[i].t), ⟨by simp only []; omega, by simp only [List.length_append]; omega, ?_⟩, by simp only []; omega, ⟨rfl, rfl, rfl, rfl, rfl, ieq (wsucc i (by omega)), trivial⟩, rfl⟩
      rw [← hI]; exact List.append_assoc _ _ _
    · exfalso; omega
  · have e : l.drop i = [] := List.drop_eq_nil_of_le (by omega)
    rw [e, show restL a [] = oneR a hiT from rfl] at hI
    repeat' first
      | (apply p1 (hd := rfl); case hop => first | (apply D_move; rfl) | (apply D_assign; rfl) | (apply D_load1; rfl) | (apply D_fld; rfl) | (apply D_int; rfl; rfl; rfl) | (apply D_loadW; rfl; rfl) | (apply D_idxAn; rfl; rfl; (first | omega | (simp; done))))
      | refine W_seq ?_
      | refine W_region ?_
      | (refine idC ?_; refine cs rfl (fun _ => ?_) (fun _ => ?_))
      | refine WL_nil ?_
      | refine tn ?_
      | refine te ?_
      | (refine idB ?_; refine bh rfl ?_)
      | refine W_skip ?_
      | refine W_block ?_
      | refine W_exit ?_
      | refine W_ret ?_
      | (refine idR ?_; refine ret1 rfl rfl rfl ?_)
      | (refine idLd ?_; refine p1L (D_loadB1 rfl rfl rfl) rfl ?_)
      | (refine idA ?_; refine m_var rfl rfl rfl rfl rfl rfl rfl ?_)
      | (refine m_callC (d := 23) (rest1_ac o a hiT (by omega)) rfl rfl rfl rfl ?_; rintro _ _ ⟨rfl, rfl⟩)
      | fail
    · exfalso; omega
    · rw [← hI]; exact Le.tokq rfl
theorem rest_len : ∀ (l : List Sp) (a : Int), (restL a l).length ≤ l.length + 1
  | [], a => by unfold restL; split <;> simp
  | s :: l, a => by
    have := rest_len l s.t
    unfold restL
    rw [List.length_append]
    split <;> simp <;> omega
set_option maxHeartbeats 4000000 in
theorem sminus_pc [GlobF Tryz.prog] (a b : List Sp) (ha : SetP a) (hb : SetP b) (hla : a.length + b.length + 1 < 8796093022208) (hlb : b.length < 8796093022208) : PC Tryz.prog 39 [sl2 a, sl2 b] (.tu [sl2 (meetL a (restL loT b)), .sc (.int .i64 0)]) := by
  have s1 := set_pc a (by omega)
  have s2 := set_pc b (by omega)
  rw [← dP_T ha] at s1
  rw [← dP_T hb] at s2
  have hr := rest_len b loT
  refine PC.of_body Tryz.func39 Tryz.ntmps39 rfl rfl rfl ?_
  repeat' first
    | (apply p1 (hd := rfl); case hop => first | (apply D_move; rfl) | (apply D_assign; rfl) | (apply D_pc s1; rfl; exact .same rfl .nil) | (apply D_pc s2; rfl; exact .same rfl .nil) | (apply D_pc (rest_pc b (by omega)); rfl; exact .same rfl .nil) | (apply D_pc (shared_pc a (restL loT b) (by omega) (by omega)); rfl; exact .same rfl (.same rfl .nil)) | (apply D_pickT; rfl; rfl) | (apply D_pickF; rfl; rfl) | (apply D_not; rfl))
    | refine W_seq ?_
    | refine W_region ?_
    | (refine idC ?_; first | refine c1 rfl ?_ | refine cs rfl (fun _ => ?_) (fun _ => ?_))
    | refine WL_nil ?_
    | (refine idG ?_; first | refine g0f rfl rfl rfl ?_ | refine gr rfl rfl ?_ | refine gs rfl rfl (fun _ => ?_) (fun _ => ?_))
    | refine tn ?_
    | refine tr ?_
    | refine W_skip ?_
    | refine W_ret ?_
    | (refine idR ?_; refine ret2 rfl rfl rfl rfl ?_ ?_)
    | refine Le.int ?_
    | fail
  all_goals first | rfl | contradiction | exact Le.of_eq rfl | skip
  all_goals trace_state
abbrev minL (a b : List Sp) : List Sp := meetL a (restL loT b)
end Go.Proofs

namespace Go.Proofs
open Go.AL
attribute [local irreducible] Go.AL.W Go.AL.WL Go.AL.WD Go.AL.POp Go.AL.PPOp Go.AL.POpS Go.AL.PC Go.AL.AC Go.AL.YW Go.AL.Ret Go.AL.Le Go.AL.thn Go.AL.inBlk Go.AL.scp
theorem rng_in {l : List Sp} (h : rngS l) {x : Int} (hx : inS l x) : loT ≤ x ∧ x < hiT := by
  obtain ⟨s, hs, h1, h2⟩ := hx
  have := h s hs
  omega
theorem rng_of {l : List Sp} (h : SetP l) (hx : ∀ x, inS l x → loT ≤ x ∧ x < hiT) : rngS l := fun s hs => by
  have hne := h.1 s hs
  have h1 := hx s.f ⟨s, hs, Int.le_refl _, hne⟩
  have h2 := hx (s.t - 1) ⟨s, hs, by omega, by omega⟩
  omega
theorem and_ok {a b : List Sp} (ha : SetP a) (hb : SetP b) : SetP (meetL a b) ∧ ∀ x, inS (meetL a b) x ↔ (inS a x ∧ inS b x) := meet_ok _ a b (Nat.le_refl _) ha hb
theorem min_ok {a b : List Sp} (ha : SetP a) (hb : SetP b) (ra : ∀ x, inS a x → loT ≤ x ∧ x < hiT) (rb : rngS b) : SetP (minL a b) ∧ ∀ x, inS (minL a b) x ↔ (inS a x ∧ ¬ inS b x) := by
  obtain ⟨r1, r2⟩ := rest_ok b loT hb rb (fun s hs => (rb s hs).1.1)
  obtain ⟨m1, m2⟩ := and_ok ha r1
  refine ⟨m1, fun x => (m2 x).trans ⟨fun h => ⟨h.1, ((r2 x).1 h.2).2.2⟩, fun h => ⟨h.1, (r2 x).2 ⟨(ra x h.1).1, (ra x h.1).2, h.2⟩⟩⟩⟩
theorem min_len (a b : List Sp) : (minL a b).length ≤ a.length + b.length + 1 := by
  have h1 := meet_len _ a (restL loT b) (Nat.le_refl _)
  have h2 := rest_len b loT
  show (meetL a (restL loT b)).length ≤ _
  omega
theorem encS_inj {a b : Sp} (h : [Value.int IntKind.i64 a.f, Value.int IntKind.i64 a.t] = [Value.int IntKind.i64 b.f, Value.int IntKind.i64 b.t]) : a = b := by
  simp at h
  exact Sp.ext' h.1 h.2
set_option maxHeartbeats 4000000 in
theorem ssame_pc [GlobF Tryz.prog] (a b : List Sp) (ha : a.length < 4611686018427387904) : PC Tryz.prog 20 [sl2 a, sl2 b] (.sc (.bool (dP (a = b)))) := by
  refine PC.of_body Tryz.func20 Tryz.ntmps20 rfl rfl rfl ?_
  repeat' first
    | (apply p1 (hd := rfl); case hop => first | (apply D_move; rfl) | (apply D_assign; rfl) | (apply D_int; rfl; rfl; rfl) | (apply D_lenM; rfl))
    | refine W_seq ?_
    | refine W_region ?_
    | (refine idC ?_; refine cs rfl (fun _ => ?_) (fun _ => ?_))
    | refine WL_nil ?_
    | refine tn ?_
    | refine tr ?_
    | refine W_skip ?_
    | refine W_block ?_
    | refine W_ret ?_
    | (refine idR ?_; refine ret1 rfl rfl rfl ?_)
    | refine Le.bool ?_
    | fail
  · rename_i h1
    exact dP_F fun e => h1 (by rw [e])
  rename_i h1
  have hl : a.length = b.length := by omega
  refine W_loopL (X := Nat) (fun i => [(0, sl2 a), (1, sl2 b), (5, .sc (.int .i64 (i : Int)))]) (fun _ => [])
    (fun i => i ≤ a.length ∧ ∀ (j : Nat) (h : j < a.length) (h' : j < b.length), j < i → a[j] = b[j]) (fun i => a.length - i) 0 ⟨Nat.zero_le _, fun j h h' hj => absurd hj (Nat.not_lt_zero j)⟩ ⟨rfl, rfl, rfl, trivial⟩ rfl ?_
  rintro i ⟨hi, hz⟩
  repeat' first
    | (apply p1 (hd := rfl); case hop => first | (apply D_move; rfl) | (apply D_assign; rfl) | (apply D_int; rfl; rfl; rfl) | (apply D_lenM; rfl))
    | refine W_seq ?_
    | refine W_region ?_
    | (refine idC ?_; refine cs rfl (fun _ => ?_) (fun _ => ?_))
    | refine WL_nil ?_
    | refine tn ?_
    | refine tr ?_
    | refine br ?_
    | refine bn ?_
    | refine te ?_
    | (refine idB ?_; refine bh rfl ?_)
    | refine W_skip ?_
    | refine W_block ?_
    | refine W_exit ?_
    | refine W_ret ?_
    | (refine idR ?_; refine ret1 rfl rfl rfl ?_)
    | refine Le.bool ?_
    | (refine idW ?_; refine W_draw0 rfl ?_)
    | (apply d1 (hd := rfl); case hop => first | (apply D_move; rfl) | (apply D_loadW; rfl; rfl) | (apply D_idxAn; rfl; rfl; (first | omega | (simp; done))) | exact D_neA rfl rfl rfl rfl rfl rfl rfl)
    | refine WD_nil (by first | decide +kernel | kernel_rfl | rfl) ?_
    | fail
  · rename_i hx
    exact dP_F fun e => hx (by subst e; rfl)
  · rename_i hx
    refine ⟨rfl, i + 1, ⟨by omega, fun j h h' hj => ?_⟩, by omega, ⟨rfl, rfl, ieq (wsucc i (by omega)), trivial⟩, rfl⟩
    by_cases e : j = i
    · subst e; exact encS_inj hx
    · exact hz j h h' (by omega)
  · exact dP_T (List.ext_getElem hl fun j h h' => hz j h h' (by omega))
end Go.Proofs
