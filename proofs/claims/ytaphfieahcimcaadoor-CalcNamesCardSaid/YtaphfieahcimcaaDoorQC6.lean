/- Contracts of calc's functions: Test, the program's. -/
import Derived.Test.YtaphfieahcimcaaDoorQC4
import Derived.Shelf.Strings.Search3
namespace Go.Proofs
open Go.Shelf
def Tryd.lays143_ren : Go.Shelf.Ren := ⟨fun | 143 => 34 | 219 => 51 | 217 => 69 | 225 => 70 | 224 => 71 | 267 => 72 | 266 => 94 | 314 => 95 | n => n, fun | 9 => 9 | 3 => 3 | 4 => 4 | 5 => 5 | 46 => 75 | 146 => 119 | 51 => 107 | n => n, fun | 1 => 0 | n => n⟩
theorem Tryd.lays143 : Go.Proofs.Lays.n143 Tryd.prog Tryd.lays143_ren := {
  mixed := by kernel_rfl
  f143 := Tryd.func34.trans (congrArg some (by kernel_rfl))
  f217 := Tryd.func69.trans (congrArg some (by kernel_rfl))
  f219 := Tryd.func51.trans (congrArg some (by kernel_rfl))
  f224 := Tryd.func71.trans (congrArg some (by kernel_rfl))
  f225 := Tryd.func70.trans (congrArg some (by kernel_rfl))
  f266 := Tryd.func94.trans (congrArg some (by kernel_rfl))
  f267 := Tryd.func72.trans (congrArg some (by kernel_rfl))
  f314 := Tryd.func95.trans (congrArg some (by kernel_rfl))
  t3 := Tryd.underlying3
  a3 := Tryd.isAgg3
  z3 := Tryd.sizeOf3
  v3 := Tryd.zeroValue3
  t4 := Tryd.underlying4
  a4 := Tryd.isAgg4
  z4 := Tryd.sizeOf4
  v4 := Tryd.zeroValue4
  t5 := Tryd.underlying5
  a5 := Tryd.isAgg5
  z5 := Tryd.sizeOf5
  v5 := Tryd.zeroValue5
  t9 := Tryd.underlying9
  a9 := Tryd.isAgg9
  z9 := Tryd.sizeOf9
  v9 := Tryd.zeroValue9
  t46 := Tryd.underlying75
  a46 := Tryd.isAgg75
  z46 := Tryd.sizeOf75
  v46 := Tryd.zeroValue75
  t51 := Tryd.underlying107
  a51 := Tryd.isAgg107
  z51 := Tryd.sizeOf107
  v51 := Tryd.zeroValue107
  t146 := Tryd.underlying119
  a146 := Tryd.isAgg119
  z146 := Tryd.sizeOf119
  v146 := Tryd.zeroValue119
  g1 := by kernel_rfl }


open Go.AL
attribute [local irreducible] Go.AL.W Go.AL.WL Go.AL.WD Go.AL.POp Go.AL.PPOp Go.AL.POpS Go.AL.PC Go.AL.AC Go.AL.YW Go.AL.Ret Go.AL.Le Go.AL.thn Go.AL.inBlk Go.AL.scp

/-- What the table of jumps holds. -/
def MaxLenOK [GlobF Tryd.prog] : Prop := ∃ m : Int, GlobF.f Tryd.prog 0 0 = some (.int .i64 m)

theorem index_pc [GlobF Tryd.prog] (hg : MaxLenOK) (s t : List UInt8) (hs : s.length < 4294967281) : PC Tryd.prog 34 [str s, str t] (.sc (.int .i64 (Lib.index s t))) := by
  obtain ⟨m, hm⟩ := hg
  exact PC.of_calls (us := [.string ⟨s.toArray⟩, .string ⟨t.toArray⟩]) (enters_of Tryd.func34 (by kernel_rfl) rfl) fun w hgl => Any.strings_Index Tryd.lays143 ⟨s.toArray⟩ ⟨t.toArray⟩ m w hs (hgl 0 0 _ hm)

theorem atP_occ (s t : List UInt8) (i : Nat) (hi : i ≤ s.length) : atP s t (i : Int) ↔ Lib.occAt s t i = true := by
  constructor
  · rintro ⟨_, h2, h3⟩
    have hl : i + t.length ≤ s.length := by omega
    rw [Lib.occAt_iff_take s t i hl, beq_iff_eq]
    rw [show ((i : Int) + t.length).toNat = i + t.length by omega, show ((i : Int)).toNat = i by omega, List.drop_take, Nat.add_sub_cancel_left] at h3
    exact h3
  · intro h
    have hl : i + t.length ≤ s.length := by
      rcases Lib.occAt_room h with h | h
      · exact h
      · subst h; simpa using hi
    rw [Lib.occAt_iff_take s t i hl, beq_iff_eq] at h
    refine ⟨by omega, by omega, ?_⟩
    rw [show ((i : Int) + t.length).toNat = i + t.length by omega, show ((i : Int)).toNat = i by omega, List.drop_take, Nat.add_sub_cancel_left]; exact h

theorem index_has (s t : List UInt8) : 0 ≤ Lib.index s t ↔ ∃ k, atP s t k := by
  constructor
  · intro h
    by_cases hx : ∃ j, j ≤ s.length ∧ Lib.occAt s t j = true
    · obtain ⟨j, hj, ho⟩ := hx
      exact ⟨j, (atP_occ s t j hj).2 ho⟩
    · have := Lib.index_none (s := s) (sub := t) fun j hj => by
        cases ho : Lib.occAt s t j with
        | false => rfl
        | true => exact absurd ⟨j, hj, ho⟩ hx
      omega
  · rintro ⟨k, hk⟩
    have h0 := hk.1
    have hkn : ((k.toNat : Nat) : Int) = k := by omega
    have hkl : k.toNat ≤ s.length := by have := hk.2.1; omega
    rw [← hkn] at hk
    have ho := (atP_occ s t _ hkl).1 hk
    obtain ⟨i, hi, hmin⟩ := least (fun i => i ≤ s.length ∧ Lib.occAt s t i = true) ⟨_, hkl, ho⟩
    have := Lib.index_first hi.1 hi.2 fun j hj => by
      cases ho : Lib.occAt s t j with
      | false => rfl
      | true => have := hmin j ⟨by omega, ho⟩; omega
    omega

theorem cb_range : ∀ (a b : List UInt8), Lib.compareBytes a b = -1 ∨ Lib.compareBytes a b = 0 ∨ Lib.compareBytes a b = 1
  | [], [] => by simp [Lib.compareBytes]
  | [], _ :: _ => by simp [Lib.compareBytes]
  | _ :: _, [] => by simp [Lib.compareBytes]
  | x :: a, y :: b => by
    have := cb_range a b
    simp only [Lib.compareBytes]
    split
    · simp
    · split
      · simp
      · exact this
theorem cmpI_range (a b : Int) : cmpI a b = -1 ∨ cmpI a b = 0 ∨ cmpI a b = 1 := by
  unfold cmpI; split
  · simp
  · split <;> simp
theorem cmpV_range (a b : Val) : cmpV a b = -1 ∨ cmpV a b = 0 ∨ cmpV a b = 1 := by
  have h1 := cmpI_range a.kind b.kind
  have h2 := cmpI_range a.n b.n
  have h3 := cb_range a.s b.s
  simp only [cmpV, orI]
  split
  · split
    · split
      · simp
      · exact h3
    · exact h2
  · exact h1

def alikeP (a b : Val) : Prop := a.kind = b.kind ∧ (a.kind = 3 ∨ a.kind = 4 ∨ a.kind = 7)
open Classical in
def testP (s : List UInt8) (a b : Val) : Prop :=
  if s = [61] then cmpV a b = 0 else if s = [33, 61] then cmpV a b ≠ 0 else if s = [60] then cmpV a b < 0 else if s = [60, 61] then cmpV a b ≤ 0 else if s = [62] then 0 < cmpV a b else if s = [62, 61] then 0 ≤ cmpV a b
  else if s = [98, 101, 103, 105, 110, 115] then alikeP a b ∧ atP a.s b.s 0 else if s = [101, 110, 100, 115] then alikeP a b ∧ atP a.s b.s ((a.s.length : Int) - b.s.length)
  else if s = [104, 97, 115] then alikeP a b ∧ ∃ k, atP a.s b.s k else b.kind = 1 ∧ a.kind = b.n

noncomputable def testB (s : List UInt8) (l : List Val) : Bool := dP (rightI s l true = 0 ∧ ∃ a b, l = [a, b] ∧ testP s a b)

theorem right_two {s : List UInt8} {l : List Val} (h : rightI s l true = 0) : s ∈ preds ∧ ∃ a b, l = [a, b] := by
  unfold rightI at h
  split at h
  · simp at h
  · rename_i hn
    simp only [not_or, Bool.not_eq_false, ne_eq, Decidable.not_not] at hn
    have hp : s ∈ preds := by have := hn.2.1; unfold knownP at this; rwa [dP_t] at this
    have h2 : knownI s = 2 := by unfold knownI; rw [if_pos (.inl hp)]
    have hl : l.length = 2 := by have := hn.2.2; omega
    match l, hl with
    | [a, b], _ => exact ⟨hp, a, b, rfl⟩

theorem testB_f {s : List UInt8} {l : List Val} (h : rightI s l true ≠ 0) : false = testB s l := dP_F fun e => h e.1
theorem testB_i {s : List UInt8} {a b : Val} {c : Bool} (h : rightI s [a, b] true = 0) (hc : c = true ↔ testP s a b) : c = testB s [a, b] := dP_eq (hc.trans ⟨fun e => ⟨h, a, b, rfl, e⟩, fun ⟨_, a', b', e, h⟩ => by simp at e; obtain ⟨rfl, rfl⟩ := e; exact h⟩)

set_option maxHeartbeats 4000000 in
theorem test_pc [GlobF Tryd.prog] (hg : MaxLenOK) (s : List UInt8) (l : List Val) (hl : l.length < 4611686018427387904) (hs : ∀ v, v ∈ l → v.s.length < 4294967281) :
    PC Tryd.prog 19 [str s, .sl none 3 (l.map vC)] (.tu [.sc (.bool (testB s l)), .sc (.int .i64 (rightI s l true))]) := by
  by_cases hr : rightI s l true = 0
  · obtain ⟨hp, a, b, rfl⟩ := right_two hr
    have ha := hs a (by simp)
    have hb := hs b (by simp)
    refine PC.of_body Tryd.func19 Tryd.ntmps19 rfl rfl rfl ?_
    repeat' first
      | (apply p1 (hd := rfl); case hop => first | (apply D_move; rfl) | (apply D_assign; rfl) | (apply D_pc (right_pc s [a, b] true hl (fun v hv => by have := hs v hv; omega)); rfl; exact .same rfl (.same rfl (.same rfl .nil))) | (apply D_pc (compare_pc a b); rfl; exact .same rfl (.same rfl .nil)) | (apply D_pc (has_pc a); rfl; exact .same rfl .nil) | (apply D_pc (hasPrefix_pc a.s b.s); rfl; exact .same rfl (.same rfl .nil)) | (apply D_pc (hasSuffix_pc a.s b.s (by omega)); rfl; exact .same rfl (.same rfl .nil)) | (apply D_pc (index_pc hg a.s b.s ha); rfl; exact .same rfl (.same rfl .nil)) | (apply D_load1; rfl) | (apply D_fld; rfl) | (apply D_pickT; rfl; rfl) | (apply D_pickF; rfl; rfl) | (apply D_int; rfl; rfl; rfl) | (apply D_str; rfl; rfl; rfl) | (apply D_loadW; rfl; rfl) | (apply D_loadA; rfl; rfl) | (apply D_idxAn; rfl; rfl; (first | omega | (simp; done))) | (apply D_idxA; rfl; rfl; omega; (first | omega | (simp; done) | (simp; omega))) | (apply D_idxA0; rfl; rfl; omega; (first | omega | (simp; done) | (simp; omega))) | exact D_fldB rfl | (apply D_ixRn; rfl; rfl; (first | omega | (simp; done))) | (apply D_ixR; rfl; rfl; all_goals first | omega | ((repeat rw [w64 _ (by omega) (by omega)]); omega) | decide))
      | refine W_seq ?_
      | refine W_region ?_
      | (refine idC ?_; first | refine c1 rfl ?_ | refine c0 rfl ?_ | refine cs rfl (fun _ => ?_) (fun _ => ?_))
      | refine WL_nil ?_
      | (refine idG ?_; first | refine g0t rfl rfl rfl ?_ | refine g0f rfl rfl rfl ?_ | refine g0u rfl rfl rfl ?_ | refine gr rfl rfl ?_ | refine gs rfl rfl (fun _ => ?_) (fun _ => ?_) | refine grn rfl rfl ?_)
      | refine tn ?_
      | refine tr ?_
      | refine br ?_
      | refine bn ?_
      | refine te ?_
      | (refine idB ?_; first | refine bh rfl ?_ | refine bm rfl ?_)
      | refine W_skip ?_
      | refine W_block ?_
      | refine W_exit ?_
      | refine W_ret ?_
      | refine W_label ?_
      | refine W_scope ?_
      | refine sn ?_
      | refine sr ?_
      | refine se ?_
      | (refine idR ?_; first | refine ret2 rfl rfl rfl rfl ?_ ?_ | refine rL2 rfl (by first | exact trivial | exact ⟨rfl, trivial⟩) (by first | exact ResO.tmp rfl | exact ResO.cellBA rfl rfl rfl | exact ResO.cellB1 rfl rfl rfl | exact ResO.cellEA rfl rfl | exact ResO.cellE1 rfl) (by first | exact ResO.tmp rfl | exact ResO.cellBA rfl rfl rfl | exact ResO.cellB1 rfl rfl rfl | exact ResO.cellEA rfl rfl | exact ResO.cellE1 rfl) ?_ ?_)
      | (refine idLd ?_; first | refine p1L (D_loadB1 rfl rfl rfl) rfl ?_ | refine p1L (D_loadBA rfl rfl rfl) rfl ?_ | refine p1L (D_loadB1 rfl (by (repeat first | assumption | exact get_last | (refine get_last2 ?_; focus (simp; done)) | apply get_set | apply get_app | (apply get_ne; focus omega) | (apply get_ne; focus (simp only [List.length_set, List.length_append, List.length_cons, List.length_nil]; omega))); done) (by rfl)) rfl ?_ | refine p1L (D_loadBA rfl (by (repeat first | assumption | exact get_last | (refine get_last2 ?_; focus (simp; done)) | apply get_set | apply get_app | (apply get_ne; focus omega) | (apply get_ne; focus (simp only [List.length_set, List.length_append, List.length_cons, List.length_nil]; omega))); done) (by rfl)) rfl ?_)
      | (refine idA ?_; first | refine m_alloc rfl ?_)
      | (refine idS ?_; first | refine pS (S_store rfl rfl rfl rfl rfl rfl rfl) ?_ | refine pS (S_store rfl rfl rfl (by (repeat first | assumption | exact get_last | (refine get_last2 ?_; focus (simp; done)) | apply get_set | apply get_app | (apply get_ne; focus omega) | (apply get_ne; focus (simp only [List.length_set, List.length_append, List.length_cons, List.length_nil]; omega))); done) (by rfl) (by rfl) (by rfl)) ?_)
      | refine Le.bool ?_
      | refine Le.int ?_
      | refine Le.str ?_
      | (refine idW ?_; first | refine W_draw0 rfl ?_ | refine W_draw1 rfl ?_ | refine W_draw2 rfl ?_ | refine W_draw3 rfl ?_)
      | (apply d1 (hd := rfl); case hop => first | (apply D_move; rfl) | (apply D_assign; rfl) | (apply D_pc (right_pc s [a, b] true hl (fun v hv => by have := hs v hv; omega)); rfl; exact .same rfl (.same rfl (.same rfl .nil))) | (apply D_pc (compare_pc a b); rfl; exact .same rfl (.same rfl .nil)) | (apply D_pc (has_pc a); rfl; exact .same rfl .nil) | (apply D_pc (hasPrefix_pc a.s b.s); rfl; exact .same rfl (.same rfl .nil)) | (apply D_pc (hasSuffix_pc a.s b.s (by omega)); rfl; exact .same rfl (.same rfl .nil)) | (apply D_pc (index_pc hg a.s b.s ha); rfl; exact .same rfl (.same rfl .nil)) | (apply D_load1; rfl) | (apply D_fld; rfl) | (apply D_pickT; rfl; rfl) | (apply D_pickF; rfl; rfl) | (apply D_int; rfl; rfl; rfl) | (apply D_str; rfl; rfl; rfl) | (apply D_loadW; rfl; rfl) | (apply D_loadA; rfl; rfl) | (apply D_idxAn; rfl; rfl; (first | omega | (simp; done))) | (apply D_idxA; rfl; rfl; omega; (first | omega | (simp; done) | (simp; omega))) | (apply D_idxA0; rfl; rfl; omega; (first | omega | (simp; done) | (simp; omega))) | exact D_fldB rfl | (apply D_ixRn; rfl; rfl; (first | omega | (simp; done))) | (apply D_ixR; rfl; rfl; all_goals first | omega | ((repeat rw [w64 _ (by omega) (by omega)]); omega) | decide))
      | (refine idDg ?_; first | refine dg0t rfl rfl rfl ?_ | refine dg0f rfl rfl rfl ?_ | refine dg0u rfl rfl rfl ?_ | refine dgr rfl rfl ?_ | refine dgs rfl rfl (fun _ => ?_) (fun _ => ?_))
      | (refine idDn ?_; first | refine dL _ (fun hp' hs => D_loadB1 rfl (hs.trans rfl) rfl) rfl ?_ | refine dL _ (fun hp' hs => D_loadBA rfl (hs.trans rfl) rfl) rfl ?_ | refine dS (S_store rfl rfl rfl rfl rfl rfl rfl) rfl ?_ | refine dV (S_alloc 0 rfl) rfl rfl ?_ | refine dV (S_alloc 1 rfl) rfl rfl ?_ | refine dV (S_alloc 2 rfl) rfl rfl ?_ | refine dV (S_alloc 3 rfl) rfl rfl ?_ | refine dV (S_alloc 4 rfl) rfl rfl ?_ | refine dV (S_alloc 5 rfl) rfl rfl ?_ | refine dV (S_alloc 6 rfl) rfl rfl ?_ | refine dV (S_alloc 7 rfl) rfl rfl ?_)
      | refine WD_nil (by first | decide +kernel | kernel_rfl | rfl) ?_
    all_goals first
      | exact hr.symm
      | exact absurd hr (by assumption)
      | (refine testB_i hr ?_
         simp only [testP, alikeP, iEq_t, iLt_t, iLe_t, bNot_t, iEq_f, dP_t, index_has, List.getElem_cons_zero, List.getElem_cons_succ, Int.toNat_zero, Int.toNat_one] at *
         simp_all <;> omega)
  · refine PC.of_body Tryd.func19 Tryd.ntmps19 rfl rfl rfl ?_
    repeat' first
      | (apply p1 (hd := rfl); case hop => first | (apply D_move; rfl) | (apply D_assign; rfl) | (apply D_pc (right_pc s l true hl (fun v hv => by have := hs v hv; omega)); rfl; exact .same rfl (.same rfl (.same rfl .nil))) | (apply D_load1; rfl) | (apply D_fld; rfl) | (apply D_pickT; rfl; rfl) | (apply D_pickF; rfl; rfl) | (apply D_int; rfl; rfl; rfl) | (apply D_str; rfl; rfl; rfl) | (apply D_loadW; rfl; rfl) | (apply D_loadA; rfl; rfl) | (apply D_idxAn; rfl; rfl; (first | omega | (simp; done))) | (apply D_idxA; rfl; rfl; omega; (first | omega | (simp; done) | (simp; omega))) | (apply D_idxA0; rfl; rfl; omega; (first | omega | (simp; done) | (simp; omega))) | exact D_fldB rfl | (apply D_ixRn; rfl; rfl; (first | omega | (simp; done))) | (apply D_ixR; rfl; rfl; all_goals first | omega | ((repeat rw [w64 _ (by omega) (by omega)]); omega) | decide))
      | refine W_seq ?_
      | refine W_region ?_
      | (refine idC ?_; first | refine c1 rfl ?_ | refine c0 rfl ?_ | refine cs rfl (fun _ => ?_) (fun _ => ?_))
      | refine WL_nil ?_
      | (refine idG ?_; first | refine g0t rfl rfl rfl ?_ | refine g0f rfl rfl rfl ?_ | refine g0u rfl rfl rfl ?_ | refine gr rfl rfl ?_ | refine gs rfl rfl (fun _ => ?_) (fun _ => ?_) | refine grn rfl rfl ?_)
      | refine tn ?_
      | refine tr ?_
      | refine br ?_
      | refine bn ?_
      | refine te ?_
      | (refine idB ?_; first | refine bh rfl ?_ | refine bm rfl ?_)
      | refine W_skip ?_
      | refine W_block ?_
      | refine W_exit ?_
      | refine W_ret ?_
      | refine W_label ?_
      | refine W_scope ?_
      | refine sn ?_
      | refine sr ?_
      | refine se ?_
      | (refine idR ?_; first | refine ret2 rfl rfl rfl rfl ?_ ?_ | refine rL2 rfl (by first | exact trivial | exact ⟨rfl, trivial⟩) (by first | exact ResO.tmp rfl | exact ResO.cellBA rfl rfl rfl | exact ResO.cellB1 rfl rfl rfl | exact ResO.cellEA rfl rfl | exact ResO.cellE1 rfl) (by first | exact ResO.tmp rfl | exact ResO.cellBA rfl rfl rfl | exact ResO.cellB1 rfl rfl rfl | exact ResO.cellEA rfl rfl | exact ResO.cellE1 rfl) ?_ ?_)
      | (refine idLd ?_; first | refine p1L (D_loadB1 rfl rfl rfl) rfl ?_ | refine p1L (D_loadBA rfl rfl rfl) rfl ?_ | refine p1L (D_loadB1 rfl (by (repeat first | assumption | exact get_last | (refine get_last2 ?_; focus (simp; done)) | apply get_set | apply get_app | (apply get_ne; focus omega) | (apply get_ne; focus (simp only [List.length_set, List.length_append, List.length_cons, List.length_nil]; omega))); done) (by rfl)) rfl ?_ | refine p1L (D_loadBA rfl (by (repeat first | assumption | exact get_last | (refine get_last2 ?_; focus (simp; done)) | apply get_set | apply get_app | (apply get_ne; focus omega) | (apply get_ne; focus (simp only [List.length_set, List.length_append, List.length_cons, List.length_nil]; omega))); done) (by rfl)) rfl ?_)
      | (refine idA ?_; first | refine m_alloc rfl ?_)
      | (refine idS ?_; first | refine pS (S_store rfl rfl rfl rfl rfl rfl rfl) ?_ | refine pS (S_store rfl rfl rfl (by (repeat first | assumption | exact get_last | (refine get_last2 ?_; focus (simp; done)) | apply get_set | apply get_app | (apply get_ne; focus omega) | (apply get_ne; focus (simp only [List.length_set, List.length_append, List.length_cons, List.length_nil]; omega))); done) (by rfl) (by rfl) (by rfl)) ?_)
      | refine Le.bool ?_
      | refine Le.int ?_
      | refine Le.str ?_
      | (refine idW ?_; first | refine W_draw0 rfl ?_ | refine W_draw1 rfl ?_ | refine W_draw2 rfl ?_ | refine W_draw3 rfl ?_)
      | (apply d1 (hd := rfl); case hop => first | (apply D_move; rfl) | (apply D_assign; rfl) | (apply D_pc (right_pc s l true hl (fun v hv => by have := hs v hv; omega)); rfl; exact .same rfl (.same rfl (.same rfl .nil))) | (apply D_load1; rfl) | (apply D_fld; rfl) | (apply D_pickT; rfl; rfl) | (apply D_pickF; rfl; rfl) | (apply D_int; rfl; rfl; rfl) | (apply D_str; rfl; rfl; rfl) | (apply D_loadW; rfl; rfl) | (apply D_loadA; rfl; rfl) | (apply D_idxAn; rfl; rfl; (first | omega | (simp; done))) | (apply D_idxA; rfl; rfl; omega; (first | omega | (simp; done) | (simp; omega))) | (apply D_idxA0; rfl; rfl; omega; (first | omega | (simp; done) | (simp; omega))) | exact D_fldB rfl | (apply D_ixRn; rfl; rfl; (first | omega | (simp; done))) | (apply D_ixR; rfl; rfl; all_goals first | omega | ((repeat rw [w64 _ (by omega) (by omega)]); omega) | decide))
      | (refine idDg ?_; first | refine dg0t rfl rfl rfl ?_ | refine dg0f rfl rfl rfl ?_ | refine dg0u rfl rfl rfl ?_ | refine dgr rfl rfl ?_ | refine dgs rfl rfl (fun _ => ?_) (fun _ => ?_))
      | (refine idDn ?_; first | refine dL _ (fun hp' hs => D_loadB1 rfl (hs.trans rfl) rfl) rfl ?_ | refine dL _ (fun hp' hs => D_loadBA rfl (hs.trans rfl) rfl) rfl ?_ | refine dS (S_store rfl rfl rfl rfl rfl rfl rfl) rfl ?_ | refine dV (S_alloc 0 rfl) rfl rfl ?_ | refine dV (S_alloc 1 rfl) rfl rfl ?_ | refine dV (S_alloc 2 rfl) rfl rfl ?_ | refine dV (S_alloc 3 rfl) rfl rfl ?_ | refine dV (S_alloc 4 rfl) rfl rfl ?_ | refine dV (S_alloc 5 rfl) rfl rfl ?_ | refine dV (S_alloc 6 rfl) rfl rfl ?_ | refine dV (S_alloc 7 rfl) rfl rfl ?_)
      | refine WD_nil (by first | decide +kernel | kernel_rfl | rfl) ?_
    all_goals first
      | rfl
      | exact testB_f hr
      | exact absurd (by assumption) hr
end Go.Proofs
