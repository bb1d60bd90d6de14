
/- Contracts of the sets of instants, for their texts. -/
import Derived.Test.YtfnmipagllofiaaDoorUEq
import Derived.Test.YtfnmipagllofiaaDoorPSp2
import Derived.Test.YtfnmipagllofiaaDoorOps17
import Derived.Test.YtfnmipagllofiaaDoorOps22
import Derived.Test.YtfnmipagllofiaaDoorOps19
namespace Go.Proofs
open Go.AL Go.Sort
attribute [local irreducible] Go.AL.W Go.AL.WL Go.AL.WD Go.AL.POp Go.AL.PPOp Go.AL.POpS Go.AL.PC Go.AL.AC Go.AL.YW Go.AL.Ret Go.AL.Le Go.AL.thn Go.AL.inBlk Go.AL.scp
open Classical in
noncomputable def dP (p : Prop) : Bool := decide p
theorem dP_t {p : Prop} : (dP p = true) = p := by unfold dP; simp
theorem dP_f {p : Prop} : (dP p = false) = ¬ p := by unfold dP; simp
instance (p : Prop) : BP (dP p) p (¬ p) := ⟨fun h => by rwa [dP_t] at h, fun h => by rwa [dP_f] at h⟩
theorem dP_eq {p : Prop} {b : Bool} (h : b = true ↔ p) : b = dP p := by
  cases b
  · exact (dP_f.mpr (fun hp => by simpa using h.2 hp)).symm
  · exact (dP_t.mpr (h.1 rfl)).symm
def cmpI (a b : Int) : Int := if a < b then -1 else if b < a then 1 else 0
set_option maxHeartbeats 400000 in
theorem isNaN64_pc [GlobF Tryd.prog] (n : Int) : PC Tryd.prog 74 [.sc (.int .i64 n)] (.sc (.bool false)) := by
  refine PC.of_body Tryd.func74 Tryd.ntmps74 rfl rfl rfl ?_
  repeat' first
    | (apply p1 (hd := rfl); case hop => first | (apply D_move; rfl) | (apply D_assign; rfl) | (apply D_int; rfl; rfl; rfl))
    | refine W_seq ?_
    | refine W_region ?_
    | refine WL_nil ?_
    | refine tn ?_
    | refine tr ?_
    | refine br ?_
    | refine bn ?_
    | refine te ?_
    | (refine idB ?_; first | refine bh rfl ?_ | refine bm rfl ?_)
    | refine W_skip ?_
    | refine W_block ?_
    | refine W_exit ?_
    | refine W_ret ?_
    | refine W_label ?_
    | refine W_scope ?_
    | refine sn ?_
    | refine sr ?_
    | refine se ?_
    | (refine idR ?_; first | refine ret1 rfl rfl rfl ?_ | refine rL1 rfl (by first | exact trivial | exact ⟨rfl, trivial⟩) (by first | exact ResO.tmp rfl | exact ResO.cellBA rfl rfl rfl | exact ResO.cellB1 rfl rfl rfl | exact ResO.cellEA rfl rfl | exact ResO.cellE1 rfl) ?_)
    | refine Le.bool ?_
    | refine Le.int ?_
    | refine Le.str ?_
  simp [bNot, iEq]
set_option maxHeartbeats 400000 in
theorem cmpInt64_pc [GlobF Tryd.prog] (a b : Int) : PC Tryd.prog 53 [.sc (.int .i64 a), .sc (.int .i64 b)] (.sc (.int .i64 (cmpI a b))) := by
  refine PC.of_body Tryd.func53 Tryd.ntmps53 rfl rfl rfl ?_
  repeat' first
    | (apply p1 (hd := rfl); case hop => first | (apply D_move; rfl) | (apply D_assign; rfl) | (apply D_pc (isNaN64_pc a); rfl; exact .same rfl .nil) | (apply D_pc (isNaN64_pc b); rfl; exact .same rfl .nil) | (apply D_int; rfl; rfl; rfl))
    | refine W_seq ?_
    | refine W_region ?_
    | (refine idC ?_; first | refine c1 rfl ?_ | refine c0 rfl ?_ | refine cs rfl (fun _ => ?_) (fun _ => ?_))
    | refine WL_nil ?_
    | refine tn ?_
    | refine tr ?_
    | refine br ?_
    | refine bn ?_
    | refine te ?_
    | (refine idB ?_; first | refine bh rfl ?_ | refine bm rfl ?_)
    | refine W_skip ?_
    | refine W_block ?_
    | refine W_exit ?_
    | refine W_ret ?_
    | refine W_label ?_
    | refine W_scope ?_
    | refine sn ?_
    | refine sr ?_
    | refine se ?_
    | (refine idR ?_; first | refine ret1 rfl rfl rfl ?_ | refine rL1 rfl (by first | exact trivial | exact ⟨rfl, trivial⟩) (by first | exact ResO.tmp rfl | exact ResO.cellBA rfl rfl rfl | exact ResO.cellB1 rfl rfl rfl | exact ResO.cellEA rfl rfl | exact ResO.cellE1 rfl) ?_)
    | refine Le.bool ?_
    | refine Le.int ?_
    | refine Le.str ?_
  all_goals (unfold cmpI; split <;> first | rfl | omega | (split <;> first | rfl | omega))
theorem renN {rg rg' : List (Nat × AV)} {h : List AObj} (hr : RenL [] rg rg') : Ren ⟨[], 0⟩ [] rg h rg' [] := ⟨List.nodup_nil, fun r hr => absurd hr (Nat.not_lt_zero r), fun r hr => (by cases hr), hr, trivial⟩
abbrev sC (s : Sp) : List AV := [.sc (.int .i64 s.f), .sc (.int .i64 s.t)]
abbrev eS (s : Sp) : AV := .ag (sC s)
theorem sC_row {l : List Sp} : ∀ e, e ∈ l.map sC → e.length = 2 := fun e he => by obtain ⟨a, _, rfl⟩ := List.mem_map.1 he; rfl
abbrev sl2 (l : List Sp) : AV := .sl none 2 (l.map sC)
theorem dP_T {p : Prop} (h : p) : true = dP p := (dP_t.mpr h).symm
theorem dP_F {p : Prop} (h : ¬ p) : false = dP p := (dP_f.mpr h).symm
theorem setN {l : List Sp} (i : Nat) (hi : i < l.length) (h : l[i].t ≤ l[i].f ∨ ∃ h0 : 0 < i, l[i].f ≤ (l[i - 1]'(by omega)).t) : ¬ SetP l := fun hs => by
  have := (setI_iff l).2 hs i hi
  rcases h with h | ⟨h0, h⟩
  · omega
  · have := this.2 h0; omega
set_option maxHeartbeats 4000000 in
theorem set_pc [GlobF Tryd.prog] (l : List Sp) (hl : l.length < 4611686018427387904) : PC Tryd.prog 11 [sl2 l] (.sc (.bool (dP (SetP l)))) := by
  refine PC.of_body Tryd.func11 Tryd.ntmps11 rfl rfl rfl ?_
  repeat' first
    | (apply p1 (hd := rfl); case hop => first | (apply D_move; rfl) | (apply D_assign; rfl) | (apply D_load1; rfl) | (apply D_fld; rfl) | (apply D_pickT; rfl; rfl) | (apply D_pickF; rfl; rfl) | (apply D_int; rfl; rfl; rfl) | (apply D_lenM; rfl) | (apply D_len_sl; rfl) | (apply D_loadW; rfl; rfl) | (apply D_loadA; rfl; rfl) | (apply D_len_nil; rfl) | (apply D_idxAn; rfl; rfl; (first | omega | (simp; done))) | (apply D_idxA; rfl; rfl; omega; (first | omega | (simp; done) | (simp; omega))) | (apply D_idxA0; rfl; rfl; omega; (first | omega | (simp; done) | (simp; omega))) | exact D_fldB rfl | (apply D_lenR; rfl) | (apply D_ixRn; rfl; rfl; (first | omega | (simp; done))) | (apply D_ixR; rfl; rfl; all_goals first | omega | ((repeat rw [w64 _ (by omega) (by omega)]); omega) | decide))
    | refine W_seq ?_
    | refine W_region ?_
    | (refine idC ?_; first | refine c1 rfl ?_ | refine c0 rfl ?_ | refine cs rfl (fun _ => ?_) (fun _ => ?_))
    | refine WL_nil ?_
    | (refine idG ?_; first | refine g0t rfl rfl rfl ?_ | refine g0f rfl rfl rfl ?_ | refine g0u rfl rfl rfl ?_ | refine gr rfl rfl ?_ | refine gs rfl rfl (fun _ => ?_) (fun _ => ?_) | refine grn rfl rfl ?_)
    | refine tn ?_
    | refine tr ?_
    | refine br ?_
    | refine bn ?_
    | refine te ?_
    | (refine idB ?_; first | refine bh rfl ?_ | refine bm rfl ?_)
    | refine W_skip ?_
    | refine W_block ?_
    | refine W_exit ?_
    | refine W_ret ?_
    | refine W_label ?_
    | refine W_scope ?_
    | refine sn ?_
    | refine sr ?_
    | refine se ?_
    | (refine idR ?_; first | refine ret1 rfl rfl rfl ?_ | refine rL1 rfl (by first | exact trivial | exact ⟨rfl, trivial⟩) (by first | exact ResO.tmp rfl | exact ResO.cellBA rfl rfl rfl | exact ResO.cellB1 rfl rfl rfl | exact ResO.cellEA rfl rfl | exact ResO.cellE1 rfl) ?_)
    | (refine idLd ?_; first | refine p1L (D_loadB1 rfl rfl rfl) rfl ?_ | refine p1L (D_loadBA rfl rfl rfl) rfl ?_ | refine p1L (D_loadB1 rfl (by (repeat first | assumption | exact get_last | (refine get_last2 ?_; focus (simp; done)) | apply get_set | apply get_app | (apply get_ne; focus omega) | (apply get_ne; focus (simp only [List.length_set, List.length_append, List.length_cons, List.length_nil]; omega))); done) (by rfl)) rfl ?_ | refine p1L (D_loadBA rfl (by (repeat first | assumption | exact get_last | (refine get_last2 ?_; focus (simp; done)) | apply get_set | apply get_app | (apply get_ne; focus omega) | (apply get_ne; focus (simp only [List.length_set, List.length_append, List.length_cons, List.length_nil]; omega))); done) (by rfl)) rfl ?_)
    | (refine idA ?_; first | refine m_var rfl rfl rfl rfl rfl rfl rfl ?_ | refine m_alloc rfl ?_)
    | (refine idS ?_; first | refine pS (S_store rfl rfl rfl rfl rfl rfl rfl) ?_ | refine pS (S_store rfl rfl rfl (by (repeat first | assumption | exact get_last | (refine get_last2 ?_; focus (simp; done)) | apply get_set | apply get_app | (apply get_ne; focus omega) | (apply get_ne; focus (simp only [List.length_set, List.length_append, List.length_cons, List.length_nil]; omega))); done) (by rfl) (by rfl) (by rfl)) ?_)
    | refine Le.bool ?_
    | refine Le.int ?_
    | refine Le.str ?_
    | (refine idW ?_; first | refine W_draw0 rfl ?_ | refine W_draw1 rfl ?_ | refine W_draw2 rfl ?_ | refine W_draw3 rfl ?_)
    | (apply d1 (hd := rfl); case hop => first | (apply D_move; rfl) | (apply D_assign; rfl) | (apply D_load1; rfl) | (apply D_fld; rfl) | (apply D_pickT; rfl; rfl) | (apply D_pickF; rfl; rfl) | (apply D_int; rfl; rfl; rfl) | (apply D_lenM; rfl) | (apply D_len_sl; rfl) | (apply D_loadW; rfl; rfl) | (apply D_loadA; rfl; rfl) | (apply D_len_nil; rfl) | (apply D_idxAn; rfl; rfl; (first | omega | (simp; done))) | (apply D_idxA; rfl; rfl; omega; (first | omega | (simp; done) | (simp; omega))) | (apply D_idxA0; rfl; rfl; omega; (first | omega | (simp; done) | (simp; omega))) | exact D_fldB rfl | (apply D_lenR; rfl) | (apply D_ixRn; rfl; rfl; (first | omega | (simp; done))) | (apply D_ixR; rfl; rfl; all_goals first | omega | ((repeat rw [w64 _ (by omega) (by omega)]); omega) | decide))
    | (refine idDg ?_; first | refine dg0t rfl rfl rfl ?_ | refine dg0f rfl rfl rfl ?_ | refine dg0u rfl rfl rfl ?_ | refine dgr rfl rfl ?_ | refine dgs rfl rfl (fun _ => ?_) (fun _ => ?_))
    | (refine idDn ?_; first | refine dL _ (fun hp' hs => D_loadB1 rfl (hs.trans rfl) rfl) rfl ?_ | refine dL _ (fun hp' hs => D_loadBA rfl (hs.trans rfl) rfl) rfl ?_ | refine dS (S_store rfl rfl rfl rfl rfl rfl rfl) rfl ?_ | refine dV (S_alloc 0 rfl) rfl rfl ?_ | refine dV (S_alloc 1 rfl) rfl rfl ?_ | refine dV (S_alloc 2 rfl) rfl rfl ?_ | refine dV (S_alloc 3 rfl) rfl rfl ?_ | refine dV (S_alloc 4 rfl) rfl rfl ?_ | refine dV (S_alloc 5 rfl) rfl rfl ?_ | refine dV (S_alloc 6 rfl) rfl rfl ?_ | refine dV (S_alloc 7 rfl) rfl rfl ?_)
    | refine WD_nil (by first | decide +kernel | kernel_rfl | rfl) ?_
  refine W_loopR (X := Nat) (fun i => [(0, sl2 l), (5, sl2 l), (6, .sc (.int .i64 l.length)), (7, .sc (.int .i64 (i : Int)))]) (fun _ => [])
    (fun i => i ≤ l.length ∧ ∀ (j : Nat) (h : j < l.length), j < i → l[j].f < l[j].t ∧ ∀ h0 : 0 < j, (l[j - 1]'(by omega)).t < l[j].f) (fun i => l.length - i) 0 ⟨by omega, fun j h h' => by omega⟩ ⟨rfl, rfl, rfl, rfl, trivial⟩ rfl ?_
  rintro i ⟨hi, hz⟩
  have hnext : ∀ (h : i < l.length), l[i].f < l[i].t → (∀ h0 : 0 < i, (l[i - 1]'(by omega)).t < l[i].f) → ∀ (j : Nat) (h : j < l.length), j < i + 1 → l[j].f < l[j].t ∧ ∀ h0 : 0 < j, (l[j - 1]'(by omega)).t < l[j].f := fun h k1 k2 j hj hji => by
    by_cases e : j = i
    · subst e; exact ⟨k1, k2⟩
    · exact hz j hj (by omega)
  have hend : l.length ≤ i → true = dP (SetP l) := fun h => dP_T ((setI_iff l).1 fun j hj => hz j hj (by omega))
  by_cases h0 : i = 0
  · subst h0
    repeat' first
      | (apply p1 (hd := rfl); case hop => first | (apply D_move; rfl) | (apply D_assign; rfl) | (apply D_load1; rfl) | (apply D_fld; rfl) | (apply D_pickT; rfl; rfl) | (apply D_pickF; rfl; rfl) | (apply D_int; rfl; rfl; rfl) | (apply D_lenM; rfl) | (apply D_len_sl; rfl) | (apply D_loadW; rfl; rfl) | (apply D_loadA; rfl; rfl) | (apply D_len_nil; rfl) | (apply D_idxAn; rfl; rfl; (first | omega | (simp; done))) | (apply D_idxA; rfl; rfl; omega; (first | omega | (simp; done) | (simp; omega))) | (apply D_idxA0; rfl; rfl; omega; (first | omega | (simp; done) | (simp; omega))) | exact D_fldB rfl | (apply D_lenR; rfl) | (apply D_ixRn; rfl; rfl; (first | omega | (simp; done))) | (apply D_ixR; rfl; rfl; all_goals first | omega | ((repeat rw [w64 _ (by omega) (by omega)]); omega) | decide))
      | refine W_seq ?_
      | refine W_region ?_
      | (refine idC ?_; first | refine c1 rfl ?_ | refine c0 rfl ?_ | refine cs rfl (fun _ => ?_) (fun _ => ?_))
      | refine WL_nil ?_
      | (refine idG ?_; first | refine g0t rfl rfl rfl ?_ | refine g0f rfl rfl rfl ?_ | refine g0u rfl rfl rfl ?_ | refine gr rfl rfl ?_ | refine gs rfl rfl (fun _ => ?_) (fun _ => ?_) | refine grn rfl rfl ?_)
      | refine tn ?_
      | refine tr ?_
      | refine br ?_
      | refine bn ?_
      | refine te ?_
      | (refine idB ?_; first | refine bh rfl ?_ | refine bm rfl ?_)
      | refine W_skip ?_
      | refine W_block ?_
      | refine W_exit ?_
      | refine W_ret ?_
      | refine W_label ?_
      | refine W_scope ?_
      | refine sn ?_
      | refine sr ?_
      | refine se ?_
      | (refine idR ?_; first | refine ret1 rfl rfl rfl ?_ | refine rL1 rfl (by first | exact trivial | exact ⟨rfl, trivial⟩) (by first | exact ResO.tmp rfl | exact ResO.cellBA rfl rfl rfl | exact ResO.cellB1 rfl rfl rfl | exact ResO.cellEA rfl rfl | exact ResO.cellE1 rfl) ?_)
      | (refine idLd ?_; first | refine p1L (D_loadB1 rfl rfl rfl) rfl ?_ | refine p1L (D_loadBA rfl rfl rfl) rfl ?_ | refine p1L (D_loadB1 rfl (by (repeat first | assumption | exact get_last | (refine get_last2 ?_; focus (simp; done)) | apply get_set | apply get_app | (apply get_ne; focus omega) | (apply get_ne; focus (simp only [List.length_set, List.length_append, List.length_cons, List.length_nil]; omega))); done) (by rfl)) rfl ?_ | refine p1L (D_loadBA rfl (by (repeat first | assumption | exact get_last | (refine get_last2 ?_; focus (simp; done)) | apply get_set | apply get_app | (apply get_ne; focus omega) | (apply get_ne; focus (simp only [List.length_set, List.length_append, List.length_cons, List.length_nil]; omega))); done) (by rfl)) rfl ?_)
      | (refine idA ?_; first | refine m_var rfl rfl rfl rfl rfl rfl rfl ?_ | refine m_alloc rfl ?_)
      | (refine idS ?_; first | refine pS (S_store rfl rfl rfl rfl rfl rfl rfl) ?_ | refine pS (S_store rfl rfl rfl (by (repeat first | assumption | exact get_last | (refine get_last2 ?_; focus (simp; done)) | apply get_set | apply get_app | (apply get_ne; focus omega) | (apply get_ne; focus (simp only [List.length_set, List.length_append, List.length_cons, List.length_nil]; omega))); done) (by rfl) (by rfl) (by rfl)) ?_)
      | refine Le.bool ?_
      | refine Le.int ?_
      | refine Le.str ?_
      | (refine idW ?_; first | refine W_draw0 rfl ?_ | refine W_draw1 rfl ?_ | refine W_draw2 rfl ?_ | refine W_draw3 rfl ?_)
      | (apply d1 (hd := rfl); case hop => first | (apply D_move; rfl) | (apply D_assign; rfl) | (apply D_load1; rfl) | (apply D_fld; rfl) | (apply D_pickT; rfl; rfl) | (apply D_pickF; rfl; rfl) | (apply D_int; rfl; rfl; rfl) | (apply D_lenM; rfl) | (apply D_len_sl; rfl) | (apply D_loadW; rfl; rfl) | (apply D_loadA; rfl; rfl) | (apply D_len_nil; rfl) | (apply D_idxAn; rfl; rfl; (first | omega | (simp; done))) | (apply D_idxA; rfl; rfl; omega; (first | omega | (simp; done) | (simp; omega))) | (apply D_idxA0; rfl; rfl; omega; (first | omega | (simp; done) | (simp; omega))) | exact D_fldB rfl | (apply D_lenR; rfl) | (apply D_ixRn; rfl; rfl; (first | omega | (simp; done))) | (apply D_ixR; rfl; rfl; all_goals first | omega | ((repeat rw [w64 _ (by omega) (by omega)]); omega) | decide))
      | (refine idDg ?_; first | refine dg0t rfl rfl rfl ?_ | refine dg0f rfl rfl rfl ?_ | refine dg0u rfl rfl rfl ?_ | refine dgr rfl rfl ?_ | refine dgs rfl rfl (fun _ => ?_) (fun _ => ?_))
      | (refine idDn ?_; first | refine dL _ (fun hp' hs => D_loadB1 rfl (hs.trans rfl) rfl) rfl ?_ | refine dL _ (fun hp' hs => D_loadBA rfl (hs.trans rfl) rfl) rfl ?_ | refine dS (S_store rfl rfl rfl rfl rfl rfl rfl) rfl ?_ | refine dV (S_alloc 0 rfl) rfl rfl ?_ | refine dV (S_alloc 1 rfl) rfl rfl ?_ | refine dV (S_alloc 2 rfl) rfl rfl ?_ | refine dV (S_alloc 3 rfl) rfl rfl ?_ | refine dV (S_alloc 4 rfl) rfl rfl ?_ | refine dV (S_alloc 5 rfl) rfl rfl ?_ | refine dV (S_alloc 6 rfl) rfl rfl ?_ | refine dV (S_alloc 7 rfl) rfl rfl ?_)
      | refine WD_nil (by first | decide +kernel | kernel_rfl | rfl) ?_
    · rename_i k1 k2
      exact dP_F (setN 0 (by omega) (.inl k2))
    · exfalso; omega
    · exfalso; omega
    · rename_i k1 k2 k3
      exact ⟨rfl, 0 + 1, ⟨by omega, hnext (by omega) k2 (fun h => by omega)⟩, by omega, [], renN ⟨⟨_, rfl, .pur⟩, ⟨_, rfl, .pur⟩, ⟨_, rfl, .pur⟩, ⟨_, rfl, by rw [wsucc 0 (by omega)]; exact .pur⟩, trivial⟩⟩
    · exact hend (by omega)
  · have hsub : IntKind.i64.wrap ((i : Int) - 1) = ((i - 1 : Nat) : Int) := by rw [w64 _ (by omega) (by omega)]; omega
    have hix : (IntKind.i64.wrap ((i : Int) - 1)).toNat = i - 1 := by rw [hsub]; rfl
    repeat' first
      | (apply p1 (hd := rfl); case hop => first | (apply D_move; rfl) | (apply D_assign; rfl) | (apply D_load1; rfl) | (apply D_fld; rfl) | (apply D_pickT; rfl; rfl) | (apply D_pickF; rfl; rfl) | (apply D_int; rfl; rfl; rfl) | (apply D_lenM; rfl) | (apply D_len_sl; rfl) | (apply D_loadW; rfl; rfl) | (apply D_loadA; rfl; rfl) | (apply D_len_nil; rfl) | (apply D_idxAn; rfl; rfl; (first | omega | (simp; done))) | (apply D_idxA; rfl; rfl; omega; (first | omega | (simp; done) | (simp; omega))) | (apply D_idxA0; rfl; rfl; omega; (first | omega | (simp; done) | (simp; omega))) | exact D_fldB rfl | (apply D_lenR; rfl) | (apply D_ixRn; rfl; rfl; (first | omega | (simp; done))) | (apply D_ixR; rfl; rfl; all_goals first | omega | ((repeat rw [w64 _ (by omega) (by omega)]); omega) | decide))
      | refine W_seq ?_
      | refine W_region ?_
      | (refine idC ?_; first | refine c1 rfl ?_ | refine c0 rfl ?_ | refine cs rfl (fun _ => ?_) (fun _ => ?_))
      | refine WL_nil ?_
      | (refine idG ?_; first | refine g0t rfl rfl rfl ?_ | refine g0f rfl rfl rfl ?_ | refine g0u rfl rfl rfl ?_ | refine gr rfl rfl ?_ | refine gs rfl rfl (fun _ => ?_) (fun _ => ?_) | refine grn rfl rfl ?_)
      | refine tn ?_
      | refine tr ?_
      | refine br ?_
      | refine bn ?_
      | refine te ?_
      | (refine idB ?_; first | refine bh rfl ?_ | refine bm rfl ?_)
      | refine W_skip ?_
      | refine W_block ?_
      | refine W_exit ?_
      | refine W_ret ?_
      | refine W_label ?_
      | refine W_scope ?_
      | refine sn ?_
      | refine sr ?_
      | refine se ?_
      | (refine idR ?_; first | refine ret1 rfl rfl rfl ?_ | refine rL1 rfl (by first | exact trivial | exact ⟨rfl, trivial⟩) (by first | exact ResO.tmp rfl | exact ResO.cellBA rfl rfl rfl | exact ResO.cellB1 rfl rfl rfl | exact ResO.cellEA rfl rfl | exact ResO.cellE1 rfl) ?_)
      | (refine idLd ?_; first | refine p1L (D_loadB1 rfl rfl rfl) rfl ?_ | refine p1L (D_loadBA rfl rfl rfl) rfl ?_ | refine p1L (D_loadB1 rfl (by (repeat first | assumption | exact get_last | (refine get_last2 ?_; focus (simp; done)) | apply get_set | apply get_app | (apply get_ne; focus omega) | (apply get_ne; focus (simp only [List.length_set, List.length_append, List.length_cons, List.length_nil]; omega))); done) (by rfl)) rfl ?_ | refine p1L (D_loadBA rfl (by (repeat first | assumption | exact get_last | (refine get_last2 ?_; focus (simp; done)) | apply get_set | apply get_app | (apply get_ne; focus omega) | (apply get_ne; focus (simp only [List.length_set, List.length_append, List.length_cons, List.length_nil]; omega))); done) (by rfl)) rfl ?_)
      | (refine idA ?_; first | refine m_var rfl rfl rfl rfl rfl rfl rfl ?_ | refine m_alloc rfl ?_)
      | (refine idS ?_; first | refine pS (S_store rfl rfl rfl rfl rfl rfl rfl) ?_ | refine pS (S_store rfl rfl rfl (by (repeat first | assumption | exact get_last | (refine get_last2 ?_; focus (simp; done)) | apply get_set | apply get_app | (apply get_ne; focus omega) | (apply get_ne; focus (simp only [List.length_set, List.length_append, List.length_cons, List.length_nil]; omega))); done) (by rfl) (by rfl) (by rfl)) ?_)
      | refine Le.bool ?_
      | refine Le.int ?_
      | refine Le.str ?_
      | (refine idW ?_; first | refine W_draw0 rfl ?_ | refine W_draw1 rfl ?_ | refine W_draw2 rfl ?_ | refine W_draw3 rfl ?_)
      | (apply d1 (hd := rfl); case hop => first | (apply D_move; rfl) | (apply D_assign; rfl) | (apply D_load1; rfl) | (apply D_fld; rfl) | (apply D_pickT; rfl; rfl) | (apply D_pickF; rfl; rfl) | (apply D_int; rfl; rfl; rfl) | (apply D_lenM; rfl) | (apply D_len_sl; rfl) | (apply D_loadW; rfl; rfl) | (apply D_loadA; rfl; rfl) | (apply D_len_nil; rfl) | (apply D_idxAn; rfl; rfl; (first | omega | (simp; done))) | (apply D_idxA; rfl; rfl; omega; (first | omega | (simp; done) | (simp; omega))) | (apply D_idxA0; rfl; rfl; omega; (first | omega | (simp; done) | (simp; omega))) | exact D_fldB rfl | (apply D_lenR; rfl) | (apply D_ixRn; rfl; rfl; (first | omega | (simp; done))) | (apply D_ixR; rfl; rfl; all_goals first | omega | ((repeat rw [w64 _ (by omega) (by omega)]); omega) | decide))
      | (refine idDg ?_; first | refine dg0t rfl rfl rfl ?_ | refine dg0f rfl rfl rfl ?_ | refine dg0u rfl rfl rfl ?_ | refine dgr rfl rfl ?_ | refine dgs rfl rfl (fun _ => ?_) (fun _ => ?_))
      | (refine idDn ?_; first | refine dL _ (fun hp' hs => D_loadB1 rfl (hs.trans rfl) rfl) rfl ?_ | refine dL _ (fun hp' hs => D_loadBA rfl (hs.trans rfl) rfl) rfl ?_ | refine dS (S_store rfl rfl rfl rfl rfl rfl rfl) rfl ?_ | refine dV (S_alloc 0 rfl) rfl rfl ?_ | refine dV (S_alloc 1 rfl) rfl rfl ?_ | refine dV (S_alloc 2 rfl) rfl rfl ?_ | refine dV (S_alloc 3 rfl) rfl rfl ?_ | refine dV (S_alloc 4 rfl) rfl rfl ?_ | refine dV (S_alloc 5 rfl) rfl rfl ?_ | refine dV (S_alloc 6 rfl) rfl rfl ?_ | refine dV (S_alloc 7 rfl) rfl rfl ?_)
      | refine WD_nil (by first | decide +kernel | kernel_rfl | rfl) ?_
    · rename_i k1 k2
      exact dP_F (setN i (by omega) (.inl k2))
    · rename_i k1 k2 k3 k4
      simp only [hix] at k4
      exact dP_F (setN i (by omega) (.inr ⟨by omega, k4⟩))
    · rename_i k1 k2 k3 k4
      simp only [hix] at k4
      exact ⟨rfl, i + 1, ⟨by omega, hnext (by omega) k2 (fun _ => k4)⟩, by omega, [], renN ⟨⟨_, rfl, .pur⟩, ⟨_, rfl, .pur⟩, ⟨_, rfl, .pur⟩, ⟨_, rfl, by rw [wsucc i (by omega)]; exact .pur⟩, trivial⟩⟩
    · exfalso; omega
    · exact hend (by omega)
set_option maxHeartbeats 4000000 in
theorem make1_pc [GlobF Tryd.prog] (s : Sp) : PC Tryd.prog 35 [eS s] (.sc (.bool (dP (s.t ≤ s.f)))) := by
  refine PC.of_body Tryd.func35 Tryd.ntmps35 rfl rfl rfl ?_
  repeat' first
    | (apply p1 (hd := rfl); case hop => first | (apply D_assign; rfl) | (apply D_load1; rfl) | (apply D_fld; rfl) | (apply D_int; rfl; rfl; rfl) | (apply D_loadW; rfl; rfl) | (apply D_loadA; rfl; rfl) | (apply D_box; rfl; rfl) | exact D_fldB rfl)
    | refine W_seq ?_
    | refine W_region ?_
    | refine WL_nil ?_
    | refine tn ?_
    | refine tr ?_
    | refine br ?_
    | refine bn ?_
    | refine te ?_
    | (refine idB ?_; first | refine bh rfl ?_ | refine bm rfl ?_)
    | refine W_skip ?_
    | refine W_block ?_
    | refine W_exit ?_
    | refine W_ret ?_
    | refine W_label ?_
    | refine W_scope ?_
    | refine sn ?_
    | refine sr ?_
    | refine se ?_
    | (refine idR ?_; first | refine ret1 rfl rfl rfl ?_ | refine rL1 rfl (by first | exact trivial | exact ⟨rfl, trivial⟩) (by first | exact ResO.tmp rfl | exact ResO.cellBA rfl rfl rfl | exact ResO.cellB1 rfl rfl rfl | exact ResO.cellEA rfl rfl | exact ResO.cellE1 rfl) ?_)
    | (refine idLd ?_; first | refine p1L (D_loadB1 rfl rfl rfl) rfl ?_ | refine p1L (D_loadBA rfl rfl rfl) rfl ?_ | refine p1L (D_loadB1 rfl (by (repeat first | assumption | exact get_last | (refine get_last2 ?_; focus (simp; done)) | apply get_set | apply get_app | (apply get_ne; focus omega) | (apply get_ne; focus (simp only [List.length_set, List.length_append, List.length_cons, List.length_nil]; omega))); done) (by rfl)) rfl ?_ | refine p1L (D_loadBA rfl (by (repeat first | assumption | exact get_last | (refine get_last2 ?_; focus (simp; done)) | apply get_set | apply get_app | (apply get_ne; focus omega) | (apply get_ne; focus (simp only [List.length_set, List.length_append, List.length_cons, List.length_nil]; omega))); done) (by rfl)) rfl ?_)
    | refine Le.bool ?_
    | refine Le.int ?_
    | refine Le.str ?_
  all_goals first
    | (refine dP_eq ?_; simp [iLe_t, iLt_t, *]; done)
    | skip
set_option maxHeartbeats 4000000 in
theorem joined1_pc [GlobF Tryd.prog] (a b : Sp) : PC Tryd.prog 52 [eS a, eS b] (.sc (.int .i64 (cmpI a.f b.f))) := by
  refine PC.of_body Tryd.func52 Tryd.ntmps52 rfl rfl rfl ?_
  repeat' first
    | (apply p1 (hd := rfl); case hop => first | (apply D_assign; rfl) | (apply D_pc (cmpInt64_pc _ _); rfl; exact .same rfl (.same rfl .nil)) | (apply D_load1; rfl) | (apply D_fld; rfl) | (apply D_loadW; rfl; rfl) | (apply D_loadA; rfl; rfl) | (apply D_box; rfl; rfl) | exact D_fldB rfl)
    | refine W_seq ?_
    | refine W_region ?_
    | refine WL_nil ?_
    | refine tn ?_
    | refine tr ?_
    | refine br ?_
    | refine bn ?_
    | refine te ?_
    | (refine idB ?_; first | refine bh rfl ?_ | refine bm rfl ?_)
    | refine W_skip ?_
    | refine W_block ?_
    | refine W_exit ?_
    | refine W_ret ?_
    | refine W_label ?_
    | refine W_scope ?_
    | refine sn ?_
    | refine sr ?_
    | refine se ?_
    | (refine idR ?_; first | refine ret1 rfl rfl rfl ?_ | refine rL1 rfl (by first | exact trivial | exact ⟨rfl, trivial⟩) (by first | exact ResO.tmp rfl | exact ResO.cellBA rfl rfl rfl | exact ResO.cellB1 rfl rfl rfl | exact ResO.cellEA rfl rfl | exact ResO.cellE1 rfl) ?_)
    | (refine idLd ?_; first | refine p1L (D_loadB1 rfl rfl rfl) rfl ?_ | refine p1L (D_loadBA rfl rfl rfl) rfl ?_ | refine p1L (D_loadB1 rfl (by (repeat first | assumption | exact get_last | (refine get_last2 ?_; focus (simp; done)) | apply get_set | apply get_app | (apply get_ne; focus omega) | (apply get_ne; focus (simp only [List.length_set, List.length_append, List.length_cons, List.length_nil]; omega))); done) (by rfl)) rfl ?_ | refine p1L (D_loadBA rfl (by (repeat first | assumption | exact get_last | (refine get_last2 ?_; focus (simp; done)) | apply get_set | apply get_app | (apply get_ne; focus omega) | (apply get_ne; focus (simp only [List.length_set, List.length_append, List.length_cons, List.length_nil]; omega))); done) (by rfl)) rfl ?_)
    | refine Le.bool ?_
    | refine Le.int ?_
    | refine Le.str ?_
  all_goals rfl
open Classical in
noncomputable def idxS (p : Sp → Prop) : List Sp → Int
  | [] => -1
  | s :: l => if p s then 0 else if idxS p l = -1 then -1 else idxS p l + 1
theorem idxS_lo (p : Sp → Prop) : ∀ l, -1 ≤ idxS p l
  | [] => Int.le_refl _
  | s :: l => by
    have := idxS_lo p l
    unfold idxS; split
    · omega
    · split <;> omega
theorem idxS_at (p : Sp → Prop) : ∀ (l : List Sp) (n : Nat) (hn : n < l.length), (∀ (j : Nat) (h : j < l.length), j < n → ¬ p l[j]) → p l[n] → idxS p l = n
  | [], n, hn, _, _ => by simp at hn
  | s :: l, 0, hn, _, h => by unfold idxS; rw [if_pos (by simpa using h)]; rfl
  | s :: l, n + 1, hn, h0, h => by
    have := idxS_at p l n (by simpa using hn) (fun j hj hjn => by have := h0 (j + 1) (by simpa using hj) (by omega); simpa using this) (by simpa using h)
    unfold idxS; rw [if_neg (by have := h0 0 (by simp) (by omega); simpa using this), this, if_neg (by omega)]; omega
theorem idxS_no (p : Sp → Prop) : ∀ (l : List Sp), (∀ (j : Nat) (h : j < l.length), ¬ p l[j]) → idxS p l = -1
  | [], _ => rfl
  | s :: l, h => by
    have := idxS_no p l (fun j hj => by have := h (j + 1) (by simpa using hj); simpa using this)
    unfold idxS; rw [if_neg (by have := h 0 (by simp); simpa using this), if_pos this]
theorem idxS_ge {p : Sp → Prop} {l : List Sp} : 0 ≤ idxS p l ↔ ∃ s, s ∈ l ∧ p s := by
  induction l with
  | nil => simp [idxS]
  | cons s l ih =>
    have lo := idxS_lo p l
    unfold idxS
    by_cases h : p s
    · rw [if_pos h]; exact ⟨fun _ => ⟨s, List.mem_cons_self, h⟩, fun _ => Int.le_refl _⟩
    · rw [if_neg h]
      constructor
      · intro e
        split at e
        · omega
        · obtain ⟨r, hr, h⟩ := ih.1 (by omega); exact ⟨r, List.mem_cons_of_mem _ hr, h⟩
      · rintro ⟨r, hr, h2⟩
        rcases List.mem_cons.1 hr with rfl | hr
        · exact absurd h2 h
        · have := ih.2 ⟨r, hr, h2⟩
          rw [if_neg (by omega)]; omega
set_option maxHeartbeats 4000000 in
theorem idxM_pc [GlobF Tryd.prog] (l : List Sp) (hl : l.length < 4611686018427387904) : PC Tryd.prog 49 [sl2 l, .sc (.func (.func 35) #[] #[])] (.sc (.int .i64 (idxS (fun s => s.t ≤ s.f) l))) := by
  refine PC.of_body Tryd.func49 Tryd.ntmps49 rfl rfl rfl ?_
  repeat' first
    | (apply p1 (hd := rfl); case hop => first | (apply D_move; rfl) | (apply D_assign; rfl) | (apply D_load1; rfl) | (apply D_int; rfl; rfl; rfl) | (apply D_lenM; rfl) | (apply D_len_sl; rfl) | (apply D_loadW; rfl; rfl) | (apply D_loadA; rfl; rfl) | (apply D_len_nil; rfl) | (apply D_idxAn; rfl; rfl; (first | omega | (simp; done))) | (apply D_idxA; rfl; rfl; omega; (first | omega | (simp; done) | (simp; omega))) | (apply D_idxA0; rfl; rfl; omega; (first | omega | (simp; done) | (simp; omega))) | exact D_xcmp rfl rfl rfl | exact D_xidx rfl rfl rfl | (apply D_lenR; rfl) | (apply D_ixRn; rfl; rfl; (first | omega | (simp; done))) | (apply D_ixR; rfl; rfl; all_goals first | omega | ((repeat rw [w64 _ (by omega) (by omega)]); omega) | decide))
    | refine W_seq ?_
    | refine W_region ?_
    | (refine idC ?_; first | refine c1 rfl ?_ | refine c0 rfl ?_ | refine cs rfl (fun _ => ?_) (fun _ => ?_))
    | refine WL_nil ?_
    | refine tn ?_
    | refine tr ?_
    | refine br ?_
    | refine bn ?_
    | refine te ?_
    | (refine idB ?_; first | refine bh rfl ?_ | refine bm rfl ?_)
    | refine W_skip ?_
    | refine W_block ?_
    | refine W_exit ?_
    | refine W_ret ?_
    | refine W_label ?_
    | refine W_scope ?_
    | refine sn ?_
    | refine sr ?_
    | refine se ?_
    | (refine idR ?_; first | refine ret1 rfl rfl rfl ?_ | refine rL1 rfl (by first | exact trivial | exact ⟨rfl, trivial⟩) (by first | exact ResO.tmp rfl | exact ResO.cellBA rfl rfl rfl | exact ResO.cellB1 rfl rfl rfl | exact ResO.cellEA rfl rfl | exact ResO.cellE1 rfl) ?_)
    | refine Le.bool ?_
    | refine Le.int ?_
    | refine Le.str ?_
  refine W_loopL (X := Nat) (fun i => [(0, sl2 l), (1, .sc (.func (.func 35) #[] #[])), (7, .sc (.int .i64 l.length)), (8, .sc (.int .i64 (i : Int)))]) (fun _ => [])
    (fun i => i ≤ l.length ∧ ∀ (j : Nat) (h : j < l.length), j < i → ¬ (l[j].t ≤ l[j].f)) (fun i => l.length - i) 0 ⟨by omega, fun j h h' => by omega⟩ ⟨rfl, rfl, rfl, rfl, trivial⟩ rfl ?_
  rintro i ⟨hi, hz⟩
  repeat' first
    | (apply p1 (hd := rfl); case hop => first | (apply D_move; rfl) | (apply D_assign; rfl) | (apply D_pc (make1_pc (l[i]'(by omega))); rfl; exact .same rfl .nil) | (apply D_load1; rfl) | (apply D_int; rfl; rfl; rfl) | (apply D_lenM; rfl) | (apply D_len_sl; rfl) | (apply D_loadW; rfl; rfl) | (apply D_loadA; rfl; rfl) | (apply D_len_nil; rfl) | (apply D_idxAn; rfl; rfl; (first | omega | (simp; done))) | (apply D_idxA; rfl; rfl; omega; (first | omega | (simp; done) | (simp; omega))) | (apply D_idxA0; rfl; rfl; omega; (first | omega | (simp; done) | (simp; omega))) | exact D_xcmp rfl rfl rfl | exact D_xidx rfl rfl rfl | (apply D_lenR; rfl) | (apply D_ixRn; rfl; rfl; (first | omega | (simp; done))) | (apply D_ixR; rfl; rfl; all_goals first | omega | ((repeat rw [w64 _ (by omega) (by omega)]); omega) | decide))
    | refine W_seq ?_
    | refine W_region ?_
    | (refine idC ?_; first | refine c1 rfl ?_ | refine c0 rfl ?_ | refine cs rfl (fun _ => ?_) (fun _ => ?_))
    | refine WL_nil ?_
    | refine tn ?_
    | refine tr ?_
    | refine br ?_
    | refine bn ?_
    | refine te ?_
    | (refine idB ?_; first | refine bh rfl ?_ | refine bm rfl ?_)
    | refine W_skip ?_
    | refine W_block ?_
    | refine W_exit ?_
    | refine W_ret ?_
    | refine W_label ?_
    | refine W_scope ?_
    | refine sn ?_
    | refine sr ?_
    | refine se ?_
    | (refine idR ?_; first | refine ret1 rfl rfl rfl ?_ | refine rL1 rfl (by first | exact trivial | exact ⟨rfl, trivial⟩) (by first | exact ResO.tmp rfl | exact ResO.cellBA rfl rfl rfl | exact ResO.cellB1 rfl rfl rfl | exact ResO.cellEA rfl rfl | exact ResO.cellE1 rfl) ?_)
    | refine Le.bool ?_
    | refine Le.int ?_
    | refine Le.str ?_
  · rename_i k1 k2
    exact (idxS_at (fun s => s.t ≤ s.f) l i (by omega) hz k2).symm
  · rename_i k1 k2
    refine ⟨rfl, i + 1, ⟨by omega, fun j h hj => ?_⟩, by omega, ⟨rfl, rfl, rfl, ieq (wsucc i (by omega)), trivial⟩, rfl⟩
    by_cases e : j = i
    · subst e; exact k2
    · exact hz j h (by omega)
  · exact (idxS_no (fun s => s.t ≤ s.f) l fun j h => hz j h (by omega)).symm
set_option maxHeartbeats 4000000 in
theorem conM_pc [GlobF Tryd.prog] (l : List Sp) (hl : l.length < 4611686018427387904) : PC Tryd.prog 34 [sl2 l, .sc (.func (.func 35) #[] #[])] (.sc (.bool (dP (¬ neS l)))) := by
  refine PC.of_body Tryd.func34 Tryd.ntmps34 rfl rfl rfl ?_
  repeat' first
    | (apply p1 (hd := rfl); case hop => first | (apply D_move; rfl) | (apply D_assign; rfl) | (apply D_pc (idxM_pc l hl); rfl; exact .same rfl (.same rfl .nil)) | (apply D_int; rfl; rfl; rfl))
    | refine W_seq ?_
    | refine W_region ?_
    | refine WL_nil ?_
    | refine tn ?_
    | refine tr ?_
    | refine br ?_
    | refine bn ?_
    | refine te ?_
    | (refine idB ?_; first | refine bh rfl ?_ | refine bm rfl ?_)
    | refine W_skip ?_
    | refine W_block ?_
    | refine W_exit ?_
    | refine W_ret ?_
    | refine W_label ?_
    | refine W_scope ?_
    | refine sn ?_
    | refine sr ?_
    | refine se ?_
    | (refine idR ?_; first | refine ret1 rfl rfl rfl ?_ | refine rL1 rfl (by first | exact trivial | exact ⟨rfl, trivial⟩) (by first | exact ResO.tmp rfl | exact ResO.cellBA rfl rfl rfl | exact ResO.cellB1 rfl rfl rfl | exact ResO.cellEA rfl rfl | exact ResO.cellE1 rfl) ?_)
    | refine Le.bool ?_
    | refine Le.int ?_
    | refine Le.str ?_
  refine dP_eq ?_
  rw [iLe_t]
  refine idxS_ge.trans ⟨fun ⟨s, hs, h⟩ e => by have := e s hs; omega, fun h => ?_⟩
  refine Classical.byContradiction fun h2 => h fun s hs => ?_
  rcases Int.lt_or_le s.f s.t with h3 | h3
  · exact h3
  · exact absurd ⟨s, hs, h3⟩ h2
def encS (s : Sp) : List Value := [.int .i64 s.f, .int .i64 s.t]
instance : Inhabited Sp := ⟨⟨0, 0⟩⟩
theorem sC_enc (s : Sp) : sC s = (encS s).map .sc := rfl
abbrev cmpS (a b : Sp) : Int := cmpI a.f b.f
theorem ltS (a b : Sp) : ltOf cmpS a b = decide (a.f < b.f) := by
  unfold ltOf; show decide (cmpI a.f b.f < 0) = _; unfold cmpI
  by_cases h : a.f < b.f
  · simp [h]
  · by_cases h2 : b.f < a.f <;> simp [h, h2]
theorem swoS : SWO (ltOf cmpS) := ⟨fun x => by rw [ltS]; simp, fun x y z h1 h2 => by rw [ltS] at *; simp at *; omega, fun x y z h1 h2 => by rw [ltS] at *; simp at *; omega⟩
theorem sortS_ac [GlobF Tryd.prog] {h : List AObj} {r : Nat} {l : List Sp} {sp : List AV} (hr : h[r]? = some (.cells ((l.map sC).flatten ++ sp))) (hne : 0 < l.length) (hl : l.length < 4611686018427387904) :
    AC Tryd.prog 51 [.mr r 0 l.length, .sc (.func (.func 52) #[] #[])] h (fun v h' => v = .tu [] ∧ ∃ ms : List Sp, ms.Perm l ∧ ms.Pairwise (fun x y => ltOf cmpS y x = false) ∧ h' = h.set r (.cells ((ms.map sC).flatten ++ sp))) :=
  sortP_ac Tryd.laysSS Tryd.isAgg38 Tryd.sizeOf38 encS sC sC_enc (fun _ => rfl) (fun x v hv => by simp [encS] at hv; rcases hv with rfl | rfl <;> rfl) cmpS swoS 52 [] _
    (fun G v hv => ⟨[], by rw [conc_sc hv], .nil _⟩) (fun x y => joined1_pc x y) hr hne hl
set_option maxHeartbeats 4000000 in
theorem cloneS_ac [GlobF Tryd.prog] {h : List AObj} {tok : Option Nat} (l : List Sp) (hne : 0 < l.length) (hl : l.length < 8796093022208) :
    AC Tryd.prog 50 [.sl tok 2 (l.map sC)] h (fun v h' => ∃ sp, v = .mr (h.length + 1) 0 l.length ∧ h' = h ++ [.dead, .cells ((l.map sC).flatten ++ sp)]) := by
  have hnn : l.map sC ≠ [] := by cases l with | nil => simp at hne | cons a l => simp
  refine AC.of_body Tryd.func50 Tryd.ntmps50 rfl rfl rfl ?_
  repeat' first
    | (refine m_slnil rfl rfl ?_; rintro b hb)
    | refine m_lit (d := 5) rfl rfl rfl rfl rfl rfl ?_
    | (refine m_appR (d := 7) rfl rfl get_last hnn rfl (by rw [List.length_map]; omega) (by rw [List.length_map]; omega) rfl ?_; intro sp)
    | (apply p1 (hd := rfl); case hop => first | (apply D_move; rfl) | (apply D_assign; rfl) | (apply D_lit; rfl; rfl; rfl; rfl))
    | refine W_seq ?_
    | refine W_region ?_
    | (refine idC ?_; first | refine c1 rfl ?_ | refine c0 rfl ?_ | refine cs rfl (fun _ => ?_) (fun _ => ?_))
    | refine WL_nil ?_
    | refine tn ?_
    | refine tr ?_
    | refine br ?_
    | refine bn ?_
    | refine te ?_
    | (refine idB ?_; first | refine bh rfl ?_ | refine bm rfl ?_)
    | refine W_skip ?_
    | refine W_block ?_
    | refine W_exit ?_
    | refine W_ret ?_
    | refine W_label ?_
    | refine W_scope ?_
    | refine sn ?_
    | refine sr ?_
    | refine se ?_
    | refine Le.bool ?_
    | refine Le.int ?_
    | refine Le.str ?_
    | (refine idAp ?_; refine m_app rfl rfl (by first | rfl | assumption | exact get_set (by assumption) | exact get_set (get_set (by assumption)) | exact get_set (get_set (get_set (by assumption))) | ((repeat first | assumption | exact get_last | (refine get_last2 ?_; focus (simp; done)) | apply get_set | apply get_app | (apply get_ne; focus omega)); done)) ?_ rfl rfl ?_ ?_ rfl ?_; (first | rfl | focus (simp only [List.length_map, List.length_append, List.length_cons, List.length_nil]; omega) | focus (simp; done) | focus (simp; omega)); (first | focus (simp only [List.length_map, List.length_append, List.length_cons, List.length_nil]; omega) | focus (simp; done) | focus (simp; omega)); (first | focus (simp only [List.length_map, List.length_append, List.length_cons, List.length_nil]; omega) | focus (simp; done) | focus (simp; omega)))
    | (refine idAp ?_; refine m_appB rfl rfl rfl (by first | rfl | assumption | exact get_set (by assumption) | exact get_set (get_set (by assumption)) | exact get_set (get_set (get_set (by assumption))) | ((repeat first | assumption | exact get_last | (refine get_last2 ?_; focus (simp; done)) | apply get_set | apply get_app | (apply get_ne; focus omega)); done)) ?_ rfl rfl ?_ ?_ rfl ?_; (first | rfl | focus (simp only [List.length_map, List.length_append, List.length_cons, List.length_nil]; omega) | focus (simp; done) | focus (simp; omega)); (first | focus (simp only [List.length_map, List.length_append, List.length_cons, List.length_nil]; omega) | focus (simp; done) | focus (simp; omega)); (first | focus (simp only [List.length_map, List.length_append, List.length_cons, List.length_nil]; omega) | focus (simp; done) | focus (simp; omega)))
  · rename_i hb'
    first
      | exact absurd (hb hb') hnn
      | exact absurd (hb rfl) hnn
  · exact retK1 (.inl rfl) rfl rfl (ResO.tmp rfl) ⟨sp, by simp, by simp⟩
theorem sortS0_pc [GlobF Tryd.prog] : PC Tryd.prog 51 [.sl none 2 [], .sc (.func (.func 52) #[] #[])] (.tu []) := sort_none_pc Tryd.laysSS 2 _
set_option maxHeartbeats 4000000 in
theorem cloneS0_pc [GlobF Tryd.prog] : PC Tryd.prog 50 [.sl none 2 []] (.sl none 2 []) := by
  refine PC.of_body Tryd.func50 Tryd.ntmps50 rfl rfl rfl ?_
  repeat' first
    | (refine m_slnil rfl rfl ?_; rintro b hb)
    | refine m_lit (d := 5) rfl rfl rfl rfl rfl rfl ?_
    | (apply p1 (hd := rfl); case hop => first | (apply D_move; rfl) | (apply D_assign; rfl) | (apply D_lit; rfl; rfl; rfl; rfl))
    | refine W_seq ?_
    | refine W_region ?_
    | (refine idC ?_; first | refine c1 rfl ?_ | refine c0 rfl ?_ | refine cs rfl (fun _ => ?_) (fun _ => ?_))
    | refine WL_nil ?_
    | refine tn ?_
    | refine tr ?_
    | refine br ?_
    | refine bn ?_
    | refine te ?_
    | (refine idB ?_; first | refine bh rfl ?_ | refine bm rfl ?_)
    | refine W_skip ?_
    | refine W_block ?_
    | refine W_exit ?_
    | refine W_ret ?_
    | refine W_label ?_
    | refine W_scope ?_
    | refine sn ?_
    | refine sr ?_
    | refine se ?_
    | (refine idR ?_; first | refine ret1 rfl rfl rfl ?_ | refine rL1 rfl (by first | exact trivial | exact ⟨rfl, trivial⟩) (by first | exact ResO.tmp rfl | exact ResO.cellBA rfl rfl rfl | exact ResO.cellB1 rfl rfl rfl | exact ResO.cellEA rfl rfl | exact ResO.cellE1 rfl) ?_)
    | refine Le.bool ?_
    | refine Le.int ?_
    | refine Le.str ?_
    | (refine idAp ?_; refine m_app rfl rfl (by first | rfl | assumption | exact get_set (by assumption) | exact get_set (get_set (by assumption)) | exact get_set (get_set (get_set (by assumption))) | ((repeat first | assumption | exact get_last | (refine get_last2 ?_; focus (simp; done)) | apply get_set | apply get_app | (apply get_ne; focus omega)); done)) ?_ rfl rfl ?_ ?_ rfl ?_; (first | rfl | focus (simp only [List.length_map, List.length_append, List.length_cons, List.length_nil]; omega) | focus (simp; done) | focus (simp; omega)); (first | focus (simp only [List.length_map, List.length_append, List.length_cons, List.length_nil]; omega) | focus (simp; done) | focus (simp; omega)); (first | focus (simp only [List.length_map, List.length_append, List.length_cons, List.length_nil]; omega) | focus (simp; done) | focus (simp; omega)))
    | (refine idAp ?_; refine m_appB rfl rfl rfl (by first | rfl | assumption | exact get_set (by assumption) | exact get_set (get_set (by assumption)) | exact get_set (get_set (get_set (by assumption))) | ((repeat first | assumption | exact get_last | (refine get_last2 ?_; focus (simp; done)) | apply get_set | apply get_app | (apply get_ne; focus omega)); done)) ?_ rfl rfl ?_ ?_ rfl ?_; (first | rfl | focus (simp only [List.length_map, List.length_append, List.length_cons, List.length_nil]; omega) | focus (simp; done) | focus (simp; omega)); (first | focus (simp only [List.length_map, List.length_append, List.length_cons, List.length_nil]; omega) | focus (simp; done) | focus (simp; omega)); (first | focus (simp only [List.length_map, List.length_append, List.length_cons, List.length_nil]; omega) | focus (simp; done) | focus (simp; omega)))
  all_goals first
    | exact Le.nil rfl
    | exact Le.tokq rfl
noncomputable def canS (l : List Sp) : List Sp := J (l.mergeSort fun x y => decide (x.f ≤ y.f))
theorem canS_ok {l : List Sp} (h : neS l) : SetP (canS l) ∧ ∀ x, inS (canS l) x ↔ inS l x := by
  have hp := List.mergeSort_perm l (fun x y => decide (x.f ≤ y.f))
  have hs : (l.mergeSort fun x y => decide (x.f ≤ y.f)).Pairwise (fun a b => a.f ≤ b.f) := by
    have := List.pairwise_mergeSort (le := fun (x y : Sp) => decide (x.f ≤ y.f)) (fun a b c h1 h2 => by simp at *; omega) (fun a b => by simp; omega) l
    exact this.imp (fun h => by simpa using h)
  obtain ⟨k1, k2, _⟩ := J_ok _ (fun s hs => h s (hp.mem_iff.1 hs)) hs
  exact ⟨k1, fun x => (k2 x).trans (inS_perm hp x)⟩
theorem J_can {l ms : List Sp} (h : neS l) (hp : ms.Perm l) (hs : ms.Pairwise (fun x y => ltOf cmpS y x = false)) : J ms = canS l := by
  obtain ⟨k1, k2, _⟩ := J_ok ms (fun s hs => h s (hp.mem_iff.1 hs)) (hs.imp (fun {a b} h => by rw [ltS] at h; simpa using h))
  obtain ⟨j1, j2⟩ := canS_ok h
  exact set_ext k1 j1 fun x => by rw [k2, j2, inS_perm hp]
theorem jn_len (o : List Sp) (s : Sp) : (jn o s).length ≤ o.length + 1 := by
  rcases snoc_cases o with rfl | ⟨o, p, rfl⟩
  · simp [jn_nil]
  · rw [jn_snoc]; split <;> simp
theorem J_len : ∀ m : List Sp, (J m).length ≤ m.length := by
  refine snoc_ind (by simp [J]) fun m x ih => ?_
  rw [J_snoc, List.length_append]
  have := jn_len (J m) x
  simp; omega
theorem J_take (ms : List Sp) (i : Nat) (h : i < ms.length) : J (ms.take (i + 1)) = jn (J (ms.take i)) ms[i] := by
  rw [List.take_succ_eq_append_getElem h, J_snoc]
theorem flat2 {o : List Sp} {p : Sp} : ((o ++ [p]).map sC).flatten = (o.map sC).flatten ++ sC p := by simp
theorem flat2_len (o : List Sp) : ((o.map sC).flatten).length = o.length * 2 := by
  rw [flat_len sC_row, List.length_map]
theorem flat_get {o : List Sp} {p : Sp} : (((o ++ [p]).map sC).flatten)[o.length * 2 + 1]? = some (.sc (.int .i64 p.t)) := by
  have := flat2_len o
  rw [flat2, List.getElem?_append_right (by omega), this, show o.length * 2 + 1 - o.length * 2 = 1 by omega]; rfl
theorem flat_st {o : List Sp} {p : Sp} {t : Int} : ((o ++ [(⟨p.f, t⟩ : Sp)]).map sC).flatten = (((o ++ [p]).map sC).flatten).take (o.length * 2 + 1) ++ [.sc (.int .i64 t)] ++ (((o ++ [p]).map sC).flatten).drop (o.length * 2 + 1 + 1) := by
  have := flat2_len o
  rw [flat2, flat2, List.take_append, List.drop_append, this, show o.length * 2 + 1 - o.length * 2 = 1 by omega, show o.length * 2 + 1 + 1 - o.length * 2 = 2 by omega, List.take_of_length_le (by omega), List.drop_eq_nil_of_le (by omega)]
  simp
theorem ren3 {rg rg' : List (Nat × AV)} {h : List AObj} {q e : Nat} {els : List (List AV)} [PurLL els] (h0 : q ≠ 0) (h1 : q ≠ 1) (hq0 : h[0]?.isSome) (hq1 : h[1]?.isSome) (hq : h[q]? = some (.row 2 e els)) (hr : RenL [0, 1, q] rg rg') : Ren ⟨[], 0⟩ [0, 1, q] rg h rg' [.dead, .dead, .row 2 e els] := by
  obtain ⟨a, ha⟩ := Option.isSome_iff_exists.1 hq0
  obtain ⟨b, hb⟩ := Option.isSome_iff_exists.1 hq1
  exact ⟨by simp; omega, fun r hr => absurd hr (Nat.not_lt_zero r), fun r hr => (by cases hr), hr, ⟨⟨_, ha, .dead _⟩, ⟨_, hb, .dead _⟩, ⟨_, hq, .row _ _ _⟩, trivial⟩⟩
set_option maxHeartbeats 16000000 in
theorem joined0_pc [GlobF Tryd.prog] : PC Tryd.prog 36 [sl2 []] (sl2 []) := by
  refine PC.of_body Tryd.func36 Tryd.ntmps36 rfl rfl rfl ?_
  repeat' first
    | (refine W_rounds 1 ?_)
    | (refine cs rfl ?_ (fun _ => ?_); focus (intro h; exfalso; revert h; decide))
    | (refine cs rfl (fun _ => ?_) ?_; focus (intro h; exfalso; revert h; decide))
    | (apply p1 (hd := rfl); case hop => first | (apply D_move; rfl) | (apply D_assign; rfl) | (apply D_pc cloneS0_pc; rfl; exact .same rfl .nil) | (apply D_pc sortS0_pc; rfl; exact .same rfl (.same rfl .nil)) | (apply D_load1; rfl) | (apply D_fld; rfl) | (apply D_pickT; rfl; rfl) | (apply D_pickF; rfl; rfl) | (apply D_int; rfl; rfl; rfl) | (apply D_lenM; rfl) | (apply D_len_sl; rfl) | (apply D_loadW; rfl; rfl) | (apply D_loadA; rfl; rfl) | (apply D_len_nil; rfl) | (apply D_idxAn; rfl; rfl; (first | omega | (simp; done))) | (apply D_idxA; rfl; rfl; omega; (first | omega | (simp; done) | (simp; omega))) | (apply D_idxA0; rfl; rfl; omega; (first | omega | (simp; done) | (simp; omega))) | (apply D_lit; rfl; rfl; rfl; rfl) | exact D_fldB rfl | (apply D_lenR; rfl) | (apply D_ixRn; rfl; rfl; (first | omega | (simp; done))) | (apply D_ixR; rfl; rfl; all_goals first | omega | ((repeat rw [w64 _ (by omega) (by omega)]); omega) | decide))
    | refine W_seq ?_
    | refine W_region ?_
    | (refine idC ?_; first | refine c1 rfl ?_ | refine c0 rfl ?_ | refine cs rfl (fun _ => ?_) (fun _ => ?_))
    | refine WL_nil ?_
    | (refine idG ?_; first | refine g0t rfl rfl rfl ?_ | refine g0f rfl rfl rfl ?_ | refine g0u rfl rfl rfl ?_ | refine gr rfl rfl ?_ | refine gs rfl rfl (fun _ => ?_) (fun _ => ?_) | refine grn rfl rfl ?_)
    | refine tn ?_
    | refine tr ?_
    | refine br ?_
    | refine bn ?_
    | refine te ?_
    | (refine idB ?_; first | refine bh rfl ?_ | refine bm rfl ?_)
    | refine W_skip ?_
    | refine W_block ?_
    | refine W_exit ?_
    | refine W_ret ?_
    | refine W_label ?_
    | refine W_scope ?_
    | refine sn ?_
    | refine sr ?_
    | refine se ?_
    | (refine idR ?_; first | refine ret1 rfl rfl rfl ?_ | refine rL1 rfl (by first | exact trivial | exact ⟨rfl, trivial⟩) (by first | exact ResO.tmp rfl | exact ResO.cellBA rfl rfl rfl | exact ResO.cellB1 rfl rfl rfl | exact ResO.cellEA rfl rfl | exact ResO.cellE1 rfl) ?_)
    | (refine idLd ?_; first | refine p1L (D_loadB1 rfl rfl rfl) rfl ?_ | refine p1L (D_loadBA rfl rfl rfl) rfl ?_ | refine p1L (D_loadB1 rfl (by (repeat first | assumption | exact get_last | (refine get_last2 ?_; focus (simp; done)) | apply get_set | apply get_app | (apply get_ne; focus omega) | (apply get_ne; focus (simp only [List.length_set, List.length_append, List.length_cons, List.length_nil]; omega))); done) (by rfl)) rfl ?_ | refine p1L (D_loadBA rfl (by (repeat first | assumption | exact get_last | (refine get_last2 ?_; focus (simp; done)) | apply get_set | apply get_app | (apply get_ne; focus omega) | (apply get_ne; focus (simp only [List.length_set, List.length_append, List.length_cons, List.length_nil]; omega))); done) (by rfl)) rfl ?_)
    | (refine idA ?_; first | refine m_var rfl rfl rfl rfl rfl rfl rfl ?_ | refine m_alloc rfl ?_)
    | (refine idS ?_; first | refine pS (S_store rfl rfl rfl rfl rfl rfl rfl) ?_ | refine pS (S_store rfl rfl rfl (by (repeat first | assumption | exact get_last | (refine get_last2 ?_; focus (simp; done)) | apply get_set | apply get_app | (apply get_ne; focus omega) | (apply get_ne; focus (simp only [List.length_set, List.length_append, List.length_cons, List.length_nil]; omega))); done) (by rfl) (by rfl) (by rfl)) ?_)
    | refine Le.bool ?_
    | refine Le.int ?_
    | refine Le.str ?_
    | (refine idAp ?_; refine m_app rfl rfl (by first | rfl | assumption | exact get_set (by assumption) | exact get_set (get_set (by assumption)) | exact get_set (get_set (get_set (by assumption))) | ((repeat first | assumption | exact get_last | (refine get_last2 ?_; focus (simp; done)) | apply get_set | apply get_app | (apply get_ne; focus omega)); done)) ?_ rfl rfl ?_ ?_ rfl ?_; (first | rfl | focus (simp only [List.length_map, List.length_append, List.length_cons, List.length_nil]; omega) | focus (simp; done) | focus (simp; omega)); (first | focus (simp only [List.length_map, List.length_append, List.length_cons, List.length_nil]; omega) | focus (simp; done) | focus (simp; omega)); (first | focus (simp only [List.length_map, List.length_append, List.length_cons, List.length_nil]; omega) | focus (simp; done) | focus (simp; omega)))
    | (refine idAp ?_; refine m_appB rfl rfl rfl (by first | rfl | assumption | exact get_set (by assumption) | exact get_set (get_set (by assumption)) | exact get_set (get_set (get_set (by assumption))) | ((repeat first | assumption | exact get_last | (refine get_last2 ?_; focus (simp; done)) | apply get_set | apply get_app | (apply get_ne; focus omega)); done)) ?_ rfl rfl ?_ ?_ rfl ?_; (first | rfl | focus (simp only [List.length_map, List.length_append, List.length_cons, List.length_nil]; omega) | focus (simp; done) | focus (simp; omega)); (first | focus (simp only [List.length_map, List.length_append, List.length_cons, List.length_nil]; omega) | focus (simp; done) | focus (simp; omega)); (first | focus (simp only [List.length_map, List.length_append, List.length_cons, List.length_nil]; omega) | focus (simp; done) | focus (simp; omega)))
    | refine wr_succ ?_
    | (refine idW ?_; first | refine W_draw0 rfl ?_ | refine W_draw1 rfl ?_ | refine W_draw2 rfl ?_ | refine W_draw3 rfl ?_)
    | (apply d1 (hd := rfl); case hop => first | (apply D_move; rfl) | (apply D_assign; rfl) | (apply D_pc cloneS0_pc; rfl; exact .same rfl .nil) | (apply D_pc sortS0_pc; rfl; exact .same rfl (.same rfl .nil)) | (apply D_load1; rfl) | (apply D_fld; rfl) | (apply D_pickT; rfl; rfl) | (apply D_pickF; rfl; rfl) | (apply D_int; rfl; rfl; rfl) | (apply D_lenM; rfl) | (apply D_len_sl; rfl) | (apply D_loadW; rfl; rfl) | (apply D_loadA; rfl; rfl) | (apply D_len_nil; rfl) | (apply D_idxAn; rfl; rfl; (first | omega | (simp; done))) | (apply D_idxA; rfl; rfl; omega; (first | omega | (simp; done) | (simp; omega))) | (apply D_idxA0; rfl; rfl; omega; (first | omega | (simp; done) | (simp; omega))) | (apply D_lit; rfl; rfl; rfl; rfl) | exact D_fldB rfl | (apply D_lenR; rfl) | (apply D_ixRn; rfl; rfl; (first | omega | (simp; done))) | (apply D_ixR; rfl; rfl; all_goals first | omega | ((repeat rw [w64 _ (by omega) (by omega)]); omega) | decide))
    | (refine idDg ?_; first | refine dg0t rfl rfl rfl ?_ | refine dg0f rfl rfl rfl ?_ | refine dg0u rfl rfl rfl ?_ | refine dgr rfl rfl ?_ | refine dgs rfl rfl (fun _ => ?_) (fun _ => ?_))
    | (refine idDn ?_; first | refine dL _ (fun hp' hs => D_loadB1 rfl (hs.trans rfl) rfl) rfl ?_ | refine dL _ (fun hp' hs => D_loadBA rfl (hs.trans rfl) rfl) rfl ?_ | refine dS (S_store rfl rfl rfl rfl rfl rfl rfl) rfl ?_ | refine dV (S_alloc 0 rfl) rfl rfl ?_ | refine dV (S_alloc 1 rfl) rfl rfl ?_ | refine dV (S_alloc 2 rfl) rfl rfl ?_ | refine dV (S_alloc 3 rfl) rfl rfl ?_ | refine dV (S_alloc 4 rfl) rfl rfl ?_ | refine dV (S_alloc 5 rfl) rfl rfl ?_ | refine dV (S_alloc 6 rfl) rfl rfl ?_ | refine dV (S_alloc 7 rfl) rfl rfl ?_)
    | refine WD_nil (by first | decide +kernel | kernel_rfl | rfl) ?_
  all_goals exact Le.nil rfl
set_option maxHeartbeats 16000000 in
theorem joined_pc [GlobF Tryd.prog] (l : List Sp) (hn : neS l) (hl : l.length < 8796093022208) : PC Tryd.prog 36 [sl2 l] (sl2 (canS l)) := by
  rcases Nat.eq_zero_or_pos l.length with h0 | h0
  · have e : l = [] := List.length_eq_zero_iff.1 h0
    subst e
    have e2 : canS [] = [] := set_empty (canS_ok hn).1 fun x h => inS_nil x (((canS_ok hn).2 x).1 h)
    rw [e2]; exact joined0_pc
  refine PC.of_body Tryd.func36 Tryd.ntmps36 rfl rfl rfl ?_
  repeat' first
    | (apply p1 (hd := rfl); case hop => first | (apply D_move; rfl) | (apply D_assign; rfl) | (apply D_load1; rfl) | (apply D_fld; rfl) | (apply D_pickT; rfl; rfl) | (apply D_pickF; rfl; rfl) | (apply D_int; rfl; rfl; rfl) | (apply D_lenM; rfl) | (apply D_len_sl; rfl) | (apply D_loadW; rfl; rfl) | (apply D_loadA; rfl; rfl) | (apply D_len_nil; rfl) | (apply D_idxAn; rfl; rfl; (first | omega | (simp; done))) | (apply D_idxA; rfl; rfl; omega; (first | omega | (simp; done) | (simp; omega))) | (apply D_idxA0; rfl; rfl; omega; (first | omega | (simp; done) | (simp; omega))) | (apply D_lit; rfl; rfl; rfl; rfl) | exact D_fldB rfl | (apply D_lenR; rfl) | (apply D_ixRn; rfl; rfl; (first | omega | (simp; done))) | (apply D_ixR; rfl; rfl; all_goals first | omega | ((repeat rw [w64 _ (by omega) (by omega)]); omega) | decide))
    | refine W_seq ?_
    | refine W_region ?_
    | (refine idC ?_; first | refine c1 rfl ?_ | refine c0 rfl ?_ | refine cs rfl (fun _ => ?_) (fun _ => ?_))
    | refine WL_nil ?_
    | (refine idG ?_; first | refine g0t rfl rfl rfl ?_ | refine g0f rfl rfl rfl ?_ | refine g0u rfl rfl rfl ?_ | refine gr rfl rfl ?_ | refine gs rfl rfl (fun _ => ?_) (fun _ => ?_) | refine grn rfl rfl ?_)
    | refine tn ?_
    | refine tr ?_
    | refine br ?_
    | refine bn ?_
    | refine te ?_
    | (refine idB ?_; first | refine bh rfl ?_ | refine bm rfl ?_)
    | refine W_skip ?_
    | refine W_block ?_
    | refine W_exit ?_
    | refine W_ret ?_
    | refine W_label ?_
    | refine W_scope ?_
    | refine sn ?_
    | refine sr ?_
    | refine se ?_
    | (refine idR ?_; first | refine ret1 rfl rfl rfl ?_ | refine rL1 rfl (by first | exact trivial | exact ⟨rfl, trivial⟩) (by first | exact ResO.tmp rfl | exact ResO.cellBA rfl rfl rfl | exact ResO.cellB1 rfl rfl rfl | exact ResO.cellEA rfl rfl | exact ResO.cellE1 rfl) ?_)
    | (refine idLd ?_; first | refine p1L (D_loadB1 rfl rfl rfl) rfl ?_ | refine p1L (D_loadBA rfl rfl rfl) rfl ?_ | refine p1L (D_loadB1 rfl (by (repeat first | assumption | exact get_last | (refine get_last2 ?_; focus (simp; done)) | apply get_set | apply get_app | (apply get_ne; focus omega) | (apply get_ne; focus (simp only [List.length_set, List.length_append, List.length_cons, List.length_nil]; omega))); done) (by rfl)) rfl ?_ | refine p1L (D_loadBA rfl (by (repeat first | assumption | exact get_last | (refine get_last2 ?_; focus (simp; done)) | apply get_set | apply get_app | (apply get_ne; focus omega) | (apply get_ne; focus (simp only [List.length_set, List.length_append, List.length_cons, List.length_nil]; omega))); done) (by rfl)) rfl ?_)
    | (refine idA ?_; first | refine m_var rfl rfl rfl rfl rfl rfl rfl ?_ | refine m_alloc rfl ?_)
    | (refine idS ?_; first | refine pS (S_store rfl rfl rfl rfl rfl rfl rfl) ?_ | refine pS (S_store rfl rfl rfl (by (repeat first | assumption | exact get_last | (refine get_last2 ?_; focus (simp; done)) | apply get_set | apply get_app | (apply get_ne; focus omega) | (apply get_ne; focus (simp only [List.length_set, List.length_append, List.length_cons, List.length_nil]; omega))); done) (by rfl) (by rfl) (by rfl)) ?_)
    | refine Le.bool ?_
    | refine Le.int ?_
    | refine Le.str ?_
    | (refine idAp ?_; refine m_app rfl rfl (by first | rfl | assumption | exact get_set (by assumption) | exact get_set (get_set (by assumption)) | exact get_set (get_set (get_set (by assumption))) | ((repeat first | assumption | exact get_last | (refine get_last2 ?_; focus (simp; done)) | apply get_set | apply get_app | (apply get_ne; focus omega)); done)) ?_ rfl rfl ?_ ?_ rfl ?_; (first | rfl | focus (simp only [List.length_map, List.length_append, List.length_cons, List.length_nil]; omega) | focus (simp; done) | focus (simp; omega)); (first | focus (simp only [List.length_map, List.length_append, List.length_cons, List.length_nil]; omega) | focus (simp; done) | focus (simp; omega)); (first | focus (simp only [List.length_map, List.length_append, List.length_cons, List.length_nil]; omega) | focus (simp; done) | focus (simp; omega)))
    | (refine idAp ?_; refine m_appB rfl rfl rfl (by first | rfl | assumption | exact get_set (by assumption) | exact get_set (get_set (by assumption)) | exact get_set (get_set (get_set (by assumption))) | ((repeat first | assumption | exact get_last | (refine get_last2 ?_; focus (simp; done)) | apply get_set | apply get_app | (apply get_ne; focus omega)); done)) ?_ rfl rfl ?_ ?_ rfl ?_; (first | rfl | focus (simp only [List.length_map, List.length_append, List.length_cons, List.length_nil]; omega) | focus (simp; done) | focus (simp; omega)); (first | focus (simp only [List.length_map, List.length_append, List.length_cons, List.length_nil]; omega) | focus (simp; done) | focus (simp; omega)); (first | focus (simp only [List.length_map, List.length_append, List.length_cons, List.length_nil]; omega) | focus (simp; done) | focus (simp; omega)))
    | (refine m_call (d := 8) (cloneS_ac l h0 (by omega)) rfl rfl rfl ?_; rintro _ _ ⟨sp, rfl, rfl⟩)
    | (refine m_call (d := 10) (sortS_ac (l := l) rfl h0 (by omega)) rfl rfl rfl ?_; rintro _ _ ⟨rfl, ms, hpm, hpw, rfl⟩; refine WL_frz 0 1 2 (els := ms.map sC) (sp := sp) rfl rfl (by rw [List.length_map, hpm.length_eq]; exact Nat.le_refl _) sC_row ?_; rw [List.take_of_length_le (by rw [List.length_map, hpm.length_eq]; exact Nat.le_refl _)])
    | (refine idW ?_; first | refine W_draw0 rfl ?_ | refine W_draw1 rfl ?_ | refine W_draw2 rfl ?_ | refine W_draw3 rfl ?_)
    | (apply d1 (hd := rfl); case hop => first | (apply D_move; rfl) | (apply D_assign; rfl) | (apply D_load1; rfl) | (apply D_fld; rfl) | (apply D_pickT; rfl; rfl) | (apply D_pickF; rfl; rfl) | (apply D_int; rfl; rfl; rfl) | (apply D_lenM; rfl) | (apply D_len_sl; rfl) | (apply D_loadW; rfl; rfl) | (apply D_loadA; rfl; rfl) | (apply D_len_nil; rfl) | (apply D_idxAn; rfl; rfl; (first | omega | (simp; done))) | (apply D_idxA; rfl; rfl; omega; (first | omega | (simp; done) | (simp; omega))) | (apply D_idxA0; rfl; rfl; omega; (first | omega | (simp; done) | (simp; omega))) | (apply D_lit; rfl; rfl; rfl; rfl) | exact D_fldB rfl | (apply D_lenR; rfl) | (apply D_ixRn; rfl; rfl; (first | omega | (simp; done))) | (apply D_ixR; rfl; rfl; all_goals first | omega | ((repeat rw [w64 _ (by omega) (by omega)]); omega) | decide))
    | (refine idDg ?_; first | refine dg0t rfl rfl rfl ?_ | refine dg0f rfl rfl rfl ?_ | refine dg0u rfl rfl rfl ?_ | refine dgr rfl rfl ?_ | refine dgs rfl rfl (fun _ => ?_) (fun _ => ?_))
    | (refine idDn ?_; first | refine dL _ (fun hp' hs => D_loadB1 rfl (hs.trans rfl) rfl) rfl ?_ | refine dL _ (fun hp' hs => D_loadBA rfl (hs.trans rfl) rfl) rfl ?_ | refine dS (S_store rfl rfl rfl rfl rfl rfl rfl) rfl ?_ | refine dV (S_alloc 0 rfl) rfl rfl ?_ | refine dV (S_alloc 1 rfl) rfl rfl ?_ | refine dV (S_alloc 2 rfl) rfl rfl ?_ | refine dV (S_alloc 3 rfl) rfl rfl ?_ | refine dV (S_alloc 4 rfl) rfl rfl ?_ | refine dV (S_alloc 5 rfl) rfl rfl ?_ | refine dV (S_alloc 6 rfl) rfl rfl ?_ | refine dV (S_alloc 7 rfl) rfl rfl ?_)
    | refine WD_nil (by first | decide +kernel | kernel_rfl | rfl) ?_
  refine W_adoptG 3 2 38 rfl ?_
  have hml : ms.length = l.length := hpm.length_eq
  refine W_loopR (X := Nat) (fun i => [(3, rowA 2 (J (ms.take i)).length), (11, sl2 ms), (12, .sc (.int .i64 (ms.length : Int))), (13, .sc (.int .i64 (i : Int)))]) (fun i => [.dead, .dead, .row 2 38 ((J (ms.take i)).map sC)])
    (fun i => i ≤ ms.length) (fun i => ms.length - i) 0 (Nat.zero_le _) ⟨rfl, rfl, rfl, rfl, trivial⟩ rfl ?_
  intro i hi
  have hJ := J_take ms i
  have hlen : (J (ms.take i)).length ≤ i := by have := J_len (ms.take i); rw [List.length_take] at this; omega
  have hfin : ms.length ≤ i → J (ms.take i) = canS l := fun h => by rw [List.take_of_length_le h]; exact J_can hn hpm hpw
  generalize J (ms.take i) = O at *
  rcases snoc_cases O with rfl | ⟨o, p, rfl⟩
  · repeat' first
      | (apply p1 (hd := rfl); case hop => first | (apply D_move; rfl) | (apply D_assign; rfl) | exact D_lenG rfl | (apply D_load1; rfl) | (apply D_fld; rfl) | (apply D_pickT; rfl; rfl) | (apply D_pickF; rfl; rfl) | (apply D_int; rfl; rfl; rfl) | (apply D_lenM; rfl) | (apply D_len_sl; rfl) | (apply D_loadW; rfl; rfl) | (apply D_loadA; rfl; rfl) | (apply D_len_nil; rfl) | (apply D_idxAn; rfl; rfl; (first | omega | (simp; done))) | (apply D_idxA; rfl; rfl; omega; (first | omega | (simp; done) | (simp; omega))) | (apply D_idxA0; rfl; rfl; omega; (first | omega | (simp; done) | (simp; omega))) | (apply D_lit; rfl; rfl; rfl; rfl) | exact D_fldB rfl | (apply D_lenR; rfl) | (apply D_ixRn; rfl; rfl; (first | omega | (simp; done))) | (apply D_ixR; rfl; rfl; all_goals first | omega | ((repeat rw [w64 _ (by omega) (by omega)]); omega) | decide))
      | refine W_seq ?_
      | refine W_region ?_
      | (refine idC ?_; first | refine c1 rfl ?_ | refine c0 rfl ?_ | refine cs rfl (fun _ => ?_) (fun _ => ?_))
      | refine WL_nil ?_
      | (refine idG ?_; first | refine g0t rfl rfl rfl ?_ | refine g0f rfl rfl rfl ?_ | refine g0u rfl rfl rfl ?_ | refine gr rfl rfl ?_ | refine gs rfl rfl (fun _ => ?_) (fun _ => ?_) | refine grn rfl rfl ?_)
      | refine tn ?_
      | refine tr ?_
      | refine br ?_
      | refine bn ?_
      | refine te ?_
      | (refine idB ?_; first | refine bh rfl ?_ | refine bm rfl ?_)
      | refine W_skip ?_
      | refine W_block ?_
      | refine W_exit ?_
      | refine W_ret ?_
      | refine W_label ?_
      | refine W_scope ?_
      | refine sn ?_
      | refine sr ?_
      | refine se ?_
      | (refine idR ?_; first | refine ret1 rfl rfl rfl ?_ | refine rL1 rfl (by first | exact trivial | exact ⟨rfl, trivial⟩) (by first | exact ResO.tmp rfl | exact ResO.cellBA rfl rfl rfl | exact ResO.cellB1 rfl rfl rfl | exact ResO.cellEA rfl rfl | exact ResO.cellE1 rfl) ?_)
      | (refine idLd ?_; first | refine p1L (D_loadB1 rfl rfl rfl) rfl ?_ | refine p1L (D_loadBA rfl rfl rfl) rfl ?_ | refine p1L (D_loadB1 rfl (by (repeat first | assumption | exact get_last | (refine get_last2 ?_; focus (simp; done)) | apply get_set | apply get_app | (apply get_ne; focus omega) | (apply get_ne; focus (simp only [List.length_set, List.length_append, List.length_cons, List.length_nil]; omega))); done) (by rfl)) rfl ?_ | refine p1L (D_loadBA rfl (by (repeat first | assumption | exact get_last | (refine get_last2 ?_; focus (simp; done)) | apply get_set | apply get_app | (apply get_ne; focus omega) | (apply get_ne; focus (simp only [List.length_set, List.length_append, List.length_cons, List.length_nil]; omega))); done) (by rfl)) rfl ?_)
      | (refine idA ?_; first | refine m_var rfl rfl rfl rfl rfl rfl rfl ?_ | refine m_alloc rfl ?_)
      | (refine idS ?_; first | refine pS (S_store rfl rfl rfl rfl rfl rfl rfl) ?_ | refine pS (S_store rfl rfl rfl (by (repeat first | assumption | exact get_last | (refine get_last2 ?_; focus (simp; done)) | apply get_set | apply get_app | (apply get_ne; focus omega) | (apply get_ne; focus (simp only [List.length_set, List.length_append, List.length_cons, List.length_nil]; omega))); done) (by rfl) (by rfl) (by rfl)) ?_)
      | refine Le.bool ?_
      | refine Le.int ?_
      | refine Le.str ?_
      | (refine idAp ?_; refine m_app rfl rfl (by first | rfl | assumption | exact get_set (by assumption) | exact get_set (get_set (by assumption)) | exact get_set (get_set (get_set (by assumption))) | ((repeat first | assumption | exact get_last | (refine get_last2 ?_; focus (simp; done)) | apply get_set | apply get_app | (apply get_ne; focus omega)); done)) ?_ rfl rfl ?_ ?_ rfl ?_; (first | rfl | focus (simp only [List.length_map, List.length_append, List.length_cons, List.length_nil]; omega) | focus (simp; done) | focus (simp; omega)); (first | focus (simp only [List.length_map, List.length_append, List.length_cons, List.length_nil]; omega) | focus (simp; done) | focus (simp; omega)); (first | focus (simp only [List.length_map, List.length_append, List.length_cons, List.length_nil]; omega) | focus (simp; done) | focus (simp; omega)))
      | (refine idAp ?_; refine m_appB rfl rfl rfl (by first | rfl | assumption | exact get_set (by assumption) | exact get_set (get_set (by assumption)) | exact get_set (get_set (get_set (by assumption))) | ((repeat first | assumption | exact get_last | (refine get_last2 ?_; focus (simp; done)) | apply get_set | apply get_app | (apply get_ne; focus omega)); done)) ?_ rfl rfl ?_ ?_ rfl ?_; (first | rfl | focus (simp only [List.length_map, List.length_append, List.length_cons, List.length_nil]; omega) | focus (simp; done) | focus (simp; omega)); (first | focus (simp only [List.length_map, List.length_append, List.length_cons, List.length_nil]; omega) | focus (simp; done) | focus (simp; omega)); (first | focus (simp only [List.length_map, List.length_append, List.length_cons, List.length_nil]; omega) | focus (simp; done) | focus (simp; omega)))
      | (refine m_appG (d := 49) (els := []) rfl rfl rfl rfl (by simp) rfl (by simp) (by simp) rfl ?_)
      | (refine idW ?_; first | refine W_draw0 rfl ?_ | refine W_draw1 rfl ?_ | refine W_draw2 rfl ?_ | refine W_draw3 rfl ?_)
      | (apply d1 (hd := rfl); case hop => first | (apply D_move; rfl) | (apply D_assign; rfl) | exact D_lenG rfl | (apply D_load1; rfl) | (apply D_fld; rfl) | (apply D_pickT; rfl; rfl) | (apply D_pickF; rfl; rfl) | (apply D_int; rfl; rfl; rfl) | (apply D_lenM; rfl) | (apply D_len_sl; rfl) | (apply D_loadW; rfl; rfl) | (apply D_loadA; rfl; rfl) | (apply D_len_nil; rfl) | (apply D_idxAn; rfl; rfl; (first | omega | (simp; done))) | (apply D_idxA; rfl; rfl; omega; (first | omega | (simp; done) | (simp; omega))) | (apply D_idxA0; rfl; rfl; omega; (first | omega | (simp; done) | (simp; omega))) | (apply D_lit; rfl; rfl; rfl; rfl) | exact D_fldB rfl | (apply D_lenR; rfl) | (apply D_ixRn; rfl; rfl; (first | omega | (simp; done))) | (apply D_ixR; rfl; rfl; all_goals first | omega | ((repeat rw [w64 _ (by omega) (by omega)]); omega) | decide))
      | (refine idDg ?_; first | refine dg0t rfl rfl rfl ?_ | refine dg0f rfl rfl rfl ?_ | refine dg0u rfl rfl rfl ?_ | refine dgr rfl rfl ?_ | refine dgs rfl rfl (fun _ => ?_) (fun _ => ?_))
      | (refine idDn ?_; first | refine dL _ (fun hp' hs => D_loadB1 rfl (hs.trans rfl) rfl) rfl ?_ | refine dL _ (fun hp' hs => D_loadBA rfl (hs.trans rfl) rfl) rfl ?_ | refine dS (S_store rfl rfl rfl rfl rfl rfl rfl) rfl ?_ | refine dV (S_alloc 0 rfl) rfl rfl ?_ | refine dV (S_alloc 1 rfl) rfl rfl ?_ | refine dV (S_alloc 2 rfl) rfl rfl ?_ | refine dV (S_alloc 3 rfl) rfl rfl ?_ | refine dV (S_alloc 4 rfl) rfl rfl ?_ | refine dV (S_alloc 5 rfl) rfl rfl ?_ | refine dV (S_alloc 6 rfl) rfl rfl ?_ | refine dV (S_alloc 7 rfl) rfl rfl ?_)
      | refine WD_nil (by first | decide +kernel | kernel_rfl | rfl) ?_
    · exfalso; rename_i k1; simp at k1
    · rename_i k1 k2
      refine ⟨rfl, i + 1, by omega, by omega, [0, 1, 3], ren3 (by decide) (by decide) rfl rfl ?_ ⟨⟨_, rfl, ?_⟩, ⟨_, rfl, .pur⟩, ⟨_, rfl, .pur⟩, ⟨_, rfl, by rw [wsucc i (by omega)]; exact .pur⟩, trivial⟩⟩
      · rw [hJ (by omega), jn_nil]; rfl
      · rw [hJ (by omega), jn_nil]; exact mvRow rfl rfl
    · rename_i k1
      rw [← hfin (by omega)]; exact Le.row0
  · have hlo : (o ++ [p]).length = o.length + 1 := by simp
    rw [hlo] at hlen ⊢
    repeat' first
      | (refine dL 2 (fun hp' hs => D_ixRowN rfl (hs.trans rfl) (by simp) rfl (by omega)) rfl ?_)
      | (refine dL 2 (fun hp' hs => D_loadG1 rfl (hs.trans rfl) flat_get) rfl ?_)
      | (refine dS (S_storeG (r := 2) ((o ++ [(⟨p.f, max p.t (ms[i]'(by omega)).t⟩ : Sp)]).map sC) rfl rfl rfl rfl rfl rfl (by rw [flat2_len]; simp; omega) (by simp) sC_row flat_st (by simp)) rfl ?_)
      | (have hE : ms.length ≤ i := (by omega); refine WL_rowM 3 2 rfl rfl (by simp) (by simp) ?_; intro sp2; refine WL_frz 3 2 2 (els := (o ++ [p]).map sC) (sp := sp2) rfl rfl (by simp) sC_row ?_)
      | (apply p1 (hd := rfl); case hop => first | (apply D_move; rfl) | (apply D_assign; rfl) | exact D_lenG rfl | exact D_sub1 rfl rfl (by omega) | exact D_max rfl rfl | (apply D_load1; rfl) | (apply D_fld; rfl) | (apply D_pickT; rfl; rfl) | (apply D_pickF; rfl; rfl) | (apply D_int; rfl; rfl; rfl) | (apply D_lenM; rfl) | (apply D_len_sl; rfl) | (apply D_loadW; rfl; rfl) | (apply D_loadA; rfl; rfl) | (apply D_len_nil; rfl) | (apply D_idxAn; rfl; rfl; (first | omega | (simp; done))) | (apply D_idxA; rfl; rfl; omega; (first | omega | (simp; done) | (simp; omega))) | (apply D_idxA0; rfl; rfl; omega; (first | omega | (simp; done) | (simp; omega))) | (apply D_lit; rfl; rfl; rfl; rfl) | exact D_fldB rfl | (apply D_lenR; rfl) | (apply D_ixRn; rfl; rfl; (first | omega | (simp; done))) | (apply D_ixR; rfl; rfl; all_goals first | omega | ((repeat rw [w64 _ (by omega) (by omega)]); omega) | decide))
      | refine W_seq ?_
      | refine W_region ?_
      | (refine idC ?_; first | refine c1 rfl ?_ | refine c0 rfl ?_ | refine cs rfl (fun _ => ?_) (fun _ => ?_))
      | refine WL_nil ?_
      | (refine idG ?_; first | refine g0t rfl rfl rfl ?_ | refine g0f rfl rfl rfl ?_ | refine g0u rfl rfl rfl ?_ | refine gr rfl rfl ?_ | refine gs rfl rfl (fun _ => ?_) (fun _ => ?_) | refine grn rfl rfl ?_)
      | refine tn ?_
      | refine tr ?_
      | refine br ?_
      | refine bn ?_
      | refine te ?_
      | (refine idB ?_; first | refine bh rfl ?_ | refine bm rfl ?_)
      | refine W_skip ?_
      | refine W_block ?_
      | refine W_exit ?_
      | refine W_ret ?_
      | refine W_label ?_
      | refine W_scope ?_
      | refine sn ?_
      | refine sr ?_
      | refine se ?_
      | (refine idR ?_; first | refine ret1 rfl rfl rfl ?_ | refine rL1 rfl (by first | exact trivial | exact ⟨rfl, trivial⟩) (by first | exact ResO.tmp rfl | exact ResO.cellBA rfl rfl rfl | exact ResO.cellB1 rfl rfl rfl | exact ResO.cellEA rfl rfl | exact ResO.cellE1 rfl) ?_)
      | (refine idLd ?_; first | refine p1L (D_loadB1 rfl rfl rfl) rfl ?_ | refine p1L (D_loadBA rfl rfl rfl) rfl ?_ | refine p1L (D_loadB1 rfl (by (repeat first | assumption | exact get_last | (refine get_last2 ?_; focus (simp; done)) | apply get_set | apply get_app | (apply get_ne; focus omega) | (apply get_ne; focus (simp only [List.length_set, List.length_append, List.length_cons, List.length_nil]; omega))); done) (by rfl)) rfl ?_ | refine p1L (D_loadBA rfl (by (repeat first | assumption | exact get_last | (refine get_last2 ?_; focus (simp; done)) | apply get_set | apply get_app | (apply get_ne; focus omega) | (apply get_ne; focus (simp only [List.length_set, List.length_append, List.length_cons, List.length_nil]; omega))); done) (by rfl)) rfl ?_)
      | (refine idA ?_; first | refine m_var rfl rfl rfl rfl rfl rfl rfl ?_ | refine m_alloc rfl ?_)
      | (refine idS ?_; first | refine pS (S_store rfl rfl rfl rfl rfl rfl rfl) ?_ | refine pS (S_store rfl rfl rfl (by (repeat first | assumption | exact get_last | (refine get_last2 ?_; focus (simp; done)) | apply get_set | apply get_app | (apply get_ne; focus omega) | (apply get_ne; focus (simp only [List.length_set, List.length_append, List.length_cons, List.length_nil]; omega))); done) (by rfl) (by rfl) (by rfl)) ?_)
      | refine Le.bool ?_
      | refine Le.int ?_
      | refine Le.str ?_
      | (refine idAp ?_; refine m_app rfl rfl (by first | rfl | assumption | exact get_set (by assumption) | exact get_set (get_set (by assumption)) | exact get_set (get_set (get_set (by assumption))) | ((repeat first | assumption | exact get_last | (refine get_last2 ?_; focus (simp; done)) | apply get_set | apply get_app | (apply get_ne; focus omega)); done)) ?_ rfl rfl ?_ ?_ rfl ?_; (first | rfl | focus (simp only [List.length_map, List.length_append, List.length_cons, List.length_nil]; omega) | focus (simp; done) | focus (simp; omega)); (first | focus (simp only [List.length_map, List.length_append, List.length_cons, List.length_nil]; omega) | focus (simp; done) | focus (simp; omega)); (first | focus (simp only [List.length_map, List.length_append, List.length_cons, List.length_nil]; omega) | focus (simp; done) | focus (simp; omega)))
      | (refine idAp ?_; refine m_appB rfl rfl rfl (by first | rfl | assumption | exact get_set (by assumption) | exact get_set (get_set (by assumption)) | exact get_set (get_set (get_set (by assumption))) | ((repeat first | assumption | exact get_last | (refine get_last2 ?_; focus (simp; done)) | apply get_set | apply get_app | (apply get_ne; focus omega)); done)) ?_ rfl rfl ?_ ?_ rfl ?_; (first | rfl | focus (simp only [List.length_map, List.length_append, List.length_cons, List.length_nil]; omega) | focus (simp; done) | focus (simp; omega)); (first | focus (simp only [List.length_map, List.length_append, List.length_cons, List.length_nil]; omega) | focus (simp; done) | focus (simp; omega)); (first | focus (simp only [List.length_map, List.length_append, List.length_cons, List.length_nil]; omega) | focus (simp; done) | focus (simp; omega)))
      | (refine m_appG (d := 49) (els := (o ++ [p]).map sC) rfl rfl rfl (by simp) (by simp) rfl (by simp; omega) (by simp; omega) rfl ?_)
      | (refine idW ?_; first | refine W_draw0 rfl ?_ | refine W_draw1 rfl ?_ | refine W_draw2 rfl ?_ | refine W_draw3 rfl ?_)
      | (apply d1 (hd := rfl); case hop => first | (apply D_move; rfl) | (apply D_assign; rfl) | exact D_lenG rfl | exact D_sub1 rfl rfl (by omega) | exact D_max rfl rfl | (apply D_load1; rfl) | (apply D_fld; rfl) | (apply D_pickT; rfl; rfl) | (apply D_pickF; rfl; rfl) | (apply D_int; rfl; rfl; rfl) | (apply D_lenM; rfl) | (apply D_len_sl; rfl) | (apply D_loadW; rfl; rfl) | (apply D_loadA; rfl; rfl) | (apply D_len_nil; rfl) | (apply D_idxAn; rfl; rfl; (first | omega | (simp; done))) | (apply D_idxA; rfl; rfl; omega; (first | omega | (simp; done) | (simp; omega))) | (apply D_idxA0; rfl; rfl; omega; (first | omega | (simp; done) | (simp; omega))) | (apply D_lit; rfl; rfl; rfl; rfl) | exact D_fldB rfl | (apply D_lenR; rfl) | (apply D_ixRn; rfl; rfl; (first | omega | (simp; done))) | (apply D_ixR; rfl; rfl; all_goals first | omega | ((repeat rw [w64 _ (by omega) (by omega)]); omega) | decide))
      | (refine idDg ?_; first | refine dg0t rfl rfl rfl ?_ | refine dg0f rfl rfl rfl ?_ | refine dg0u rfl rfl rfl ?_ | refine dgr rfl rfl ?_ | refine dgs rfl rfl (fun _ => ?_) (fun _ => ?_))
      | (refine idDn ?_; first | refine dL _ (fun hp' hs => D_loadB1 rfl (hs.trans rfl) rfl) rfl ?_ | refine dL _ (fun hp' hs => D_loadBA rfl (hs.trans rfl) rfl) rfl ?_ | refine dS (S_store rfl rfl rfl rfl rfl rfl rfl) rfl ?_ | refine dV (S_alloc 0 rfl) rfl rfl ?_ | refine dV (S_alloc 1 rfl) rfl rfl ?_ | refine dV (S_alloc 2 rfl) rfl rfl ?_ | refine dV (S_alloc 3 rfl) rfl rfl ?_ | refine dV (S_alloc 4 rfl) rfl rfl ?_ | refine dV (S_alloc 5 rfl) rfl rfl ?_ | refine dV (S_alloc 6 rfl) rfl rfl ?_ | refine dV (S_alloc 7 rfl) rfl rfl ?_)
      | refine WD_nil (by first | decide +kernel | kernel_rfl | rfl) ?_
    · rename_i k1 k2 k3
      refine ⟨rfl, i + 1, by omega, by omega, [0, 1, 2], ren3 (by decide) (by decide) rfl rfl ?_ ⟨⟨_, rfl, ?_⟩, ⟨_, rfl, .pur⟩, ⟨_, rfl, .pur⟩, ⟨_, rfl, by rw [wsucc i (by omega)]; exact .pur⟩, trivial⟩⟩
      · rw [hJ (by omega), jn_snoc, if_pos k3]; rfl
      · rw [hJ (by omega), jn_snoc, if_pos k3]; exact mvRow rfl (by simp)
    · rename_i k1 k2 k3
      refine ⟨rfl, i + 1, by omega, by omega, [0, 1, 3], ren3 (by decide) (by decide) rfl rfl ?_ ⟨⟨_, rfl, ?_⟩, ⟨_, rfl, .pur⟩, ⟨_, rfl, .pur⟩, ⟨_, rfl, by rw [wsucc i (by omega)]; exact .pur⟩, trivial⟩⟩
      · rw [hJ (by omega), jn_snoc, if_neg (by omega), show ((o ++ [p]) ++ [ms[i]'(by omega)]).map sC = (o ++ [p]).map sC ++ [sC (ms[i]'(by omega))] by simp]; rfl
      · rw [hJ (by omega), jn_snoc, if_neg (by omega)]; exact mvRow rfl (by simp)
    · exfalso; rename_i k1 k2; omega
    · rename_i k1
      rw [← hfin (by omega), List.take_of_length_le (by simp)]
      exact Le.of_eq rfl
set_option maxHeartbeats 4000000 in
theorem make_pc [GlobF Tryd.prog] (l : List Sp) (hl : l.length < 8796093022208) : PC Tryd.prog 22 [sl2 l] (.tu [sl2 (if dP (neS l) then canS l else []), .sc (.int .i64 (if dP (neS l) then 0 else 30))]) := by
  by_cases h : neS l
  · have hc := conM_pc l (by omega)
    rw [← dP_F (fun e => e h)] at hc
    rw [← dP_T h]
    refine PC.of_body Tryd.func22 Tryd.ntmps22 rfl rfl rfl ?_
    repeat' first
      | (apply p1 (hd := rfl); case hop => first | (apply D_move; rfl) | (apply D_assign; rfl) | (apply D_pc hc; rfl; exact .same rfl (.same rfl .nil)) | (apply D_pc (joined_pc l h hl); rfl; exact .same rfl .nil))
      | refine W_seq ?_
      | refine W_region ?_
      | (refine idC ?_; first | refine c1 rfl ?_ | refine c0 rfl ?_ | refine cs rfl (fun _ => ?_) (fun _ => ?_))
      | refine WL_nil ?_
      | refine tn ?_
      | refine tr ?_
      | refine br ?_
      | refine bn ?_
      | refine te ?_
      | (refine idB ?_; first | refine bh rfl ?_ | refine bm rfl ?_)
      | refine W_skip ?_
      | refine W_block ?_
      | refine W_exit ?_
      | refine W_ret ?_
      | refine W_label ?_
      | refine W_scope ?_
      | refine sn ?_
      | refine sr ?_
      | refine se ?_
      | (refine idR ?_; first | refine ret2 rfl rfl rfl rfl ?_ ?_ | refine rL2 rfl (by first | exact trivial | exact ⟨rfl, trivial⟩) (by first | exact ResO.tmp rfl | exact ResO.cellBA rfl rfl rfl | exact ResO.cellB1 rfl rfl rfl | exact ResO.cellEA rfl rfl | exact ResO.cellE1 rfl) (by first | exact ResO.tmp rfl | exact ResO.cellBA rfl rfl rfl | exact ResO.cellB1 rfl rfl rfl | exact ResO.cellEA rfl rfl | exact ResO.cellE1 rfl) ?_ ?_)
      | refine Le.bool ?_
      | refine Le.int ?_
      | refine Le.str ?_
    all_goals first | rfl | contradiction | exact Le.of_eq rfl | skip
    all_goals trace_state
  · have hc := conM_pc l (by omega)
    rw [← dP_T h] at hc
    rw [← dP_F h]
    refine PC.of_body Tryd.func22 Tryd.ntmps22 rfl rfl rfl ?_
    repeat' first
      | (apply p1 (hd := rfl); case hop => first | (apply D_move; rfl) | (apply D_assign; rfl) | (apply D_pc hc; rfl; exact .same rfl (.same rfl .nil)))
      | refine W_seq ?_
      | refine W_region ?_
      | (refine idC ?_; first | refine c1 rfl ?_ | refine c0 rfl ?_ | refine cs rfl (fun _ => ?_) (fun _ => ?_))
      | refine WL_nil ?_
      | refine tn ?_
      | refine tr ?_
      | refine br ?_
      | refine bn ?_
      | refine te ?_
      | (refine idB ?_; first | refine bh rfl ?_ | refine bm rfl ?_)
      | refine W_skip ?_
      | refine W_block ?_
      | refine W_exit ?_
      | refine W_ret ?_
      | refine W_label ?_
      | refine W_scope ?_
      | refine sn ?_
      | refine sr ?_
      | refine se ?_
      | (refine idR ?_; first | refine ret2 rfl rfl rfl rfl ?_ ?_ | refine rL2 rfl (by first | exact trivial | exact ⟨rfl, trivial⟩) (by first | exact ResO.tmp rfl | exact ResO.cellBA rfl rfl rfl | exact ResO.cellB1 rfl rfl rfl | exact ResO.cellEA rfl rfl | exact ResO.cellE1 rfl) (by first | exact ResO.tmp rfl | exact ResO.cellBA rfl rfl rfl | exact ResO.cellB1 rfl rfl rfl | exact ResO.cellEA rfl rfl | exact ResO.cellE1 rfl) ?_ ?_)
      | refine Le.bool ?_
      | refine Le.int ?_
      | refine Le.str ?_
    all_goals first | rfl | contradiction | exact Le.nil rfl | skip
    all_goals trace_state
abbrev exL : List Sp := [⟨5, 9⟩, ⟨1, 3⟩, ⟨3, 4⟩, ⟨8, 10⟩]
theorem ex_ne : neS exL := fun s hs => by
  simp only [List.mem_cons, List.not_mem_nil, or_false] at hs
  rcases hs with rfl | rfl | rfl | rfl <;> decide
theorem ex_can : canS exL = [⟨1, 4⟩, ⟨5, 10⟩] := by
  obtain ⟨k1, k2⟩ := canS_ok ex_ne
  refine set_ext k1 (setP_cons.2 ⟨by decide, fun r hr => by rw [List.mem_singleton.1 hr]; decide, setP_one (by decide)⟩) fun x => ?_
  rw [k2]
  simp only [inS_cons, show ∀ x, inS [] x = False from fun x => eq_false (inS_nil x), or_false]
  omega
set_option maxHeartbeats 8000000 in
theorem salive_pc [GlobF Tryd.prog] : PC Tryd.prog 10 [] (.sc (.bool true)) := by
  have hm := make_pc exL (by decide)
  rw [← dP_T ex_ne, if_pos rfl, if_pos rfl, ex_can] at hm
  refine PC.of_body Tryd.func10 Tryd.ntmps10 rfl rfl rfl ?_
  repeat' first
    | (apply p1 (hd := rfl); case hop => first | (apply D_move; rfl) | (apply D_assign; rfl) | (apply D_pc hm; rfl; exact .same rfl .nil) | (apply D_load1; rfl) | (apply D_pickT; rfl; rfl) | (apply D_pickF; rfl; rfl) | (apply D_int; rfl; rfl; rfl) | (apply D_lenM; rfl) | (apply D_len_sl; rfl) | (apply D_ext; rfl; rfl) | (apply D_loadW; rfl; rfl) | (apply D_loadA; rfl; rfl) | (apply D_len_nil; rfl) | (apply D_idxAn; rfl; rfl; (first | omega | (simp; done))) | (apply D_idxA; rfl; rfl; omega; (first | omega | (simp; done) | (simp; omega))) | (apply D_idxA0; rfl; rfl; omega; (first | omega | (simp; done) | (simp; omega))) | (apply D_lit; rfl; rfl; rfl; rfl) | exact D_build rfl | exact D_buildA rfl | (apply D_lenR; rfl) | (apply D_ixRn; rfl; rfl; (first | omega | (simp; done))) | (apply D_ixR; rfl; rfl; all_goals first | omega | ((repeat rw [w64 _ (by omega) (by omega)]); omega) | decide) | exact D_eqA rfl rfl rfl rfl rfl rfl rfl | exact D_neA rfl rfl rfl rfl rfl rfl rfl)
    | refine W_seq ?_
    | refine W_region ?_
    | refine WL_nil ?_
    | (refine idG ?_; first | refine g0t rfl rfl rfl ?_ | refine g0f rfl rfl rfl ?_ | refine g0u rfl rfl rfl ?_ | refine gr rfl rfl ?_ | refine gs rfl rfl (fun _ => ?_) (fun _ => ?_) | refine grn rfl rfl ?_)
    | refine tn ?_
    | refine tr ?_
    | refine br ?_
    | refine bn ?_
    | refine te ?_
    | (refine idB ?_; first | refine bh rfl ?_ | refine bm rfl ?_)
    | refine W_skip ?_
    | refine W_block ?_
    | refine W_exit ?_
    | refine W_ret ?_
    | refine W_label ?_
    | refine W_scope ?_
    | refine sn ?_
    | refine sr ?_
    | refine se ?_
    | (refine idR ?_; first | refine ret1 rfl rfl rfl ?_ | refine rL1 rfl (by first | exact trivial | exact ⟨rfl, trivial⟩) (by first | exact ResO.tmp rfl | exact ResO.cellBA rfl rfl rfl | exact ResO.cellB1 rfl rfl rfl | exact ResO.cellEA rfl rfl | exact ResO.cellE1 rfl) ?_)
    | refine Le.bool ?_
    | refine Le.int ?_
    | refine Le.str ?_
  all_goals first | rfl | contradiction | (rw [lEq_t]; rfl) | skip
  all_goals trace_state
theorem encS_inj {a b : Sp} (h : [Value.int IntKind.i64 a.f, Value.int IntKind.i64 a.t] = [Value.int IntKind.i64 b.f, Value.int IntKind.i64 b.t]) : a = b := by
  simp at h
  exact Sp.ext' h.1 h.2
set_option maxHeartbeats 4000000 in
theorem ssame_pc [GlobF Tryd.prog] (a b : List Sp) (ha : a.length < 4611686018427387904) : PC Tryd.prog 9 [sl2 a, sl2 b] (.sc (.bool (dP (a = b)))) := by
  refine PC.of_body Tryd.func9 Tryd.ntmps9 rfl rfl rfl ?_
  repeat' first
    | (apply p1 (hd := rfl); case hop => first | (apply D_move; rfl) | (apply D_assign; rfl) | (apply D_load1; rfl) | (apply D_int; rfl; rfl; rfl) | (apply D_lenM; rfl) | (apply D_len_sl; rfl) | (apply D_loadW; rfl; rfl) | (apply D_loadA; rfl; rfl) | (apply D_len_nil; rfl) | (apply D_idxAn; rfl; rfl; (first | omega | (simp; done))) | (apply D_idxA; rfl; rfl; omega; (first | omega | (simp; done) | (simp; omega))) | (apply D_idxA0; rfl; rfl; omega; (first | omega | (simp; done) | (simp; omega))) | (apply D_lenR; rfl) | (apply D_ixRn; rfl; rfl; (first | omega | (simp; done))) | (apply D_ixR; rfl; rfl; all_goals first | omega | ((repeat rw [w64 _ (by omega) (by omega)]); omega) | decide) | exact D_eqA rfl rfl rfl rfl rfl rfl rfl | exact D_neA rfl rfl rfl rfl rfl rfl rfl)
    | refine W_seq ?_
    | refine W_region ?_
    | (refine idC ?_; first | refine c1 rfl ?_ | refine c0 rfl ?_ | refine cs rfl (fun _ => ?_) (fun _ => ?_))
    | refine WL_nil ?_
    | refine tn ?_
    | refine tr ?_
    | refine br ?_
    | refine bn ?_
    | refine te ?_
    | (refine idB ?_; first | refine bh rfl ?_ | refine bm rfl ?_)
    | refine W_skip ?_
    | refine W_block ?_
    | refine W_exit ?_
    | refine W_ret ?_
    | refine W_label ?_
    | refine W_scope ?_
    | refine sn ?_
    | refine sr ?_
    | refine se ?_
    | (refine idR ?_; first | refine ret1 rfl rfl rfl ?_ | refine rL1 rfl (by first | exact trivial | exact ⟨rfl, trivial⟩) (by first | exact ResO.tmp rfl | exact ResO.cellBA rfl rfl rfl | exact ResO.cellB1 rfl rfl rfl | exact ResO.cellEA rfl rfl | exact ResO.cellE1 rfl) ?_)
    | refine Le.bool ?_
    | refine Le.int ?_
    | refine Le.str ?_
    | (refine idW ?_; first | refine W_draw0 rfl ?_ | refine W_draw1 rfl ?_ | refine W_draw2 rfl ?_ | refine W_draw3 rfl ?_)
    | (apply d1 (hd := rfl); case hop => first | (apply D_move; rfl) | (apply D_assign; rfl) | (apply D_load1; rfl) | (apply D_int; rfl; rfl; rfl) | (apply D_lenM; rfl) | (apply D_len_sl; rfl) | (apply D_loadW; rfl; rfl) | (apply D_loadA; rfl; rfl) | (apply D_len_nil; rfl) | (apply D_idxAn; rfl; rfl; (first | omega | (simp; done))) | (apply D_idxA; rfl; rfl; omega; (first | omega | (simp; done) | (simp; omega))) | (apply D_idxA0; rfl; rfl; omega; (first | omega | (simp; done) | (simp; omega))) | (apply D_lenR; rfl) | (apply D_ixRn; rfl; rfl; (first | omega | (simp; done))) | (apply D_ixR; rfl; rfl; all_goals first | omega | ((repeat rw [w64 _ (by omega) (by omega)]); omega) | decide) | exact D_eqA rfl rfl rfl rfl rfl rfl rfl | exact D_neA rfl rfl rfl rfl rfl rfl rfl)
    | (refine idDn ?_; first | refine dL _ (fun hp' hs => D_loadB1 rfl (hs.trans rfl) rfl) rfl ?_ | refine dL _ (fun hp' hs => D_loadBA rfl (hs.trans rfl) rfl) rfl ?_ | refine dS (S_store rfl rfl rfl rfl rfl rfl rfl) rfl ?_ | refine dV (S_alloc 0 rfl) rfl rfl ?_ | refine dV (S_alloc 1 rfl) rfl rfl ?_ | refine dV (S_alloc 2 rfl) rfl rfl ?_ | refine dV (S_alloc 3 rfl) rfl rfl ?_ | refine dV (S_alloc 4 rfl) rfl rfl ?_ | refine dV (S_alloc 5 rfl) rfl rfl ?_ | refine dV (S_alloc 6 rfl) rfl rfl ?_ | refine dV (S_alloc 7 rfl) rfl rfl ?_)
    | refine WD_nil (by first | decide +kernel | kernel_rfl | rfl) ?_
  · rename_i h1
    exact dP_F fun e => h1 (by rw [e])
  rename_i h1
  have hl : a.length = b.length := by omega
  refine W_loopL (X := Nat) (fun i => [(0, sl2 a), (1, sl2 b), (5, .sc (.int .i64 (i : Int)))]) (fun _ => [])
    (fun i => i ≤ a.length ∧ ∀ (j : Nat) (h : j < a.length) (h' : j < b.length), j < i → a[j] = b[j]) (fun i => a.length - i) 0 ⟨Nat.zero_le _, fun j h h' hj => absurd hj (Nat.not_lt_zero j)⟩ ⟨rfl, rfl, rfl, trivial⟩ rfl ?_
  rintro i ⟨hi, hz⟩
  repeat' first
    | (apply p1 (hd := rfl); case hop => first | (apply D_move; rfl) | (apply D_assign; rfl) | (apply D_load1; rfl) | (apply D_int; rfl; rfl; rfl) | (apply D_lenM; rfl) | (apply D_len_sl; rfl) | (apply D_loadW; rfl; rfl) | (apply D_loadA; rfl; rfl) | (apply D_len_nil; rfl) | (apply D_idxAn; rfl; rfl; (first | omega | (simp; done))) | (apply D_idxA; rfl; rfl; omega; (first | omega | (simp; done) | (simp; omega))) | (apply D_idxA0; rfl; rfl; omega; (first | omega | (simp; done) | (simp; omega))) | (apply D_lenR; rfl) | (apply D_ixRn; rfl; rfl; (first | omega | (simp; done))) | (apply D_ixR; rfl; rfl; all_goals first | omega | ((repeat rw [w64 _ (by omega) (by omega)]); omega) | decide) | exact D_eqA rfl rfl rfl rfl rfl rfl rfl | exact D_neA rfl rfl rfl rfl rfl rfl rfl)
    | refine W_seq ?_
    | refine W_region ?_
    | (refine idC ?_; first | refine c1 rfl ?_ | refine c0 rfl ?_ | refine cs rfl (fun _ => ?_) (fun _ => ?_))
    | refine WL_nil ?_
    | refine tn ?_
    | refine tr ?_
    | refine br ?_
    | refine bn ?_
    | refine te ?_
    | (refine idB ?_; first | refine bh rfl ?_ | refine bm rfl ?_)
    | refine W_skip ?_
    | refine W_block ?_
    | refine W_exit ?_
    | refine W_ret ?_
    | refine W_label ?_
    | refine W_scope ?_
    | refine sn ?_
    | refine sr ?_
    | refine se ?_
    | (refine idR ?_; first | refine ret1 rfl rfl rfl ?_ | refine rL1 rfl (by first | exact trivial | exact ⟨rfl, trivial⟩) (by first | exact ResO.tmp rfl | exact ResO.cellBA rfl rfl rfl | exact ResO.cellB1 rfl rfl rfl | exact ResO.cellEA rfl rfl | exact ResO.cellE1 rfl) ?_)
    | refine Le.bool ?_
    | refine Le.int ?_
    | refine Le.str ?_
    | (refine idW ?_; first | refine W_draw0 rfl ?_ | refine W_draw1 rfl ?_ | refine W_draw2 rfl ?_ | refine W_draw3 rfl ?_)
    | (apply d1 (hd := rfl); case hop => first | (apply D_move; rfl) | (apply D_assign; rfl) | (apply D_load1; rfl) | (apply D_int; rfl; rfl; rfl) | (apply D_lenM; rfl) | (apply D_len_sl; rfl) | (apply D_loadW; rfl; rfl) | (apply D_loadA; rfl; rfl) | (apply D_len_nil; rfl) | (apply D_idxAn; rfl; rfl; (first | omega | (simp; done))) | (apply D_idxA; rfl; rfl; omega; (first | omega | (simp; done) | (simp; omega))) | (apply D_idxA0; rfl; rfl; omega; (first | omega | (simp; done) | (simp; omega))) | (apply D_lenR; rfl) | (apply D_ixRn; rfl; rfl; (first | omega | (simp; done))) | (apply D_ixR; rfl; rfl; all_goals first | omega | ((repeat rw [w64 _ (by omega) (by omega)]); omega) | decide) | exact D_eqA rfl rfl rfl rfl rfl rfl rfl | exact D_neA rfl rfl rfl rfl rfl rfl rfl)
    | (refine idDn ?_; first | refine dL _ (fun hp' hs => D_loadB1 rfl (hs.trans rfl) rfl) rfl ?_ | refine dL _ (fun hp' hs => D_loadBA rfl (hs.trans rfl) rfl) rfl ?_ | refine dS (S_store rfl rfl rfl rfl rfl rfl rfl) rfl ?_ | refine dV (S_alloc 0 rfl) rfl rfl ?_ | refine dV (S_alloc 1 rfl) rfl rfl ?_ | refine dV (S_alloc 2 rfl) rfl rfl ?_ | refine dV (S_alloc 3 rfl) rfl rfl ?_ | refine dV (S_alloc 4 rfl) rfl rfl ?_ | refine dV (S_alloc 5 rfl) rfl rfl ?_ | refine dV (S_alloc 6 rfl) rfl rfl ?_ | refine dV (S_alloc 7 rfl) rfl rfl ?_)
    | refine WD_nil (by first | decide +kernel | kernel_rfl | rfl) ?_
  · rename_i hx
    exact dP_F fun e => hx (by subst e; rfl)
  · rename_i hx
    refine ⟨rfl, i + 1, ⟨by omega, fun j h h' hj => ?_⟩, by omega, ⟨rfl, rfl, ieq (wsucc i (by omega)), trivial⟩, rfl⟩
    by_cases e : j = i
    · subst e; exact encS_inj hx
    · exact hz j h h' (by omega)
  · exact dP_T (List.ext_getElem hl fun j h h' => hz j h h' (by omega))
end Go.Proofs
