/- Contracts of the sets of instants: what is one; what a function says of spans; copies. -/
import Derived.Test.YtfnmipagllofiaaGreatFQTV2
import Derived.Test.YtfnmipagllofiaaGreatPSp2
import Derived.Test.YtfnmipagllofiaaGreatOps23
import Derived.Test.YtfnmipagllofiaaGreatOps17
namespace Go.Proofs
open Go.AL
attribute [local irreducible] Go.AL.W Go.AL.WL Go.AL.WD Go.AL.POp Go.AL.PPOp Go.AL.POpS Go.AL.PC Go.AL.AC Go.AL.YW Go.AL.Ret Go.AL.Le Go.AL.thn Go.AL.inBlk Go.AL.scp
theorem renN {rg rg' : List (Nat × AV)} {h : List AObj} (hr : RenL [] rg rg') : Ren ⟨[], 0⟩ [] rg h rg' [] := ⟨List.nodup_nil, fun r hr => absurd hr (Nat.not_lt_zero r), fun r hr => (by cases hr), hr, trivial⟩
abbrev sC (s : Sp) : List AV := [.sc (.int .i64 s.f), .sc (.int .i64 s.t)]
abbrev eS (s : Sp) : AV := .ag (sC s)
theorem sC_row {l : List Sp} : ∀ e, e ∈ l.map sC → e.length = 2 := fun e he => by obtain ⟨a, _, rfl⟩ := List.mem_map.1 he; rfl
abbrev sl2 (l : List Sp) : AV := .sl none 2 (l.map sC)
theorem dP_T {p : Prop} (h : p) : true = dP p := (dP_t.mpr h).symm
theorem dP_F {p : Prop} (h : ¬ p) : false = dP p := (dP_f.mpr h).symm
theorem dPc {p q : Prop} (h : p ↔ q) : dP p = dP q := by rw [propext h]
theorem setN {l : List Sp} (i : Nat) (hi : i < l.length) (h : l[i].t ≤ l[i].f ∨ ∃ h0 : 0 < i, l[i].f ≤ (l[i - 1]'(by omega)).t) : ¬ SetP l := fun hs => by
  have := (setI_iff l).2 hs i hi
  rcases h with h | ⟨h0, h⟩
  · omega
  · have := this.2 h0; omega
set_option maxHeartbeats 4000000 in
theorem set_pc [GlobF Tryz.prog] (l : List Sp) (hl : l.length < 4611686018427387904) : PC Tryz.prog 64 [sl2 l] (.sc (.bool (dP (SetP l)))) := by
  refine PC.of_body Tryz.func64 Tryz.ntmps64 rfl rfl rfl ?_
  repeat' first
    | (apply p1 (hd := rfl); case hop => first | (apply D_move; rfl) | (apply D_assign; rfl) | (apply D_lenM; rfl))
    | refine W_seq ?_
    | refine W_region ?_
    | refine WL_nil ?_
    | refine tn ?_
    | refine W_block ?_
    | fail
  refine W_loopR (X := Nat) (fun i => [(0, sl2 l), (5, sl2 l), (6, .sc (.int .i64 l.length)), (7, .sc (.int .i64 (i : Int)))]) (fun _ => [])
    (fun i => i ≤ l.length ∧ ∀ (j : Nat) (h : j < l.length), j < i → l[j].f < l[j].t ∧ ∀ h0 : 0 < j, (l[j - 1]'(by omega)).t < l[j].f) (fun i => l.length - i) 0 ⟨by omega, fun j h h' => by omega⟩ ⟨rfl, rfl, rfl, rfl, trivial⟩ rfl ?_
  rintro i ⟨hi, hz⟩
  have hnext : ∀ (h : i < l.length), l[i].f < l[i].t → (∀ h0 : 0 < i, (l[i - 1]'(by omega)).t < l[i].f) → ∀ (j : Nat) (h : j < l.length), j < i + 1 → l[j].f < l[j].t ∧ ∀ h0 : 0 < j, (l[j - 1]'(by omega)).t < l[j].f := fun h k1 k2 j hj hji => by
    by_cases e : j = i
    · subst e; exact ⟨k1, k2⟩
    · exact hz j hj (by omega)
  have hend : l.length ≤ i → true = dP (SetP l) := fun h => dP_T ((setI_iff l).1 fun j hj => hz j hj (by omega))
  by_cases h0 : i = 0
  · subst h0
    repeat' first
      | (apply p1 (hd := rfl); case hop => first | (apply D_move; rfl) | (apply D_assign; rfl) | (apply D_int; rfl; rfl; rfl) | (apply D_loadW; rfl; rfl) | (apply D_idxAn; rfl; rfl; (first | omega | (simp; done))))
      | refine W_seq ?_
      | refine W_region ?_
      | (refine idC ?_; first | refine c1 rfl ?_ | refine c0 rfl ?_ | refine cs rfl (fun _ => ?_) (fun _ => ?_))
      | refine WL_nil ?_
      | refine tn ?_
      | refine tr ?_
      | refine br ?_
      | refine bn ?_
      | refine te ?_
      | (refine idB ?_; refine bh rfl ?_)
      | refine W_skip ?_
      | refine W_block ?_
      | refine W_exit ?_
      | refine W_ret ?_
      | (refine idR ?_; refine ret1 rfl rfl rfl ?_)
      | (refine idA ?_; refine m_alloc rfl ?_)
      | (refine idS ?_; refine pS (S_store rfl rfl rfl rfl rfl rfl rfl) ?_)
      | refine Le.bool ?_
      | (refine idW ?_; refine W_draw0 rfl ?_)
      | (apply d1 (hd := rfl); case hop => first | (apply D_move; rfl) | (apply D_load1; rfl) | (apply D_fld; rfl) | (apply D_pickT; rfl; rfl) | (apply D_pickF; rfl; rfl) | (apply D_int; rfl; rfl; rfl) | (apply D_idxA; rfl; rfl; omega; (first | omega | (simp; done) | (simp; omega))) | exact D_fldB rfl)
      | (refine idDg ?_; first | refine dg0t rfl rfl rfl ?_ | refine dg0f rfl rfl rfl ?_ | refine dg0u rfl rfl rfl ?_ | refine dgr rfl rfl ?_ | refine dgs rfl rfl (fun _ => ?_) (fun _ => ?_))
      | (refine idDn ?_; refine dL _ (fun hp' hs => D_loadB1 rfl (hs.trans rfl) rfl) rfl ?_)
      | refine WD_nil (by first | decide +kernel | kernel_rfl | rfl) ?_
      | fail
    · rename_i k1 k2
      exact dP_F (setN 0 (by omega) (.inl k2))
    · exfalso; omega
    · exfalso; omega
    · rename_i k1 k2 k3
      exact ⟨rfl, 0 + 1, ⟨by omega, hnext (by omega) k2 (fun h => by omega)⟩, by omega, [], renN ⟨⟨_, rfl, .pur⟩, ⟨_, rfl, .pur⟩, ⟨_, rfl, .pur⟩, ⟨_, rfl, by rw [wsucc 0 (by omega)]; exact .pur⟩, trivial⟩⟩
    · exact hend (by omega)
  · have hsub : IntKind.i64.wrap ((i : Int) - 1) = ((i - 1 : Nat) : Int) := by rw [w64 _ (by omega) (by omega)]; omega
    have hix : (IntKind.i64.wrap ((i : Int) - 1)).toNat = i - 1 := by rw [hsub]; rfl
    repeat' first
      | (apply p1 (hd := rfl); case hop => first | (apply D_move; rfl) | (apply D_assign; rfl) | (apply D_int; rfl; rfl; rfl) | (apply D_loadW; rfl; rfl) | (apply D_idxAn; rfl; rfl; (first | omega | (simp; done))))
      | refine W_seq ?_
      | refine W_region ?_
      | (refine idC ?_; first | refine c1 rfl ?_ | refine c0 rfl ?_ | refine cs rfl (fun _ => ?_) (fun _ => ?_))
      | refine WL_nil ?_
      | refine tn ?_
      | refine tr ?_
      | refine br ?_
      | refine bn ?_
      | refine te ?_
      | (refine idB ?_; refine bh rfl ?_)
      | refine W_skip ?_
      | refine W_block ?_
      | refine W_exit ?_
      | refine W_ret ?_
      | (refine idR ?_; refine ret1 rfl rfl rfl ?_)
      | (refine idA ?_; refine m_alloc rfl ?_)
      | (refine idS ?_; refine pS (S_store rfl rfl rfl rfl rfl rfl rfl) ?_)
      | refine Le.bool ?_
      | (refine idW ?_; refine W_draw0 rfl ?_)
      | (apply d1 (hd := rfl); case hop => first | (apply D_move; rfl) | (apply D_load1; rfl) | (apply D_fld; rfl) | (apply D_pickT; rfl; rfl) | (apply D_pickF; rfl; rfl) | (apply D_int; rfl; rfl; rfl) | (apply D_idxA; rfl; rfl; omega; (first | omega | (simp; done) | (simp; omega))) | exact D_fldB rfl)
      | (refine idDg ?_; first | refine dg0t rfl rfl rfl ?_ | refine dg0f rfl rfl rfl ?_ | refine dg0u rfl rfl rfl ?_ | refine dgr rfl rfl ?_ | refine dgs rfl rfl (fun _ => ?_) (fun _ => ?_))
      | (refine idDn ?_; refine dL _ (fun hp' hs => D_loadB1 rfl (hs.trans rfl) rfl) rfl ?_)
      | refine WD_nil (by first | decide +kernel | kernel_rfl | rfl) ?_
      | fail
    · rename_i k1 k2
      exact dP_F (setN i (by omega) (.inl k2))
    · rename_i k1 k2 k3 k4
      simp only [hix] at k4
      exact dP_F (setN i (by omega) (.inr ⟨by omega, k4⟩))
    · rename_i k1 k2 k3 k4
      simp only [hix] at k4
      exact ⟨rfl, i + 1, ⟨by omega, hnext (by omega) k2 (fun _ => k4)⟩, by omega, [], renN ⟨⟨_, rfl, .pur⟩, ⟨_, rfl, .pur⟩, ⟨_, rfl, .pur⟩, ⟨_, rfl, by rw [wsucc i (by omega)]; exact .pur⟩, trivial⟩⟩
    · exfalso; omega
    · exact hend (by omega)
set_option maxHeartbeats 4000000 in
theorem has1_pc [GlobF Tryz.prog] (s : Sp) (at_ : Int) : PC Tryz.prog 66 [eS s, .ep [.sc (.int .i64 at_)]] (.sc (.bool (dP (s.f ≤ at_ ∧ at_ < s.t)))) := by
  refine PC.of_body Tryz.func66 Tryz.ntmps66 rfl rfl rfl ?_
  repeat' first
    | (apply p1 (hd := rfl); case hop => first | (apply D_move; rfl) | (apply D_assign; rfl) | (apply D_load1; rfl) | (apply D_fld; rfl) | (apply D_pickT; rfl; rfl) | (apply D_pickF; rfl; rfl) | (apply D_int; rfl; rfl; rfl) | (apply D_box; rfl; rfl))
    | refine W_seq ?_
    | refine W_region ?_
    | refine WL_nil ?_
    | (refine idG ?_; first | refine g0t rfl rfl rfl ?_ | refine gr rfl rfl ?_ | refine gs rfl rfl (fun _ => ?_) (fun _ => ?_))
    | refine tn ?_
    | refine W_ret ?_
    | (refine idR ?_; refine ret1 rfl rfl rfl ?_)
    | refine Le.bool ?_
    | fail
  all_goals first
    | (refine dP_eq ?_; simp [iLe_t, iLt_t, *]; done)
    | (refine dP_F ?_; omega)
    | skip
set_option maxHeartbeats 4000000 in
theorem make1_pc [GlobF Tryz.prog] (s : Sp) : PC Tryz.prog 130 [eS s] (.sc (.bool (dP (s.t ≤ s.f)))) := by
  refine PC.of_body Tryz.func130 Tryz.ntmps130 rfl rfl rfl ?_
  repeat' first
    | (apply p1 (hd := rfl); case hop => first | (apply D_assign; rfl) | (apply D_load1; rfl) | (apply D_fld; rfl) | (apply D_int; rfl; rfl; rfl) | (apply D_box; rfl; rfl))
    | refine W_seq ?_
    | refine W_region ?_
    | refine WL_nil ?_
    | refine tn ?_
    | refine W_ret ?_
    | (refine idR ?_; refine ret1 rfl rfl rfl ?_)
    | refine Le.bool ?_
    | fail
  all_goals first
    | (refine dP_eq ?_; simp [iLe_t, iLt_t, *]; done)
    | skip
set_option maxHeartbeats 4000000 in
theorem joined1_pc [GlobF Tryz.prog] (a b : Sp) : PC Tryz.prog 132 [eS a, eS b] (.sc (.int .i64 (cmpI a.f b.f))) := by
  refine PC.of_body Tryz.func132 Tryz.ntmps132 rfl rfl rfl ?_
  repeat' first
    | (apply p1 (hd := rfl); case hop => first | (apply D_assign; rfl) | (apply D_pc (cmpInt64_pc _ _); rfl; exact .same rfl (.same rfl .nil)) | (apply D_load1; rfl) | (apply D_fld; rfl) | (apply D_box; rfl; rfl))
    | refine W_seq ?_
    | refine W_region ?_
    | refine WL_nil ?_
    | refine tn ?_
    | refine W_ret ?_
    | (refine idR ?_; refine ret1 rfl rfl rfl ?_)
    | refine Le.int ?_
    | fail
  all_goals rfl
open Classical in
noncomputable def idxS (p : Sp → Prop) : List Sp → Int
  | [] => -1
  | s :: l => if p s then 0 else if idxS p l = -1 then -1 else idxS p l + 1
theorem idxS_lo (p : Sp → Prop) : ∀ l, -1 ≤ idxS p l
  | [] => Int.le_refl _
  | s :: l => by
    have := idxS_lo p l
    unfold idxS; split
    · omega
    · split <;> omega
theorem idxS_at (p : Sp → Prop) : ∀ (l : List Sp) (n : Nat) (hn : n < l.length), (∀ (j : Nat) (h : j < l.length), j < n → ¬ p l[j]) → p l[n] → idxS p l = n
  | [], n, hn, _, _ => by simp at hn
  | s :: l, 0, hn, _, h => by unfold idxS; rw [if_pos (by simpa using h)]; rfl
  | s :: l, n + 1, hn, h0, h => by
    have := idxS_at p l n (by simpa using hn) (fun j hj hjn => by have := h0 (j + 1) (by simpa using hj) (by omega); simpa using this) (by simpa using h)
    unfold idxS; rw [if_neg (by have := h0 0 (by simp) (by omega); simpa using this), this, if_neg (by omega)]; omega
theorem idxS_no (p : Sp → Prop) : ∀ (l : List Sp), (∀ (j : Nat) (h : j < l.length), ¬ p l[j]) → idxS p l = -1
  | [], _ => rfl
  | s :: l, h => by
    have := idxS_no p l (fun j hj => by have := h (j + 1) (by simpa using hj); simpa using this)
    unfold idxS; rw [if_neg (by have := h 0 (by simp); simpa using this), if_pos this]
theorem idxS_ge {p : Sp → Prop} {l : List Sp} : 0 ≤ idxS p l ↔ ∃ s, s ∈ l ∧ p s := by
  induction l with
  | nil => simp [idxS]
  | cons s l ih =>
    have lo := idxS_lo p l
    unfold idxS
    by_cases h : p s
    · rw [if_pos h]; exact ⟨fun _ => ⟨s, List.mem_cons_self, h⟩, fun _ => Int.le_refl _⟩
    · rw [if_neg h]
      constructor
      · intro e
        split at e
        · omega
        · obtain ⟨r, hr, h⟩ := ih.1 (by omega); exact ⟨r, List.mem_cons_of_mem _ hr, h⟩
      · rintro ⟨r, hr, h2⟩
        rcases List.mem_cons.1 hr with rfl | hr
        · exact absurd h2 h
        · have := ih.2 ⟨r, hr, h2⟩
          rw [if_neg (by omega)]; omega
set_option maxHeartbeats 4000000 in
theorem idxF_pc [GlobF Tryz.prog] (l : List Sp) (hl : l.length < 4611686018427387904) (at_ : Int) : PC Tryz.prog 92 [sl2 l, .fn (.func 66) [] [.ep [.sc (.int .i64 at_)]]] (.sc (.int .i64 (idxS (fun s => s.f ≤ at_ ∧ at_ < s.t) l))) := by
  refine PC.of_body Tryz.func92 Tryz.ntmps92 rfl rfl rfl ?_
  repeat' first
    | (apply p1 (hd := rfl); case hop => first | (apply D_move; rfl) | (apply D_assign; rfl) | (apply D_lenM; rfl))
    | refine W_seq ?_
    | refine W_region ?_
    | refine WL_nil ?_
    | refine tn ?_
    | refine W_block ?_
    | fail
  refine W_loopL (X := Nat) (fun i => [(0, sl2 l), (1, .fn (.func 66) [] [.ep [.sc (.int .i64 at_)]]), (7, .sc (.int .i64 l.length)), (8, .sc (.int .i64 (i : Int)))]) (fun _ => [])
    (fun i => i ≤ l.length ∧ ∀ (j : Nat) (h : j < l.length), j < i → ¬ (l[j].f ≤ at_ ∧ at_ < l[j].t)) (fun i => l.length - i) 0 ⟨by omega, fun j h h' => by omega⟩ ⟨rfl, rfl, rfl, rfl, trivial⟩ rfl ?_
  rintro i ⟨hi, hz⟩
  repeat' first
    | (apply p1 (hd := rfl); case hop => first | (apply D_move; rfl) | (apply D_assign; rfl) | (apply D_pcC (ys := [eS (l[i]'(by omega))]) (ys' := [.ep [.sc (.int .i64 at_)]]) (has1_pc _ at_); rfl; exact .same rfl .nil; exact ⟨Le.of_eq rfl, trivial⟩) | (apply D_int; rfl; rfl; rfl) | (apply D_loadW; rfl; rfl) | (apply D_idxAn; rfl; rfl; (first | omega | (simp; done))))
    | refine W_seq ?_
    | refine W_region ?_
    | (refine idC ?_; refine cs rfl (fun _ => ?_) (fun _ => ?_))
    | refine WL_nil ?_
    | refine tn ?_
    | refine tr ?_
    | refine br ?_
    | refine bn ?_
    | refine te ?_
    | (refine idB ?_; refine bh rfl ?_)
    | refine W_skip ?_
    | refine W_block ?_
    | refine W_exit ?_
    | refine W_ret ?_
    | (refine idR ?_; refine ret1 rfl rfl rfl ?_)
    | refine Le.int ?_
    | fail
  · rename_i k1 k2
    exact (idxS_at (fun s => s.f ≤ at_ ∧ at_ < s.t) l i (by omega) hz k2).symm
  · rename_i k1 k2
    refine ⟨rfl, i + 1, ⟨by omega, fun j h hj => ?_⟩, by omega, ⟨rfl, rfl, rfl, ieq (wsucc i (by omega)), trivial⟩, rfl⟩
    by_cases e : j = i
    · subst e; exact k2
    · exact hz j h (by omega)
  · exact (idxS_no (fun s => s.f ≤ at_ ∧ at_ < s.t) l fun j h => hz j h (by omega)).symm
set_option maxHeartbeats 4000000 in
theorem idxM_pc [GlobF Tryz.prog] (l : List Sp) (hl : l.length < 4611686018427387904) : PC Tryz.prog 92 [sl2 l, .sc (.func (.func 130) #[] #[])] (.sc (.int .i64 (idxS (fun s => s.t ≤ s.f) l))) := by
  refine PC.of_body Tryz.func92 Tryz.ntmps92 rfl rfl rfl ?_
  repeat' first
    | (apply p1 (hd := rfl); case hop => first | (apply D_move; rfl) | (apply D_assign; rfl) | (apply D_lenM; rfl))
    | refine W_seq ?_
    | refine W_region ?_
    | refine WL_nil ?_
    | refine tn ?_
    | refine W_block ?_
    | fail
  refine W_loopL (X := Nat) (fun i => [(0, sl2 l), (1, .sc (.func (.func 130) #[] #[])), (7, .sc (.int .i64 l.length)), (8, .sc (.int .i64 (i : Int)))]) (fun _ => [])
    (fun i => i ≤ l.length ∧ ∀ (j : Nat) (h : j < l.length), j < i → ¬ (l[j].t ≤ l[j].f)) (fun i => l.length - i) 0 ⟨by omega, fun j h h' => by omega⟩ ⟨rfl, rfl, rfl, rfl, trivial⟩ rfl ?_
  rintro i ⟨hi, hz⟩
  repeat' first
    | (apply p1 (hd := rfl); case hop => first | (apply D_move; rfl) | (apply D_assign; rfl) | (apply D_pc (make1_pc (l[i]'(by omega))); rfl; exact .same rfl .nil) | (apply D_int; rfl; rfl; rfl) | (apply D_loadW; rfl; rfl) | (apply D_idxAn; rfl; rfl; (first | omega | (simp; done))))
    | refine W_seq ?_
    | refine W_region ?_
    | (refine idC ?_; refine cs rfl (fun _ => ?_) (fun _ => ?_))
    | refine WL_nil ?_
    | refine tn ?_
    | refine tr ?_
    | refine br ?_
    | refine bn ?_
    | refine te ?_
    | (refine idB ?_; refine bh rfl ?_)
    | refine W_skip ?_
    | refine W_block ?_
    | refine W_exit ?_
    | refine W_ret ?_
    | (refine idR ?_; refine ret1 rfl rfl rfl ?_)
    | refine Le.int ?_
    | fail
  · rename_i k1 k2
    exact (idxS_at (fun s => s.t ≤ s.f) l i (by omega) hz k2).symm
  · rename_i k1 k2
    refine ⟨rfl, i + 1, ⟨by omega, fun j h hj => ?_⟩, by omega, ⟨rfl, rfl, rfl, ieq (wsucc i (by omega)), trivial⟩, rfl⟩
    by_cases e : j = i
    · subst e; exact k2
    · exact hz j h (by omega)
  · exact (idxS_no (fun s => s.t ≤ s.f) l fun j h => hz j h (by omega)).symm
set_option maxHeartbeats 4000000 in
theorem conH_pc [GlobF Tryz.prog] (l : List Sp) (hl : l.length < 4611686018427387904) (at_ : Int) : PC Tryz.prog 65 [sl2 l, .fn (.func 66) [] [.ep [.sc (.int .i64 at_)]]] (.sc (.bool (dP (inS l at_)))) := by
  refine PC.of_body Tryz.func65 Tryz.ntmps65 rfl rfl rfl ?_
  repeat' first
    | (apply p1 (hd := rfl); case hop => first | (apply D_move; rfl) | (apply D_assign; rfl) | (apply D_pc (idxF_pc l hl at_); rfl; exact .same rfl (.same rfl .nil)) | (apply D_int; rfl; rfl; rfl))
    | refine W_seq ?_
    | refine W_region ?_
    | refine WL_nil ?_
    | refine tn ?_
    | refine W_ret ?_
    | (refine idR ?_; refine ret1 rfl rfl rfl ?_)
    | refine Le.bool ?_
    | fail
  refine dP_eq ?_
  rw [iLe_t]; exact idxS_ge
set_option maxHeartbeats 4000000 in
theorem conM_pc [GlobF Tryz.prog] (l : List Sp) (hl : l.length < 4611686018427387904) : PC Tryz.prog 65 [sl2 l, .sc (.func (.func 130) #[] #[])] (.sc (.bool (dP (¬ neS l)))) := by
  refine PC.of_body Tryz.func65 Tryz.ntmps65 rfl rfl rfl ?_
  repeat' first
    | (apply p1 (hd := rfl); case hop => first | (apply D_move; rfl) | (apply D_assign; rfl) | (apply D_pc (idxM_pc l hl); rfl; exact .same rfl (.same rfl .nil)) | (apply D_int; rfl; rfl; rfl))
    | refine W_seq ?_
    | refine W_region ?_
    | refine WL_nil ?_
    | refine tn ?_
    | refine W_ret ?_
    | (refine idR ?_; refine ret1 rfl rfl rfl ?_)
    | refine Le.bool ?_
    | fail
  refine dP_eq ?_
  rw [iLe_t]
  refine idxS_ge.trans ⟨fun ⟨s, hs, h⟩ e => by have := e s hs; omega, fun h => ?_⟩
  refine Classical.byContradiction fun h2 => h fun s hs => ?_
  rcases Int.lt_or_le s.f s.t with h3 | h3
  · exact h3
  · exact absurd ⟨s, hs, h3⟩ h2
set_option maxHeartbeats 4000000 in
theorem has_pc [GlobF Tryz.prog] (l : List Sp) (hl : l.length < 4611686018427387904) (at_ : Int) : PC Tryz.prog 36 [sl2 l, .sc (.int .i64 at_)] (.sc (.bool (dP (SetP l ∧ inS l at_)))) := by
  refine PC.of_body Tryz.func36 Tryz.ntmps36 rfl rfl rfl ?_
  repeat' first
    | (apply p1 (hd := rfl); case hop => first | (apply D_move; rfl) | (apply D_assign; rfl) | (apply D_pc (set_pc l hl); rfl; exact .same rfl .nil) | (apply D_pc (conH_pc l hl at_); rfl; exact .same rfl (.same rfl .nil)) | (apply D_pickT; rfl; rfl) | (apply D_pickF; rfl; rfl) | (apply D_box; rfl; rfl) | exact D_mkfn rfl)
    | refine W_seq ?_
    | refine W_region ?_
    | refine WL_nil ?_
    | (refine idG ?_; first | refine g0t rfl rfl rfl ?_ | refine gr rfl rfl ?_ | refine gs rfl rfl (fun _ => ?_) (fun _ => ?_))
    | refine tn ?_
    | refine W_ret ?_
    | (refine idR ?_; refine ret1 rfl rfl rfl ?_)
    | refine Le.bool ?_
    | fail
  all_goals first
    | (refine dP_eq ?_; rw [dP_t]; simp [*]; done)
    | (refine dP_F ?_; simp [*]; done)
    | skip
  all_goals trace_state
set_option maxHeartbeats 4000000 in
theorem scheck_pc [GlobF Tryz.prog] (l : List Sp) (hl : l.length < 4611686018427387904) : PC Tryz.prog 91 [sl2 l] (.sc (.int .i64 (if dP (SetP l) then 0 else 30))) := by
  refine PC.of_body Tryz.func91 Tryz.ntmps91 rfl rfl rfl ?_
  repeat' first
    | (apply p1 (hd := rfl); case hop => first | (apply D_move; rfl) | (apply D_assign; rfl) | (apply D_pc (set_pc l hl); rfl; exact .same rfl .nil) | (apply D_not; rfl))
    | refine W_seq ?_
    | refine W_region ?_
    | (refine idC ?_; refine cs rfl (fun _ => ?_) (fun _ => ?_))
    | refine WL_nil ?_
    | refine tn ?_
    | refine tr ?_
    | refine W_skip ?_
    | refine W_ret ?_
    | (refine idR ?_; refine ret1 rfl rfl rfl ?_)
    | refine Le.int ?_
    | fail
  all_goals simp [dP_t, *]
end Go.Proofs
