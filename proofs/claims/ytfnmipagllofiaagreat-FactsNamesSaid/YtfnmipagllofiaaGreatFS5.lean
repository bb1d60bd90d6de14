/- Contracts of the sets of instants: spans put together. -/
import Derived.Test.YtfnmipagllofiaaGreatFS1
import Derived.Test.YtfnmipagllofiaaGreatFD2
import Derived.Test.YtfnmipagllofiaaGreatQO2
import Derived.Test.YtfnmipagllofiaaGreatOps24
namespace Go.Proofs
open Go.AL Go.Sort
attribute [local irreducible] Go.AL.W Go.AL.WL Go.AL.WD Go.AL.POp Go.AL.PPOp Go.AL.POpS Go.AL.PC Go.AL.AC Go.AL.YW Go.AL.Ret Go.AL.Le Go.AL.thn Go.AL.inBlk Go.AL.scp
def encS (s : Sp) : List Value := [.int .i64 s.f, .int .i64 s.t]
instance : Inhabited Sp := ⟨⟨0, 0⟩⟩
theorem sC_enc (s : Sp) : sC s = (encS s).map .sc := rfl
abbrev cmpS (a b : Sp) : Int := cmpI a.f b.f
theorem ltS (a b : Sp) : ltOf cmpS a b = decide (a.f < b.f) := by
  unfold ltOf; show decide (cmpI a.f b.f < 0) = _; unfold cmpI
  by_cases h : a.f < b.f
  · simp [h]
  · by_cases h2 : b.f < a.f <;> simp [h, h2]
theorem swoS : SWO (ltOf cmpS) := ⟨fun x => by rw [ltS]; simp, fun x y z h1 h2 => by rw [ltS] at *; simp at *; omega, fun x y z h1 h2 => by rw [ltS] at *; simp at *; omega⟩
theorem sortS_ac [GlobF Tryz.prog] {h : List AObj} {r : Nat} {l : List Sp} {sp : List AV} (hr : h[r]? = some (.cells ((l.map sC).flatten ++ sp))) (hne : 0 < l.length) (hl : l.length < 4611686018427387904) :
    AC Tryz.prog 131 [.mr r 0 l.length, .sc (.func (.func 132) #[] #[])] h (fun v h' => v = .tu [] ∧ ∃ ms : List Sp, ms.Perm l ∧ ms.Pairwise (fun x y => ltOf cmpS y x = false) ∧ h' = h.set r (.cells ((ms.map sC).flatten ++ sp))) :=
  sortP_ac Tryz.laysSS Tryz.isAgg69 Tryz.sizeOf69 encS sC sC_enc (fun _ => rfl) (fun x v hv => by simp [encS] at hv; rcases hv with rfl | rfl <;> rfl) cmpS swoS 132 [] _
    (fun G v hv => ⟨[], by rw [conc_sc hv], .nil _⟩) (fun x y => joined1_pc x y) hr hne hl
set_option maxHeartbeats 4000000 in
theorem cloneS_ac [GlobF Tryz.prog] {h : List AObj} {tok : Option Nat} (l : List Sp) (hne : 0 < l.length) (hl : l.length < 8796093022208) :
    AC Tryz.prog 45 [.sl tok 2 (l.map sC)] h (fun v h' => ∃ sp, v = .mr (h.length + 1) 0 l.length ∧ h' = h ++ [.dead, .cells ((l.map sC).flatten ++ sp)]) := by
  have hnn : l.map sC ≠ [] := by cases l with | nil => simp at hne | cons a l => simp
  refine AC.of_body Tryz.func45 Tryz.ntmps45 rfl rfl rfl ?_
  repeat' first
    | (refine m_slnil rfl rfl ?_; rintro b hb)
    | refine m_lit (d := 5) rfl rfl rfl rfl rfl rfl ?_
    | (refine m_appR (d := 7) rfl rfl get_last hnn rfl (by rw [List.length_map]; omega) (by rw [List.length_map]; omega) rfl ?_; intro sp)
    | (apply p1 (hd := rfl); case hop => first | (apply D_move; rfl) | (apply D_assign; rfl))
    | refine W_seq ?_
    | refine W_region ?_
    | (refine idC ?_; refine cs rfl (fun _ => ?_) (fun _ => ?_))
    | refine WL_nil ?_
    | refine tn ?_
    | refine tr ?_
    | refine W_skip ?_
    | refine W_ret ?_
    | fail
  · rename_i hb'
    first
      | exact absurd (hb hb') hnn
      | exact absurd (hb rfl) hnn
  · exact retK1 (.inl rfl) rfl rfl (ResO.tmp rfl) ⟨sp, by simp, by simp⟩
theorem sortS0_pc [GlobF Tryz.prog] : PC Tryz.prog 131 [.sl none 2 [], .sc (.func (.func 132) #[] #[])] (.tu []) := sort_none_pc Tryz.laysSS 2 _
set_option maxHeartbeats 4000000 in
theorem cloneS0_pc [GlobF Tryz.prog] : PC Tryz.prog 45 [.sl none 2 []] (.sl none 2 []) := by
  refine PC.of_body Tryz.func45 Tryz.ntmps45 rfl rfl rfl ?_
  repeat' first
    | (refine m_slnil rfl rfl ?_; rintro b hb)
    | refine m_lit (d := 5) rfl rfl rfl rfl rfl rfl ?_
    | (apply p1 (hd := rfl); case hop => first | (apply D_move; rfl) | (apply D_assign; rfl))
    | refine W_seq ?_
    | refine W_region ?_
    | (refine idC ?_; refine cs rfl (fun _ => ?_) (fun _ => ?_))
    | refine WL_nil ?_
    | refine tn ?_
    | refine tr ?_
    | refine W_skip ?_
    | refine W_ret ?_
    | (refine idR ?_; refine ret1 rfl rfl rfl ?_)
    | (refine idAp ?_; refine m_app rfl rfl (by first | rfl | assumption | exact get_set (by assumption) | exact get_set (get_set (by assumption)) | exact get_set (get_set (get_set (by assumption))) | ((repeat first | assumption | exact get_last | (refine get_last2 ?_; focus (simp; done)) | apply get_set | apply get_app | (apply get_ne; focus omega)); done)) ?_ rfl rfl ?_ ?_ rfl ?_; (first | rfl | focus (simp only [List.length_map, List.length_append, List.length_cons, List.length_nil]; omega) | focus (simp; done) | focus (simp; omega)); (first | focus (simp only [List.length_map, List.length_append, List.length_cons, List.length_nil]; omega) | focus (simp; done) | focus (simp; omega)); (first | focus (simp only [List.length_map, List.length_append, List.length_cons, List.length_nil]; omega) | focus (simp; done) | focus (simp; omega)))
    | fail
  all_goals first
    | exact Le.nil rfl
    | exact Le.tokq rfl
noncomputable def canS (l : List Sp) : List Sp := J (l.mergeSort fun x y => decide (x.f ≤ y.f))
theorem canS_ok {l : List Sp} (h : neS l) : SetP (canS l) ∧ ∀ x, inS (canS l) x ↔ inS l x := by
  have hp := List.mergeSort_perm l (fun x y => decide (x.f ≤ y.f))
  have hs : (l.mergeSort fun x y => decide (x.f ≤ y.f)).Pairwise (fun a b => a.f ≤ b.f) := by
    have := List.pairwise_mergeSort (le := fun (x y : Sp) => decide (x.f ≤ y.f)) (fun a b c h1 h2 => by simp at *; omega) (fun a b => by simp; omega) l
    exact this.imp (fun h => by simpa using h)
  obtain ⟨k1, k2, _⟩ := J_ok _ (fun s hs => h s (hp.mem_iff.1 hs)) hs
  exact ⟨k1, fun x => (k2 x).trans (inS_perm hp x)⟩
theorem J_can {l ms : List Sp} (h : neS l) (hp : ms.Perm l) (hs : ms.Pairwise (fun x y => ltOf cmpS y x = false)) : J ms = canS l := by
  obtain ⟨k1, k2, _⟩ := J_ok ms (fun s hs => h s (hp.mem_iff.1 hs)) (hs.imp (fun {a b} h => by rw [ltS] at h; simpa using h))
  obtain ⟨j1, j2⟩ := canS_ok h
  exact set_ext k1 j1 fun x => by rw [k2, j2, inS_perm hp]
theorem jn_len (o : List Sp) (s : Sp) : (jn o s).length ≤ o.length + 1 := by
  rcases snoc_cases o with rfl | ⟨o, p, rfl⟩
  · simp [jn_nil]
  · rw [jn_snoc]; split <;> simp
theorem J_len : ∀ m : List Sp, (J m).length ≤ m.length := by
  refine snoc_ind (by simp [J]) fun m x ih => ?_
  rw [J_snoc, List.length_append]
  have := jn_len (J m) x
  simp; omega
theorem J_take (ms : List Sp) (i : Nat) (h : i < ms.length) : J (ms.take (i + 1)) = jn (J (ms.take i)) ms[i] := by
  rw [List.take_succ_eq_append_getElem h, J_snoc]
theorem flat2 {o : List Sp} {p : Sp} : ((o ++ [p]).map sC).flatten = (o.map sC).flatten ++ sC p := by simp
theorem flat2_len (o : List Sp) : ((o.map sC).flatten).length = o.length * 2 := by
  rw [flat_len sC_row, List.length_map]
theorem flat_get {o : List Sp} {p : Sp} : (((o ++ [p]).map sC).flatten)[o.length * 2 + 1]? = some (.sc (.int .i64 p.t)) := by
  have := flat2_len o
  rw [flat2, List.getElem?_append_right (by omega), this, show o.length * 2 + 1 - o.length * 2 = 1 by omega]; rfl
theorem flat_st {o : List Sp} {p : Sp} {t : Int} : ((o ++ [(⟨p.f, t⟩ : Sp)]).map sC).flatten = (((o ++ [p]).map sC).flatten).take (o.length * 2 + 1) ++ [.sc (.int .i64 t)] ++ (((o ++ [p]).map sC).flatten).drop (o.length * 2 + 1 + 1) := by
  have := flat2_len o
  rw [flat2, flat2, List.take_append, List.drop_append, this, show o.length * 2 + 1 - o.length * 2 = 1 by omega, show o.length * 2 + 1 + 1 - o.length * 2 = 2 by omega, List.take_of_length_le (by omega), List.drop_eq_nil_of_le (by omega)]
  simp
theorem ren3 {rg rg' : List (Nat × AV)} {h : List AObj} {q e : Nat} {els : List (List AV)} [PurLL els] (h0 : q ≠ 0) (h1 : q ≠ 1) (hq0 : h[0]?.isSome) (hq1 : h[1]?.isSome) (hq : h[q]? = some (.row 2 e els)) (hr : RenL [0, 1, q] rg rg') : Ren ⟨[], 0⟩ [0, 1, q] rg h rg' [.dead, .dead, .row 2 e els] := by
  obtain ⟨a, ha⟩ := Option.isSome_iff_exists.1 hq0
  obtain ⟨b, hb⟩ := Option.isSome_iff_exists.1 hq1
  exact ⟨by simp; omega, fun r hr => absurd hr (Nat.not_lt_zero r), fun r hr => (by cases hr), hr, ⟨⟨_, ha, .dead _⟩, ⟨_, hb, .dead _⟩, ⟨_, hq, .row _ _ _⟩, trivial⟩⟩
set_option maxHeartbeats 16000000 in
theorem joined0_pc [GlobF Tryz.prog] : PC Tryz.prog 107 [sl2 []] (sl2 []) := by
  refine PC.of_body Tryz.func107 Tryz.ntmps107 rfl rfl rfl ?_
  repeat' first
    | (refine W_rounds 1 ?_)
    | (refine cs rfl ?_ (fun _ => ?_); focus (intro h; exfalso; revert h; decide))
    | (apply p1 (hd := rfl); case hop => first | (apply D_move; rfl) | (apply D_assign; rfl) | (apply D_pc cloneS0_pc; rfl; exact .same rfl .nil) | (apply D_pc sortS0_pc; rfl; exact .same rfl (.same rfl .nil)) | (apply D_int; rfl; rfl; rfl) | (apply D_len_sl; rfl))
    | refine W_seq ?_
    | refine W_region ?_
    | refine WL_nil ?_
    | refine tn ?_
    | refine te ?_
    | (refine idB ?_; refine bh rfl ?_)
    | refine W_block ?_
    | refine W_exit ?_
    | refine W_ret ?_
    | (refine idR ?_; refine ret1 rfl rfl rfl ?_)
    | fail
  all_goals exact Le.nil rfl
set_option maxHeartbeats 16000000 in
theorem joined_pc [GlobF Tryz.prog] (l : List Sp) (hn : neS l) (hl : l.length < 8796093022208) : PC Tryz.prog 107 [sl2 l] (sl2 (canS l)) := by
  rcases Nat.eq_zero_or_pos l.length with h0 | h0
  · have e : l = [] := List.length_eq_zero_iff.1 h0
    subst e
    have e2 : canS [] = [] := set_empty (canS_ok hn).1 fun x h => inS_nil x (((canS_ok hn).2 x).1 h)
    rw [e2]; exact joined0_pc
  refine PC.of_body Tryz.func107 Tryz.ntmps107 rfl rfl rfl ?_
  repeat' first
    | (apply p1 (hd := rfl); case hop => first | (apply D_move; rfl) | (apply D_assign; rfl) | (apply D_lenM; rfl))
    | refine W_seq ?_
    | refine W_region ?_
    | refine WL_nil ?_
    | refine tn ?_
    | refine W_block ?_
    | (refine m_call (d := 8) (cloneS_ac l h0 (by omega)) rfl rfl rfl ?_; rintro _ _ ⟨sp, rfl, rfl⟩)
    | (refine m_call (d := 10) (sortS_ac (l := l) rfl h0 (by omega)) rfl rfl rfl ?_; rintro _ _ ⟨rfl, ms, hpm, hpw, rfl⟩; refine WL_frz 0 1 2 (els := ms.map sC) (sp := sp) rfl rfl (by rw [List.length_map, hpm.length_eq]; exact Nat.le_refl _) sC_row ?_; rw [List.take_of_length_le (by rw [List.length_map, hpm.length_eq]; exact Nat.le_refl _)])
    | fail
  refine W_adoptG 3 2 69 rfl ?_
  have hml : ms.length = l.length := hpm.length_eq
  refine W_loopR (X := Nat) (fun i => [(3, rowA 2 (J (ms.take i)).length), (11, sl2 ms), (12, .sc (.int .i64 (ms.length : Int))), (13, .sc (.int .i64 (i : Int)))]) (fun i => [.dead, .dead, .row 2 69 ((J (ms.take i)).map sC)])
    (fun i => i ≤ ms.length) (fun i => ms.length - i) 0 (Nat.zero_le _) ⟨rfl, rfl, rfl, rfl, trivial⟩ rfl ?_
  intro i hi
  have hJ := J_take ms i
  have hlen : (J (ms.take i)).length ≤ i := by have := J_len (ms.take i); rw [List.length_take] at this; omega
  have hfin : ms.length ≤ i → J (ms.take i) = canS l := fun h => by rw [List.take_of_length_le h]; exact J_can hn hpm hpw
  generalize J (ms.take i) = O at *
  rcases snoc_cases O with rfl | ⟨o, p, rfl⟩
  · repeat' first
      | (apply p1 (hd := rfl); case hop => first | (apply D_move; rfl) | (apply D_assign; rfl) | exact D_lenG rfl | (apply D_int; rfl; rfl; rfl) | (apply D_loadW; rfl; rfl) | (apply D_idxAn; rfl; rfl; (first | omega | (simp; done))) | (apply D_lit; rfl; rfl; rfl; rfl))
      | refine W_seq ?_
      | refine W_region ?_
      | (refine idC ?_; first | refine c0 rfl ?_ | refine cs rfl (fun _ => ?_) (fun _ => ?_))
      | refine WL_nil ?_
      | refine tn ?_
      | refine bn ?_
      | refine te ?_
      | (refine idB ?_; refine bh rfl ?_)
      | refine W_skip ?_
      | refine W_block ?_
      | refine W_exit ?_
      | refine W_ret ?_
      | (refine idR ?_; refine ret1 rfl rfl rfl ?_)
      | (refine idA ?_; refine m_var rfl rfl rfl rfl rfl rfl rfl ?_)
      | (refine m_appG (d := 49) (els := []) rfl rfl rfl rfl (by simp) rfl (by simp) (by simp) rfl ?_)
      | (refine idW ?_; refine W_draw0 rfl ?_)
      | (apply d1 (hd := rfl); case hop => first | (apply D_move; rfl) | (apply D_load1; rfl) | (apply D_fld; rfl) | (apply D_pickF; rfl; rfl) | (apply D_int; rfl; rfl; rfl))
      | (refine idDg ?_; first | refine dg0t rfl rfl rfl ?_ | refine dgr rfl rfl ?_ | refine dgs rfl rfl (fun _ => ?_) (fun _ => ?_))
      | refine WD_nil (by first | decide +kernel | kernel_rfl | rfl) ?_
      | fail
    · exfalso; rename_i k1; simp at k1
    · rename_i k1 k2
      refine ⟨rfl, i + 1, by omega, by omega, [0, 1, 3], ren3 (by decide) (by decide) rfl rfl ?_ ⟨⟨_, rfl, ?_⟩, ⟨_, rfl, .pur⟩, ⟨_, rfl, .pur⟩, ⟨_, rfl, by rw [wsucc i (by omega)]; exact .pur⟩, trivial⟩⟩
      · rw [hJ (by omega), jn_nil]; rfl
      · rw [hJ (by omega), jn_nil]; exact mvRow rfl rfl
    · rename_i k1
      rw [← hfin (by omega)]; exact Le.row0
  · have hlo : (o ++ [p]).length = o.length + 1 := by simp
    rw [hlo] at hlen ⊢
    repeat' first
      | (refine dL 2 (fun hp' hs => D_ixRowN rfl (hs.trans rfl) (by simp) rfl (by omega)) rfl ?_)
      | (refine dL 2 (fun hp' hs => D_loadG1 rfl (hs.trans rfl) flat_get) rfl ?_)
      | (refine dS (S_storeG (r := 2) ((o ++ [(⟨p.f, max p.t (ms[i]'(by omega)).t⟩ : Sp)]).map sC) rfl rfl rfl rfl rfl rfl (by rw [flat2_len]; simp; omega) (by simp) sC_row flat_st (by simp)) rfl ?_)
      | (have hE : ms.length ≤ i := (by omega); refine WL_rowM 3 2 rfl rfl (by simp) (by simp) ?_; intro sp2; refine WL_frz 3 2 2 (els := (o ++ [p]).map sC) (sp := sp2) rfl rfl (by simp) sC_row ?_)
      | (apply p1 (hd := rfl); case hop => first | (apply D_move; rfl) | (apply D_assign; rfl) | exact D_lenG rfl | (apply D_int; rfl; rfl; rfl) | (apply D_loadW; rfl; rfl) | (apply D_idxAn; rfl; rfl; (first | omega | (simp; done))) | (apply D_lit; rfl; rfl; rfl; rfl))
      | refine W_seq ?_
      | refine W_region ?_
      | (refine idC ?_; first | refine c0 rfl ?_ | refine cs rfl (fun _ => ?_) (fun _ => ?_))
      | refine WL_nil ?_
      | refine tn ?_
      | refine bn ?_
      | refine te ?_
      | (refine idB ?_; refine bh rfl ?_)
      | refine W_skip ?_
      | refine W_block ?_
      | refine W_exit ?_
      | refine W_ret ?_
      | (refine idR ?_; refine ret1 rfl rfl rfl ?_)
      | (refine idA ?_; refine m_var rfl rfl rfl rfl rfl rfl rfl ?_)
      | (refine m_appG (d := 49) (els := (o ++ [p]).map sC) rfl rfl rfl (by simp) (by simp) rfl (by simp; omega) (by simp; omega) rfl ?_)
      | (refine idW ?_; refine W_draw0 rfl ?_)
      | (apply d1 (hd := rfl); case hop => first | (apply D_move; rfl) | exact D_sub1 rfl rfl (by omega) | exact D_max rfl rfl | (apply D_load1; rfl) | (apply D_fld; rfl) | (apply D_pickT; rfl; rfl) | (apply D_pickF; rfl; rfl) | (apply D_int; rfl; rfl; rfl) | exact D_fldB rfl)
      | (refine idDg ?_; first | refine dg0t rfl rfl rfl ?_ | refine dgr rfl rfl ?_ | refine dgs rfl rfl (fun _ => ?_) (fun _ => ?_))
      | refine WD_nil (by first | decide +kernel | kernel_rfl | rfl) ?_
      | fail
    · rename_i k1 k2 k3
      refine ⟨rfl, i + 1, by omega, by omega, [0, 1, 2], ren3 (by decide) (by decide) rfl rfl ?_ ⟨⟨_, rfl, ?_⟩, ⟨_, rfl, .pur⟩, ⟨_, rfl, .pur⟩, ⟨_, rfl, by rw [wsucc i (by omega)]; exact .pur⟩, trivial⟩⟩
      · rw [hJ (by omega), jn_snoc, if_pos k3]; rfl
      · rw [hJ (by omega), jn_snoc, if_pos k3]; exact mvRow rfl (by simp)
    · rename_i k1 k2 k3
      refine ⟨rfl, i + 1, by omega, by omega, [0, 1, 3], ren3 (by decide) (by decide) rfl rfl ?_ ⟨⟨_, rfl, ?_⟩, ⟨_, rfl, .pur⟩, ⟨_, rfl, .pur⟩, ⟨_, rfl, by rw [wsucc i (by omega)]; exact .pur⟩, trivial⟩⟩
      · rw [hJ (by omega), jn_snoc, if_neg (by omega), show ((o ++ [p]) ++ [ms[i]'(by omega)]).map sC = (o ++ [p]).map sC ++ [sC (ms[i]'(by omega))] by simp]; rfl
      · rw [hJ (by omega), jn_snoc, if_neg (by omega)]; exact mvRow rfl (by simp)
    · exfalso; rename_i k1 k2; omega
    · rename_i k1
      rw [← hfin (by omega), List.take_of_length_le (by simp)]
      exact Le.of_eq rfl
end Go.Proofs

namespace Go.Proofs
open Go.AL
attribute [local irreducible] Go.AL.W Go.AL.WL Go.AL.WD Go.AL.POp Go.AL.PPOp Go.AL.POpS Go.AL.PC Go.AL.AC Go.AL.YW Go.AL.Ret Go.AL.Le Go.AL.thn Go.AL.inBlk Go.AL.scp
set_option maxHeartbeats 4000000 in
theorem make_pc [GlobF Tryz.prog] (l : List Sp) (hl : l.length < 8796093022208) : PC Tryz.prog 106 [sl2 l] (.tu [sl2 (if dP (neS l) then canS l else []), .sc (.int .i64 (if dP (neS l) then 0 else 30))]) := by
  by_cases h : neS l
  · have hc := conM_pc l (by omega)
    rw [← dP_F (fun e => e h)] at hc
    rw [← dP_T h]
    refine PC.of_body Tryz.func106 Tryz.ntmps106 rfl rfl rfl ?_
    repeat' first
      | (apply p1 (hd := rfl); case hop => first | (apply D_move; rfl) | (apply D_assign; rfl) | (apply D_pc hc; rfl; exact .same rfl (.same rfl .nil)) | (apply D_pc (joined_pc l h hl); rfl; exact .same rfl .nil))
      | refine W_seq ?_
      | refine W_region ?_
      | (refine idC ?_; refine c0 rfl ?_)
      | refine WL_nil ?_
      | refine tn ?_
      | refine W_skip ?_
      | refine W_ret ?_
      | (refine idR ?_; refine ret2 rfl rfl rfl rfl ?_ ?_)
      | refine Le.int ?_
      | fail
    all_goals first | rfl | contradiction | exact Le.of_eq rfl | skip
    all_goals trace_state
  · have hc := conM_pc l (by omega)
    rw [← dP_T h] at hc
    rw [← dP_F h]
    refine PC.of_body Tryz.func106 Tryz.ntmps106 rfl rfl rfl ?_
    repeat' first
      | (apply p1 (hd := rfl); case hop => first | (apply D_move; rfl) | (apply D_assign; rfl) | (apply D_pc hc; rfl; exact .same rfl (.same rfl .nil)))
      | refine W_seq ?_
      | refine W_region ?_
      | (refine idC ?_; refine c1 rfl ?_)
      | refine WL_nil ?_
      | refine tn ?_
      | refine tr ?_
      | refine W_ret ?_
      | (refine idR ?_; refine ret2 rfl rfl rfl rfl ?_ ?_)
      | refine Le.int ?_
      | fail
    all_goals first | rfl | contradiction | exact Le.nil rfl | skip
    all_goals trace_state
theorem growS_ac [GlobF Tryz.prog] (n : Nat) (hn : n < 8796093022208) (h : List AObj) : AC Tryz.prog 133 [.sc (.slice none 0 0), .sc (.int .i64 (n : Int))] h (fun v h' => v = rowA h.length 0 ∧ h' = h ++ [.row 2 69 []]) :=
  grow_ac (k := 2) (by_ := 16) (hi := (inferInstance : Inf Tryz.prog 69 2 16 _)) Tryz.laysGS (by decide) rfl n (by omega) (by omega) h
set_option maxHeartbeats 16000000 in
theorem concat_pc [GlobF Tryz.prog] (a b : List Sp) (ha : a.length + b.length < 8796093022208) (hb : b.length < 8796093022208) : PC Tryz.prog 108 [.sl none 1 [[sl2 a], [sl2 b]]] (sl2 (a ++ b)) := by
  have e1 : IntKind.i64.wrap (0 + (a.length : Int)) = (a.length : Int) := by rw [w64 _ (by omega) (by omega)]; omega
  have e2 : IntKind.i64.wrap ((a.length : Int) + (b.length : Int)) = ((a.length + b.length : Nat) : Int) := by rw [w64 _ (by omega) (by omega)]; omega
  have hgr := fun h => growS_ac (a.length + b.length) (by omega) h
  have l1 : Value.bool (iLt (a.length : Int) 0) = .bool false := by rw [(iLt_f _ _).mpr (by omega)]
  have l2 : Value.bool (iLt ((a.length + b.length : Nat) : Int) 0) = .bool false := by rw [(iLt_f _ _).mpr (by omega)]
  by_cases ha0 : a = [] <;> by_cases hb0 : b = []
  · subst ha0; subst hb0
    refine PC.of_body Tryz.func108 Tryz.ntmps108 rfl rfl rfl ?_
    repeat' first
      | (refine W_rounds 3 ?_)
      | (refine cs rfl ?_ (fun _ => ?_); focus (intro h; exfalso; revert h; decide))
      | (apply p1 (hd := rfl); case hop => first | (apply D_move; rfl) | (apply D_assign; rfl) | exact D_sc (D_int rfl rfl rfl) (congrArg _ e1) | exact D_sc (D_int rfl rfl rfl) l1 | exact D_ltD rfl rfl | (apply D_idxA0; rfl; rfl; all_goals exact of_decide_eq_true rfl) | exact D_appG0 rfl rfl | (apply D_load1; rfl) | (apply D_int; rfl; rfl; rfl) | (apply D_lenM; rfl) | (apply D_len_sl; rfl))
      | refine W_seq ?_
      | refine W_region ?_
      | (refine idC ?_; refine c1 rfl ?_)
      | refine WL_nil ?_
      | refine tn ?_
      | refine bn ?_
      | refine te ?_
      | (refine idB ?_; refine bh rfl ?_)
      | refine W_skip ?_
      | refine W_block ?_
      | refine W_exit ?_
      | refine W_ret ?_
      | (refine idR ?_; refine ret1 rfl rfl rfl ?_)
      | (refine m_call (d := 24) (hgr _) rfl rfl rfl ?_; rintro _ _ ⟨rfl, rfl⟩)
      | fail
    all_goals first | exact Le.row0 | skip
    all_goals trace_state
  · subst ha0
    have hbn : b.map sC ≠ [] := fun e => hb0 (List.map_eq_nil_iff.1 e)
    have hbl : 0 < b.length := List.length_pos_iff.2 hb0
    refine PC.of_body Tryz.func108 Tryz.ntmps108 rfl rfl rfl ?_
    repeat' first
      | (refine W_rounds 3 ?_)
      | (refine cs rfl ?_ (fun _ => ?_); focus (intro h; exfalso; revert h; decide))
      | (refine m_moveRow 35 (els := ([] ++ b.map sC)) rfl rfl (by simp) (by simp; omega) (by simp) ?_)
      | (apply p1 (hd := rfl); case hop => first | (apply D_move; rfl) | (apply D_assign; rfl) | exact D_sc (D_int rfl rfl rfl) (congrArg _ e1) | exact D_sc (D_int rfl rfl rfl) (congrArg _ e2) | exact D_sc (D_int rfl rfl rfl) l1 | exact D_sc (D_int rfl rfl rfl) l2 | exact D_ltD rfl rfl | (apply D_idxA0; rfl; rfl; all_goals exact of_decide_eq_true rfl) | exact D_appG0 rfl rfl | (apply D_load1; rfl) | (apply D_int; rfl; rfl; rfl) | (apply D_lenM; rfl) | (apply D_len_sl; rfl))
      | refine W_seq ?_
      | refine W_region ?_
      | (refine idC ?_; first | refine c1 rfl ?_ | refine c0 rfl ?_)
      | refine WL_nil ?_
      | refine tn ?_
      | refine bn ?_
      | refine te ?_
      | (refine idB ?_; refine bh rfl ?_)
      | refine W_skip ?_
      | refine W_block ?_
      | refine W_exit ?_
      | refine W_ret ?_
      | (refine idR ?_; refine ret1 rfl rfl rfl ?_)
      | (refine m_call (d := 24) (hgr _) rfl rfl rfl ?_; rintro _ _ ⟨rfl, rfl⟩)
      | (refine m_appG (d := 33) (els := []) rfl rfl rfl rfl hbn rfl (by simp; omega) (by simp; omega) rfl ?_)
      | fail
    all_goals first | exact Le.of_eq rfl | skip
    all_goals trace_state
  · subst hb0
    have han : a.map sC ≠ [] := fun e => ha0 (List.map_eq_nil_iff.1 e)
    have hal : 0 < a.length := List.length_pos_iff.2 ha0
    rw [List.append_nil]
    refine PC.of_body Tryz.func108 Tryz.ntmps108 rfl rfl rfl ?_
    repeat' first
      | (refine W_rounds 3 ?_)
      | (refine cs rfl ?_ (fun _ => ?_); focus (intro h; exfalso; revert h; decide))
      | (refine m_moveRow 35 (els := ([] ++ a.map sC)) rfl rfl (by simp) (by simp; omega) (by simp) ?_)
      | (apply p1 (hd := rfl); case hop => first | (apply D_move; rfl) | (apply D_assign; rfl) | exact D_sc (D_int rfl rfl rfl) (congrArg _ e1) | exact D_sc (D_int rfl rfl rfl) (congrArg _ e2) | exact D_sc (D_int rfl rfl rfl) l1 | exact D_ltD rfl rfl | (apply D_idxA0; rfl; rfl; all_goals exact of_decide_eq_true rfl) | exact D_appG0 rfl rfl | (apply D_load1; rfl) | (apply D_int; rfl; rfl; rfl) | (apply D_lenM; rfl) | (apply D_len_sl; rfl))
      | refine W_seq ?_
      | refine W_region ?_
      | (refine idC ?_; first | refine c1 rfl ?_ | refine c0 rfl ?_)
      | refine WL_nil ?_
      | refine tn ?_
      | refine bn ?_
      | refine te ?_
      | (refine idB ?_; refine bh rfl ?_)
      | refine W_skip ?_
      | refine W_block ?_
      | refine W_exit ?_
      | refine W_ret ?_
      | (refine idR ?_; refine ret1 rfl rfl rfl ?_)
      | (refine m_call (d := 24) (hgr _) rfl rfl rfl ?_; rintro _ _ ⟨rfl, rfl⟩)
      | (refine m_appG (d := 33) (els := []) rfl rfl rfl rfl han rfl (by simp; omega) (by simp; omega) rfl ?_)
      | fail
    all_goals first | exact Le.of_eq rfl | skip
    all_goals trace_state
  · have han : a.map sC ≠ [] := fun e => ha0 (List.map_eq_nil_iff.1 e)
    have hal : 0 < a.length := List.length_pos_iff.2 ha0
    have hbn : b.map sC ≠ [] := fun e => hb0 (List.map_eq_nil_iff.1 e)
    have hbl : 0 < b.length := List.length_pos_iff.2 hb0
    refine PC.of_body Tryz.func108 Tryz.ntmps108 rfl rfl rfl ?_
    repeat' first
      | (refine W_rounds 3 ?_)
      | (refine cs rfl ?_ (fun _ => ?_); focus (intro h; exfalso; revert h; decide))
      | (refine m_moveRow 35 (els := (([] ++ a.map sC) ++ b.map sC)) rfl rfl (by simp) (by simp; omega) (fun x hx => sC_row (l := a ++ b) x (by simpa using hx)) ?_)
      | (apply p1 (hd := rfl); case hop => first | (apply D_move; rfl) | (apply D_assign; rfl) | exact D_sc (D_int rfl rfl rfl) (congrArg _ e1) | exact D_sc (D_int rfl rfl rfl) (congrArg _ e2) | exact D_sc (D_int rfl rfl rfl) l1 | exact D_sc (D_int rfl rfl rfl) l2 | exact D_ltD rfl rfl | (apply D_idxA0; rfl; rfl; all_goals exact of_decide_eq_true rfl) | (apply D_load1; rfl) | (apply D_int; rfl; rfl; rfl) | (apply D_lenM; rfl) | (apply D_len_sl; rfl))
      | refine W_seq ?_
      | refine W_region ?_
      | (refine idC ?_; first | refine c1 rfl ?_ | refine c0 rfl ?_)
      | refine WL_nil ?_
      | refine tn ?_
      | refine bn ?_
      | refine te ?_
      | (refine idB ?_; refine bh rfl ?_)
      | refine W_skip ?_
      | refine W_block ?_
      | refine W_exit ?_
      | refine W_ret ?_
      | (refine idR ?_; refine ret1 rfl rfl rfl ?_)
      | (refine m_call (d := 24) (hgr _) rfl rfl rfl ?_; rintro _ _ ⟨rfl, rfl⟩)
      | (refine m_appG (d := 33) (els := []) rfl rfl rfl rfl han rfl (by simp; omega) (by simp; omega) rfl ?_)
      | (refine m_appG (d := 33) (els := ([] ++ a.map sC)) rfl rfl rfl (by simp) hbn rfl (by simp; omega) (by simp; omega) rfl ?_)
      | fail
    all_goals first | exact Le.of_eq rfl | exact Le.of_eq (congrArg (AV.sl none 2) (by simp)) | skip
    all_goals trace_state
set_option maxHeartbeats 4000000 in
theorem sor_pc [GlobF Tryz.prog] (a b : List Sp) (ha : SetP a) (hb : SetP b) (hla : a.length + b.length < 8796093022208) (hlb : b.length < 8796093022208) : PC Tryz.prog 86 [sl2 a, sl2 b] (.tu [sl2 (canS (a ++ b)), .sc (.int .i64 0)]) := by
  have s1 := set_pc a (by omega)
  have s2 := set_pc b (by omega)
  rw [← dP_T ha] at s1
  rw [← dP_T hb] at s2
  have hn : neS (a ++ b) := fun s hs => by
    rcases List.mem_append.1 hs with h | h
    · exact ha.1 s h
    · exact hb.1 s h
  refine PC.of_body Tryz.func86 Tryz.ntmps86 rfl rfl rfl ?_
  repeat' first
    | (apply p1 (hd := rfl); case hop => first | (apply D_move; rfl) | (apply D_assign; rfl) | (apply D_pc s1; rfl; exact .same rfl .nil) | (apply D_pc s2; rfl; exact .same rfl .nil) | (apply D_pc (concat_pc a b (by omega) (by omega)); rfl; exact .same rfl .nil) | (apply D_pc (joined_pc (a ++ b) hn (by rw [List.length_append]; omega)); rfl; exact .same rfl .nil) | (apply D_pickT; rfl; rfl) | (apply D_pickF; rfl; rfl) | (apply D_not; rfl) | (apply D_lit; rfl; rfl; rfl; rfl))
    | refine W_seq ?_
    | refine W_region ?_
    | (refine idC ?_; first | refine c1 rfl ?_ | refine cs rfl (fun _ => ?_) (fun _ => ?_))
    | refine WL_nil ?_
    | (refine idG ?_; first | refine g0f rfl rfl rfl ?_ | refine gr rfl rfl ?_ | refine gs rfl rfl (fun _ => ?_) (fun _ => ?_))
    | refine tn ?_
    | refine tr ?_
    | refine W_skip ?_
    | refine W_ret ?_
    | (refine idR ?_; refine ret2 rfl rfl rfl rfl ?_ ?_)
    | refine Le.int ?_
    | fail
  all_goals first | rfl | contradiction | exact Le.of_eq rfl | skip
  all_goals trace_state
set_option maxHeartbeats 4000000 in
theorem meets_ac [GlobF Tryz.prog] (a b : List Sp) (h : List AObj) : AC Tryz.prog 93 [sl2 a, sl2 b] h (fun v h' => v = .fn (.func 111) [] [.bp h.length 0, .bp (h ++ [AObj.cells [sl2 a]]).length 0] ∧ h' = h ++ [.cells [sl2 a]] ++ [.cells [sl2 b]]) := by
  refine AC.of_body Tryz.func93 Tryz.ntmps93 rfl rfl rfl ?_
  repeat' first
    | (refine m_box rfl rfl rfl ?_)
    | (apply p1 (hd := rfl); case hop => first | (apply D_assign; rfl) | exact D_mkfn rfl)
    | refine W_seq ?_
    | refine W_region ?_
    | refine WL_nil ?_
    | refine tn ?_
    | refine W_ret ?_
    | fail
  exact retK1 (.inl rfl) rfl rfl (ResO.tmp rfl) ⟨rfl, rfl⟩
abbrev HM (X1 X2 : AObj) (o a b : List Sp) : List AObj := [.cells [.sl (some 1) 2 (o.map sC)], .tail o.length 2 69, .cells [sl2 a], .cells [sl2 b], X1, X2]
theorem bdS {n : Nat} {tok : Option Nat} {k : Nat} {l : List Sp} (h : ∀ t, tok = some t → t < n) : BdA n (.sl tok k (l.map sC)) := .sl h fun e he x hx => by
  obtain ⟨s, _, rfl⟩ := List.mem_map.1 he
  simp only [List.mem_cons, List.not_mem_nil, or_false] at hx
  rcases hx with rfl | rfl <;> exact .sc _
theorem HM_bd {X1 X2 : AObj} {a b : List Sp} (h : BdH (HM X1 X2 [] a b)) (o a' b' : List Sp) : BdH (HM X1 X2 o a' b') := fun q hq => by
  have h1 : BdO 6 X1 := h X1 (by simp)
  have h2 : BdO 6 X2 := h X2 (by simp)
  simp only [List.mem_cons, List.not_mem_nil, or_false] at hq
  rcases hq with rfl | rfl | rfl | rfl | rfl | rfl
  · exact fun x hx => by rw [List.mem_singleton.1 hx]; exact bdS fun t e => by cases e; show 1 < 6; decide
  · trivial
  · exact fun x hx => by rw [List.mem_singleton.1 hx]; exact bdS fun t e => by cases e
  · exact fun x hx => by rw [List.mem_singleton.1 hx]; exact bdS fun t e => by cases e
  · exact h1
  · exact h2
set_option maxHeartbeats 16000000 in
theorem meets1_ac [GlobF Tryz.prog] (X1 X2 : AObj) (a b : List Sp) (l : Nat) (hla : a.length + b.length < 8796093022208) (hlb : b.length < 8796093022208)
    (hy : ∀ (o a' b' : List Sp) (s : Sp) (ex : List AObj), o.length < 8796093022208 → YW Tryz.prog l [eS s] (HM X1 X2 o a' b' ++ ex) (fun bo h' => bo = true ∧ ∃ ex', h' = HM X1 X2 (o ++ [s]) a' b' ++ ex')) :
    AC Tryz.prog 111 [.sc (.func (.yield l) #[] #[]), .bp 2 0, .bp 3 0] (HM X1 X2 [] a b) (fun _ h' => ∃ a' b' ex, h' = HM X1 X2 (meetL a b) a' b' ++ ex) := by
  refine AC.bd (enters_of Tryz.func111 (by kernel_rfl) rfl) fun hbd => ?_
  refine AC.of_body Tryz.func111 Tryz.ntmps111 rfl rfl rfl ?_
  repeat' first
    | refine W_seq ?_
    | refine tn ?_
    | refine W_block ?_
    | refine W_label ?_
    | refine W_scope ?_
    | fail
  refine W_loopC (X := List Sp × List Sp × List Sp) (fun _ => [(0, .sc (.func (.yield l) #[] #[])), (1, .bp 2 0), (2, .bp 3 0)]) (fun x => HM X1 X2 x.1 x.2.1 x.2.2)
    (fun x => x.1 ++ meetL x.2.1 x.2.2 = meetL a b ∧ x.1.length + x.2.1.length + x.2.2.length ≤ a.length + b.length) (fun x => x.2.1.length + x.2.2.length) ([], a, b) ⟨rfl, by simp⟩ ⟨rfl, rfl, rfl, trivial⟩ rfl
    (fun _ => Nat.le_refl _) (fun x _ => HM_bd hbd _ _ _) (fun x _ => look_all .any (by simp; exact ⟨.sc _, .bp (by decide), .bp (by decide)⟩)) (fun x r hr => by cases hr) ?_
  rintro ⟨o, a', b'⟩ ⟨hI, hS⟩
  simp only at hI hS ⊢
  rcases a' with _ | ⟨s, a1⟩
  · rw [meetL_nil, List.append_nil] at hI
    subst hI
    repeat' first
      | (apply p1 (hd := rfl); case hop => first | (apply D_move; rfl) | (apply D_pickT; rfl; rfl) | (apply D_pickF; rfl; rfl) | (apply D_int; rfl; rfl; rfl) | (apply D_lenM; rfl))
      | refine W_seq ?_
      | refine W_region ?_
      | (refine idC ?_; first | refine c0 rfl ?_ | refine cs rfl (fun _ => ?_) (fun _ => ?_))
      | refine WL_nil ?_
      | (refine idG ?_; first | refine g0t rfl rfl rfl ?_ | refine gr rfl rfl ?_ | refine gs rfl rfl (fun _ => ?_) (fun _ => ?_))
      | refine tn ?_
      | refine te ?_
      | (refine idB ?_; refine bh rfl ?_)
      | refine W_skip ?_
      | refine W_block ?_
      | refine W_exit ?_
      | refine sn ?_
      | (refine idLd ?_; refine p1L (D_loadB1 rfl rfl rfl) rfl ?_)
      | (refine idW ?_; refine W_draw1 rfl ?_)
      | (apply d1 (hd := rfl); case hop => first | (apply D_load1; rfl) | (apply D_fld; rfl) | (apply D_idxA; rfl; rfl; omega; (first | omega | (simp; done) | (simp; omega))))
      | (refine idDn ?_; refine dL _ (fun hp' hs => D_loadB1 rfl (hs.trans rfl) rfl) rfl ?_)
      | fail
    all_goals first
      | exact ret0 (.inr rfl) rfl rfl ⟨_, _, [], (List.append_nil _).symm⟩
      | (exfalso; simp only [List.length_cons, List.length_nil] at *; omega)
      | skip
  · rcases b' with _ | ⟨r, b1⟩
    · rw [meetL_nil2, List.append_nil] at hI
      subst hI
      repeat' first
        | (apply p1 (hd := rfl); case hop => first | (apply D_move; rfl) | (apply D_pickT; rfl; rfl) | (apply D_pickF; rfl; rfl) | (apply D_int; rfl; rfl; rfl) | (apply D_lenM; rfl))
        | refine W_seq ?_
        | refine W_region ?_
        | (refine idC ?_; first | refine c0 rfl ?_ | refine cs rfl (fun _ => ?_) (fun _ => ?_))
        | refine WL_nil ?_
        | (refine idG ?_; first | refine g0t rfl rfl rfl ?_ | refine gr rfl rfl ?_ | refine gs rfl rfl (fun _ => ?_) (fun _ => ?_))
        | refine tn ?_
        | refine te ?_
        | (refine idB ?_; refine bh rfl ?_)
        | refine W_skip ?_
        | refine W_block ?_
        | refine W_exit ?_
        | refine sn ?_
        | (refine idLd ?_; refine p1L (D_loadB1 rfl rfl rfl) rfl ?_)
        | (refine idW ?_; refine W_draw1 rfl ?_)
        | (apply d1 (hd := rfl); case hop => first | (apply D_load1; rfl) | (apply D_fld; rfl) | (apply D_idxAn; rfl; rfl; (first | omega | (simp; done))) | (apply D_idxA; rfl; rfl; omega; (first | omega | (simp; done) | (simp; omega))))
        | (refine idDn ?_; refine dL _ (fun hp' hs => D_loadB1 rfl (hs.trans rfl) rfl) rfl ?_)
        | fail
      all_goals first
        | exact ret0 (.inr rfl) rfl rfl ⟨_, _, [], (List.append_nil _).symm⟩
        | (exfalso; simp only [List.length_cons, List.length_nil] at *; omega)
        | skip
    · have hyi := hy o (s :: a1) (r :: b1) ⟨max s.f r.f, min s.t r.t⟩ [.cells (sC ⟨max s.f r.f, min s.t r.t⟩)] (by omega)
      rw [meetL_cons] at hI
      have hnot : Value.bool (bNot true) = .bool false := by simp [bNot]
      simp only [List.length_cons] at hS
      repeat' first
        | (apply p1 (hd := rfl); case hop => first | (apply D_move; rfl) | exact D_sc (D_not rfl) hnot | (apply D_pickT; rfl; rfl) | (apply D_pickF; rfl; rfl) | (apply D_int; rfl; rfl; rfl) | (apply D_lenM; rfl) | (apply D_slVlM; rfl; rfl; all_goals first | omega | ((repeat rw [w64 _ (by omega) (by omega)]); omega) | decide) | exact D_fldB rfl)
        | refine W_seq ?_
        | refine W_region ?_
        | (refine idC ?_; first | refine c0 rfl ?_ | refine cs rfl (fun _ => ?_) (fun _ => ?_))
        | refine WL_nil ?_
        | (refine idG ?_; first | refine g0t rfl rfl rfl ?_ | refine gr rfl rfl ?_ | refine gs rfl rfl (fun _ => ?_) (fun _ => ?_))
        | refine tn ?_
        | refine bn ?_
        | refine te ?_
        | (refine idB ?_; refine bh rfl ?_)
        | refine W_skip ?_
        | refine W_block ?_
        | refine W_exit ?_
        | refine sn ?_
        | (refine idLd ?_; first | refine p1L (D_loadB1 rfl rfl rfl) rfl ?_ | refine p1L (D_loadBA rfl rfl rfl) rfl ?_)
        | (refine idS ?_; refine pS (S_store rfl rfl rfl rfl rfl rfl rfl) ?_)
        | (refine m_yield rfl rfl rfl hyi ?_; rintro bo _ ⟨rfl, ex, rfl⟩)
        | (refine idW ?_; first | refine W_draw0 rfl ?_ | refine W_draw1 rfl ?_)
        | (apply d1 (hd := rfl); case hop => first | exact D_max rfl rfl | exact D_min rfl rfl | (apply D_load1; rfl) | (apply D_fld; rfl) | (apply D_int; rfl; rfl; rfl) | (apply D_idxAn; rfl; rfl; (first | omega | (simp; done))) | exact D_build rfl)
        | (refine idDn ?_; first | refine dL _ (fun hp' hs => D_loadB1 rfl (hs.trans rfl) rfl) rfl ?_ | refine dS (S_store rfl rfl rfl rfl rfl rfl rfl) rfl ?_ | refine dV (S_alloc 6 rfl) rfl rfl ?_)
        | refine WD_nil (by first | decide +kernel | kernel_rfl | rfl) ?_
        | fail
      all_goals first
        | (rw [if_pos (by assumption : max s.f r.f < min s.t r.t), if_pos (by assumption : s.t < r.t), ← List.append_assoc] at hI
           exact ⟨rfl, (_, a1, r :: b1), ⟨hI, by simp; omega⟩, by simp, ⟨rfl, rfl, rfl, trivial⟩, ex, rfl⟩)
        | (rw [if_pos (by assumption : max s.f r.f < min s.t r.t), if_neg (Int.not_lt.2 (by assumption : r.t ≤ s.t)), ← List.append_assoc] at hI
           exact ⟨rfl, (_, s :: a1, b1), ⟨hI, by simp; omega⟩, by simp, ⟨rfl, rfl, rfl, trivial⟩, ex, rfl⟩)
        | (rw [if_neg (Int.not_lt.2 (by assumption : min s.t r.t ≤ max s.f r.f)), if_pos (by assumption : s.t < r.t), List.nil_append] at hI
           exact ⟨rfl, (_, a1, r :: b1), ⟨hI, by simp; omega⟩, by simp, ⟨rfl, rfl, rfl, trivial⟩, _, rfl⟩)
        | (rw [if_neg (Int.not_lt.2 (by assumption : min s.t r.t ≤ max s.f r.f)), if_neg (Int.not_lt.2 (by assumption : r.t ≤ s.t)), List.nil_append] at hI
           exact ⟨rfl, (_, s :: a1, b1), ⟨hI, by simp; omega⟩, by simp, ⟨rfl, rfl, rfl, trivial⟩, _, rfl⟩)
        | (exfalso; simp only [List.length_cons, List.length_nil] at *; omega)
        | skip
      all_goals trace_state
end Go.Proofs

namespace Go.Proofs
open Go.AL
attribute [local irreducible] Go.AL.W Go.AL.WL Go.AL.WD Go.AL.POp Go.AL.PPOp Go.AL.POpS Go.AL.PC Go.AL.AC Go.AL.YW Go.AL.Ret Go.AL.Le Go.AL.thn Go.AL.inBlk Go.AL.scp
theorem meet_len : ∀ (n : Nat) (a b : List Sp), a.length + b.length ≤ n → (meetL a b).length ≤ a.length + b.length
  | _, [], b, _ => by rw [meetL_nil]; simp
  | _, _ :: _, [], _ => by rw [meetL_nil2]; simp
  | 0, _ :: _, _ :: _, h => by simp at h
  | n + 1, s :: a, r :: b, hn => by
    rw [meetL_cons]
    simp only [List.length_cons, List.length_append] at hn ⊢
    have h1 : (if max s.f r.f < min s.t r.t then [(⟨max s.f r.f, min s.t r.t⟩ : Sp)] else []).length ≤ 1 := by split <;> simp
    by_cases hc : s.t < r.t
    · rw [if_pos hc]
      have := meet_len n a (r :: b) (by simp; omega)
      simp only [List.length_cons] at this; omega
    · rw [if_neg hc]
      have := meet_len n (s :: a) b (by simp; omega)
      simp only [List.length_cons] at this; omega
set_option maxHeartbeats 16000000 in
theorem shared_pc [GlobF Tryz.prog] (a b : List Sp) (hla : a.length + b.length < 8796093022208) (hlb : b.length < 8796093022208) : PC Tryz.prog 67 [sl2 a, sl2 b] (sl2 (meetL a b)) := by
  refine PC.of_body Tryz.func67 Tryz.ntmps67 rfl rfl rfl ?_
  repeat' first
    | (refine WL_adoptC 0 0 2 69 rfl rfl ?_)
    | (apply p1 (hd := rfl); case hop => first | (apply D_move; rfl) | (apply D_assign; rfl))
    | refine W_seq ?_
    | refine W_region ?_
    | refine WL_nil ?_
    | refine tn ?_
    | refine W_block ?_
    | (refine idA ?_; refine m_alloc rfl ?_)
    | (refine m_call (d := 9) (meets_ac a b _) rfl rfl rfl ?_; rintro _ _ ⟨rfl, rfl⟩)
    | fail
  refine W_range (.inl rfl) fun l => ?_
  refine AC.mono (meets1_ac _ _ a b l hla hlb ?_) ?_
  · intro o a' b' s ex ho
    refine YW.round (r := 5) rfl rfl rfl ?_
    repeat' first
      | refine W_region ?_
      | refine WL_nil ?_
      | (refine idA ?_; refine m_var rfl rfl rfl rfl rfl rfl rfl ?_)
      | fail
    refine ⟨rfl, rfl, ?_⟩
    repeat' first
      | (apply p1 (hd := rfl); case hop => first | (apply D_loadW; rfl; rfl) | (apply D_lit; rfl; rfl; rfl; rfl))
      | refine W_region ?_
      | refine WL_nil ?_
      | refine bn ?_
      | refine W_block ?_
      | (refine idLd ?_; refine p1L (D_loadB1 rfl rfl rfl) rfl ?_)
      | (refine idS ?_; refine pS (S_store rfl rfl rfl rfl rfl rfl rfl) ?_)
      | (refine idAp ?_; refine m_app rfl rfl (by first | rfl | assumption | exact get_set (by assumption) | exact get_set (get_set (by assumption)) | exact get_set (get_set (get_set (by assumption))) | ((repeat first | assumption | exact get_last | (refine get_last2 ?_; focus (simp; done)) | apply get_set | apply get_app | (apply get_ne; focus omega)); done)) ?_ rfl rfl ?_ ?_ rfl ?_; (first | rfl | focus (simp only [List.length_map, List.length_append, List.length_cons, List.length_nil]; omega) | focus (simp; done) | focus (simp; omega)); (first | focus (simp only [List.length_map, List.length_append, List.length_cons, List.length_nil]; omega) | focus (simp; done) | focus (simp; omega)); (first | focus (simp only [List.length_map, List.length_append, List.length_cons, List.length_nil]; omega) | focus (simp; done) | focus (simp; omega)))
      | fail
    refine ⟨rfl, ⟨_, _, rfl⟩, rfl, ex, ?_⟩
    simp
  · rintro v h' ⟨a', b', ex, rfl⟩
    refine ⟨_, _, rfl, by decide, ?_⟩
    repeat' first
      | (apply p1 (hd := rfl); case hop => (apply D_assign; rfl))
      | refine W_seq ?_
      | refine W_region ?_
      | refine WL_nil ?_
      | refine tn ?_
      | refine bn ?_
      | refine W_ret ?_
      | (refine idR ?_; refine rL1 rfl (by first | exact trivial | exact ⟨rfl, trivial⟩) (by first | exact ResO.tmp rfl | exact ResO.cellBA rfl rfl rfl | exact ResO.cellB1 rfl rfl rfl | exact ResO.cellEA rfl rfl | exact ResO.cellE1 rfl) ?_)
      | (refine idLd ?_; refine p1L (D_loadB1 rfl rfl rfl) rfl ?_)
      | fail
    all_goals exact Le.tokq rfl
abbrev HR (o : List Sp) (at_ : Int) : List AObj := [.cells [.sl (some 1) 2 (o.map sC)], .tail o.length 2 69, .cells [.sc (.int .i64 at_)]]
theorem hr3 {n m e : Nat} {x y : List (List AV)} {z : AObj} (h1 : x = y) (h2 : n = m) : [AObj.cells [.sl (some 1) 2 x], .tail n 2 e, z] = [.cells [.sl (some 1) 2 y], .tail m 2 e, z] := by rw [h1, h2]
def oneR (a b : Int) : List Sp := if a < b then [⟨a, b⟩] else []
set_option maxHeartbeats 4000000 in
theorem rest1_ac [GlobF Tryz.prog] (o : List Sp) (a b : Int) (ho : o.length < 8796093022208) : AC Tryz.prog 94 [.sc (.int .i64 b), .bp 2 0, .bp 0 0] (HR o a) (fun v h' => v = .tu [] ∧ h' = HR (o ++ oneR a b) a) := by
  refine AC.of_body Tryz.func94 Tryz.ntmps94 rfl rfl rfl ?_
  repeat' first
    | (apply p1 (hd := rfl); case hop => first | (apply D_move; rfl) | (apply D_int; rfl; rfl; rfl) | (apply D_lit; rfl; rfl; rfl; rfl) | exact D_build rfl)
    | refine W_seq ?_
    | refine W_region ?_
    | (refine idC ?_; refine cs rfl (fun _ => ?_) (fun _ => ?_))
    | refine WL_nil ?_
    | refine tn ?_
    | refine W_skip ?_
    | (refine idLd ?_; refine p1L (D_loadB1 rfl rfl rfl) rfl ?_)
    | (refine idS ?_; refine pS (S_store rfl rfl rfl rfl rfl rfl rfl) ?_)
    | (refine idAp ?_; refine m_appB rfl rfl rfl (by first | rfl | assumption | exact get_set (by assumption) | exact get_set (get_set (by assumption)) | exact get_set (get_set (get_set (by assumption))) | ((repeat first | assumption | exact get_last | (refine get_last2 ?_; focus (simp; done)) | apply get_set | apply get_app | (apply get_ne; focus omega)); done)) ?_ rfl rfl ?_ ?_ rfl ?_; (first | rfl | focus (simp only [List.length_map, List.length_append, List.length_cons, List.length_nil]; omega) | focus (simp; done) | focus (simp; omega)); (first | focus (simp only [List.length_map, List.length_append, List.length_cons, List.length_nil]; omega) | focus (simp; done) | focus (simp; omega)); (first | focus (simp only [List.length_map, List.length_append, List.length_cons, List.length_nil]; omega) | focus (simp; done) | focus (simp; omega)))
    | fail
  all_goals first
    | exact Nat.le_refl _
    | (rename_i k1
       refine ret0 (.inr rfl) rfl rfl ⟨rfl, ?_⟩
       rw [show oneR a b = [⟨a, b⟩] by unfold oneR; rw [if_pos k1]]
       refine hr3 ?_ ?_
       · rw [List.map_append]; rfl
       · rw [List.length_map, List.length_append]; rfl)
    | (rename_i k1
       refine ret0 (.inr rfl) rfl rfl ⟨rfl, ?_⟩
       unfold oneR; rw [if_neg (Int.not_lt.2 k1)]; simp; done)
    | skip
  all_goals trace_state
set_option maxHeartbeats 16000000 in
theorem rest_pc [GlobF Tryz.prog] (l : List Sp) (hl : l.length + 1 < 8796093022208) : PC Tryz.prog 68 [sl2 l] (sl2 (restL loT l)) := by
  refine PC.of_body Tryz.func68 Tryz.ntmps68 rfl rfl rfl ?_
  repeat' first
    | (refine m_alloc (t := 2) rfl ?_)
    | (refine WL_adoptC 0 0 2 69 rfl rfl ?_)
    | (apply p1 (hd := rfl); case hop => first | (apply D_move; rfl) | (apply D_assign; rfl) | (apply D_lenM; rfl) | exact D_mkfn rfl)
    | refine W_seq ?_
    | refine W_region ?_
    | refine WL_nil ?_
    | refine tn ?_
    | refine W_block ?_
    | (refine idA ?_; refine m_alloc rfl ?_)
    | (refine idS ?_; refine pS (S_store rfl rfl rfl rfl rfl rfl rfl) ?_)
    | fail
  refine W_loopL (X := Nat × List Sp × Int) (fun x => [(3, .bp 0 0), (4, .bp 2 0), (5, .fn (.func 94) [] [.bp 2 0, .bp 0 0]), (9, sl2 l), (10, .sc (.int .i64 (l.length : Int))), (11, .sc (.int .i64 (x.1 : Int)))]) (fun x => HR x.2.1 x.2.2)
    (fun x => x.1 ≤ l.length ∧ x.2.1.length ≤ x.1 ∧ x.2.1 ++ restL x.2.2 (l.drop x.1) = restL loT l) (fun x => l.length - x.1) (0, [], loT) ⟨Nat.zero_le _, Nat.le_refl _, rfl⟩ ⟨rfl, rfl, rfl, rfl, rfl, rfl, trivial⟩ rfl ?_
  rintro ⟨i, o, a⟩ ⟨hi, ho, hI⟩
  simp only at hi ho hI ⊢
  have hone : ∀ b, (oneR a b).length ≤ 1 := fun b => by unfold oneR; split <;> simp
  by_cases hil : i < l.length
  · rw [List.drop_eq_getElem_cons hil, show restL a (l[i] :: l.drop (i + 1)) = oneR a l[i].f ++ restL l[i].t (l.drop (i + 1)) from rfl] at hI
    repeat' first
      | (apply p1 (hd := rfl); case hop => first | (apply D_move; rfl) | (apply D_load1; rfl) | (apply D_fld; rfl) | (apply D_int; rfl; rfl; rfl) | (apply D_loadW; rfl; rfl) | (apply D_idxAn; rfl; rfl; (first | omega | (simp; done))))
      | refine W_seq ?_
      | refine W_region ?_
      | (refine idC ?_; refine cs rfl (fun _ => ?_) (fun _ => ?_))
      | refine WL_nil ?_
      | refine tn ?_
      | refine bn ?_
      | refine te ?_
      | (refine idB ?_; refine bh rfl ?_)
      | refine W_skip ?_
      | refine W_block ?_
      | refine W_exit ?_
      | (refine idA ?_; refine m_var rfl rfl rfl rfl rfl rfl rfl ?_)
      | (refine idS ?_; refine pS (S_store rfl rfl rfl rfl rfl rfl rfl) ?_)
      | (refine m_callC (d := 18) (rest1_ac o a (l[i]'hil).f (by omega)) rfl rfl rfl rfl ?_; rintro _ _ ⟨rfl, rfl⟩)
      | fail
    · have := hone (l[i]'hil).f
      refine ⟨rfl, (i + 1, o ++ oneR a l[i].f, l[i].t), ⟨by simp only []; omega, by simp only [List.length_append]; omega, ?_⟩, by simp only []; omega, ⟨rfl, rfl, rfl, rfl, rfl, ieq (wsucc i (by omega)), trivial⟩, rfl⟩
      rw [← hI]; exact List.append_assoc _ _ _
    · exfalso; omega
  · have e : l.drop i = [] := List.drop_eq_nil_of_le (by omega)
    rw [e, show restL a [] = oneR a hiT from rfl] at hI
    repeat' first
      | (apply p1 (hd := rfl); case hop => first | (apply D_move; rfl) | (apply D_assign; rfl) | (apply D_load1; rfl) | (apply D_fld; rfl) | (apply D_int; rfl; rfl; rfl) | (apply D_loadW; rfl; rfl) | (apply D_idxAn; rfl; rfl; (first | omega | (simp; done))))
      | refine W_seq ?_
      | refine W_region ?_
      | (refine idC ?_; refine cs rfl (fun _ => ?_) (fun _ => ?_))
      | refine WL_nil ?_
      | refine tn ?_
      | refine te ?_
      | (refine idB ?_; refine bh rfl ?_)
      | refine W_skip ?_
      | refine W_block ?_
      | refine W_exit ?_
      | refine W_ret ?_
      | (refine idR ?_; refine ret1 rfl rfl rfl ?_)
      | (refine idLd ?_; refine p1L (D_loadB1 rfl rfl rfl) rfl ?_)
      | (refine idA ?_; refine m_var rfl rfl rfl rfl rfl rfl rfl ?_)
      | (refine m_callC (d := 23) (rest1_ac o a hiT (by omega)) rfl rfl rfl rfl ?_; rintro _ _ ⟨rfl, rfl⟩)
      | fail
    · exfalso; omega
    · rw [← hI]; exact Le.tokq rfl
theorem rest_len : ∀ (l : List Sp) (a : Int), (restL a l).length ≤ l.length + 1
  | [], a => by unfold restL; split <;> simp
  | s :: l, a => by
    have := rest_len l s.t
    unfold restL
    rw [List.length_append]
    split <;> simp <;> omega
set_option maxHeartbeats 4000000 in
theorem sand_pc [GlobF Tryz.prog] (a b : List Sp) (ha : SetP a) (hb : SetP b) (hla : a.length + b.length + 1 < 8796093022208) (hlb : b.length < 8796093022208) : PC Tryz.prog 85 [sl2 a, sl2 b] (.tu [sl2 (meetL a b), .sc (.int .i64 0)]) := by
  have s1 := set_pc a (by omega)
  have s2 := set_pc b (by omega)
  rw [← dP_T ha] at s1
  rw [← dP_T hb] at s2
  refine PC.of_body Tryz.func85 Tryz.ntmps85 rfl rfl rfl ?_
  repeat' first
    | (apply p1 (hd := rfl); case hop => first | (apply D_move; rfl) | (apply D_assign; rfl) | (apply D_pc s1; rfl; exact .same rfl .nil) | (apply D_pc s2; rfl; exact .same rfl .nil) | (apply D_pc (shared_pc a b (by omega) (by omega)); rfl; exact .same rfl (.same rfl .nil)) | (apply D_pickT; rfl; rfl) | (apply D_pickF; rfl; rfl) | (apply D_not; rfl))
    | refine W_seq ?_
    | refine W_region ?_
    | (refine idC ?_; first | refine c1 rfl ?_ | refine cs rfl (fun _ => ?_) (fun _ => ?_))
    | refine WL_nil ?_
    | (refine idG ?_; first | refine g0f rfl rfl rfl ?_ | refine gr rfl rfl ?_ | refine gs rfl rfl (fun _ => ?_) (fun _ => ?_))
    | refine tn ?_
    | refine tr ?_
    | refine W_skip ?_
    | refine W_ret ?_
    | (refine idR ?_; refine ret2 rfl rfl rfl rfl ?_ ?_)
    | refine Le.int ?_
    | fail
  all_goals first | rfl | contradiction | exact Le.of_eq rfl | skip
  all_goals trace_state
set_option maxHeartbeats 4000000 in
theorem sminus_pc [GlobF Tryz.prog] (a b : List Sp) (ha : SetP a) (hb : SetP b) (hla : a.length + b.length + 1 < 8796093022208) (hlb : b.length < 8796093022208) : PC Tryz.prog 39 [sl2 a, sl2 b] (.tu [sl2 (meetL a (restL loT b)), .sc (.int .i64 0)]) := by
  have s1 := set_pc a (by omega)
  have s2 := set_pc b (by omega)
  rw [← dP_T ha] at s1
  rw [← dP_T hb] at s2
  have hr := rest_len b loT
  refine PC.of_body Tryz.func39 Tryz.ntmps39 rfl rfl rfl ?_
  repeat' first
    | (apply p1 (hd := rfl); case hop => first | (apply D_move; rfl) | (apply D_assign; rfl) | (apply D_pc s1; rfl; exact .same rfl .nil) | (apply D_pc s2; rfl; exact .same rfl .nil) | (apply D_pc (rest_pc b (by omega)); rfl; exact .same rfl .nil) | (apply D_pc (shared_pc a (restL loT b) (by omega) (by omega)); rfl; exact .same rfl (.same rfl .nil)) | (apply D_pickT; rfl; rfl) | (apply D_pickF; rfl; rfl) | (apply D_not; rfl))
    | refine W_seq ?_
    | refine W_region ?_
    | (refine idC ?_; first | refine c1 rfl ?_ | refine cs rfl (fun _ => ?_) (fun _ => ?_))
    | refine WL_nil ?_
    | (refine idG ?_; first | refine g0f rfl rfl rfl ?_ | refine gr rfl rfl ?_ | refine gs rfl rfl (fun _ => ?_) (fun _ => ?_))
    | refine tn ?_
    | refine tr ?_
    | refine W_skip ?_
    | refine W_ret ?_
    | (refine idR ?_; refine ret2 rfl rfl rfl rfl ?_ ?_)
    | refine Le.int ?_
    | fail
  all_goals first | rfl | contradiction | exact Le.of_eq rfl | skip
  all_goals trace_state
abbrev minL (a b : List Sp) : List Sp := meetL a (restL loT b)
end Go.Proofs

namespace Go.Proofs
open Go.AL
attribute [local irreducible] Go.AL.W Go.AL.WL Go.AL.WD Go.AL.POp Go.AL.PPOp Go.AL.POpS Go.AL.PC Go.AL.AC Go.AL.YW Go.AL.Ret Go.AL.Le Go.AL.thn Go.AL.inBlk Go.AL.scp
theorem rng_in {l : List Sp} (h : rngS l) {x : Int} (hx : inS l x) : loT ≤ x ∧ x < hiT := by
  obtain ⟨s, hs, h1, h2⟩ := hx
  have := h s hs
  omega
theorem rng_of {l : List Sp} (h : SetP l) (hx : ∀ x, inS l x → loT ≤ x ∧ x < hiT) : rngS l := fun s hs => by
  have hne := h.1 s hs
  have h1 := hx s.f ⟨s, hs, Int.le_refl _, hne⟩
  have h2 := hx (s.t - 1) ⟨s, hs, by omega, by omega⟩
  omega
theorem and_ok {a b : List Sp} (ha : SetP a) (hb : SetP b) : SetP (meetL a b) ∧ ∀ x, inS (meetL a b) x ↔ (inS a x ∧ inS b x) := meet_ok _ a b (Nat.le_refl _) ha hb
theorem min_ok {a b : List Sp} (ha : SetP a) (hb : SetP b) (ra : ∀ x, inS a x → loT ≤ x ∧ x < hiT) (rb : rngS b) : SetP (minL a b) ∧ ∀ x, inS (minL a b) x ↔ (inS a x ∧ ¬ inS b x) := by
  obtain ⟨r1, r2⟩ := rest_ok b loT hb rb (fun s hs => (rb s hs).1.1)
  obtain ⟨m1, m2⟩ := and_ok ha r1
  refine ⟨m1, fun x => (m2 x).trans ⟨fun h => ⟨h.1, ((r2 x).1 h.2).2.2⟩, fun h => ⟨h.1, (r2 x).2 ⟨(ra x h.1).1, (ra x h.1).2, h.2⟩⟩⟩⟩
theorem ne_app {a b : List Sp} (ha : SetP a) (hb : SetP b) : neS (a ++ b) := fun s hs => by
  rcases List.mem_append.1 hs with h | h
  · exact ha.1 s h
  · exact hb.1 s h
theorem or_ok {a b : List Sp} (ha : SetP a) (hb : SetP b) : SetP (canS (a ++ b)) ∧ ∀ x, inS (canS (a ++ b)) x ↔ (inS a x ∨ inS b x) := by
  obtain ⟨k1, k2⟩ := canS_ok (ne_app ha hb)
  exact ⟨k1, fun x => (k2 x).trans (inS_append a b x)⟩
theorem canS_len (l : List Sp) : (canS l).length ≤ l.length := by
  have := J_len (l.mergeSort fun x y => decide (x.f ≤ y.f))
  rwa [List.length_mergeSort] at this
theorem min_len (a b : List Sp) : (minL a b).length ≤ a.length + b.length + 1 := by
  have h1 := meet_len _ a (restL loT b) (Nat.le_refl _)
  have h2 := rest_len b loT
  show (meetL a (restL loT b)).length ≤ _
  omega
end Go.Proofs
