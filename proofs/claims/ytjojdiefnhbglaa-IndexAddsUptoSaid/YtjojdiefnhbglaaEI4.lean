/- Contracts of the next datom, in the index and in the document; of the document's adding. -/
import Derived.Test.YtjojdiefnhbglaaEI3
import Derived.Test.YtjojdiefnhbglaaED3
namespace Go.Proofs
open Go.AL Go.Sort
attribute [local irreducible] Go.AL.W Go.AL.WL Go.AL.WD Go.AL.POp Go.AL.PPOp Go.AL.POpS Go.AL.PC Go.AL.AC Go.AL.YW Go.AL.Ret Go.AL.Le Go.AL.thn Go.AL.inBlk Go.AL.scp
theorem split_fil {α : Type} {R : α → α → Prop} {p : α → Bool} (hp : ∀ a b, R a b → p b = true → p a = true) : ∀ {l : List α}, l.Pairwise R → l.drop (l.filter p).length = l.filter fun x => !p x
  | [], _ => rfl
  | x :: l, h => by
    obtain ⟨h1, h2⟩ := List.pairwise_cons.1 h
    by_cases c : p x = true
    · rw [List.filter_cons, if_pos c, List.length_cons, List.drop_succ_cons, split_fil hp h2, List.filter_cons, if_neg (by simp [c])]
    · have e : l.filter p = [] := List.filter_eq_nil_iff.2 fun y hy hcy => c (hp x y (h1 y hy) hcy)
      rw [List.filter_cons, if_neg c, e, List.length_nil, List.drop_zero]
      refine (List.filter_eq_self.2 fun y hy => ?_).symm
      rcases List.mem_cons.1 hy with rfl | hy
      · simpa using c
      · have : ¬ p y = true := fun hcy => c (hp x y (h1 y hy) hcy)
        simpa using this
noncomputable def nextL (o : Int) (L : List Dat) (d : Dat) : Option Dat := if dkeyE o d = 0 then (dsortL o L).find? (fun s => decide (0 ≤ cmpD o s d)) else none
theorem dkey_o {o : Int} {d : Dat} (h : dkeyE o d = 0) : 1 ≤ o ∧ o ≤ 4 := by
  unfold dkeyE at h
  by_cases c : 1 ≤ o ∧ o ≤ 4
  · exact c
  · rw [if_neg c] at h; cases h
theorem next_toL {o : Int} {L : List Dat} {t : Option Tr} (h : TreeOf o L t) (ho : 1 ≤ o ∧ o ≤ 4) (hL : okL L) {d : Dat} (hd : dkeyE o d = 0) (hi : datI d) :
    (toL (topT t))[rankT (dkeyB o d) (topT t)]? = (nextL o L d).map fun s => (dkeyB o s, []) := by
  have hk : ∀ s, s ∈ dsortL o L → cbB (dkeyB o s) (dkeyB o d) = cmpD o s d := fun s hs => by
    obtain ⟨m1, m2⟩ := (dsort_mem ho L s).1 hs
    exact key_cmpD ho (hL s m1).2 hi ((key_ok ho).2 ⟨(hL s m1).1, m2⟩) hd
  have hp : (dsortL o L).Pairwise fun a b => cbB (dkeyB o a) (dkeyB o b) < 0 := by
    have := h.rise
    unfold RiseT Rise at this
    rw [h.sorted ho hL] at this
    exact List.pairwise_map.1 this
  have hs := split_fil (p := fun s => decide (cbB (dkeyB o s) (dkeyB o d) < 0)) (fun a b hab hb => by
    simp only [decide_eq_true_eq] at hb ⊢
    exact cblt (by omega) (by omega) (.inl hab)) hp
  have hr : rankT (dkeyB o d) (topT t) = ((dsortL o L).filter fun s => decide (cbB (dkeyB o s) (dkeyB o d) < 0)).length := by
    rw [rank_keys _ h.rise, h.sorted ho hL, List.filter_map, List.length_map]; rfl
  unfold nextL
  rw [if_pos hd, toL_L h ho hL, List.getElem?_map, hr, ← Nat.add_zero (List.length _), ← List.getElem?_drop, hs, ← List.head?_eq_getElem?, ← List.head?_filter]
  congr 2
  exact List.filter_congr fun s hs2 => by rw [hk s hs2, ← decide_not]; exact decide_eq_decide.2 (by omega)
theorem next_mem {o : Int} {L : List Dat} {d s : Dat} (h : nextL o L d = some s) : s ∈ dsortL o L := by
  unfold nextL at h
  split at h
  · exact List.mem_of_find?_eq_some h
  · cases h
set_option maxHeartbeats 16000000 in
theorem inext_pc [GlobF Try.prog] (x : Option Ix) (L : List Dat) (hx : IxOf L (topI x)) (hL : okL L) (hl : L.length ≤ 262144) (o : Int) (d : Dat) (hi : datI d) (hs : d.v.s.length < 9223372036854775808) :
    PC Try.prog 14 [xA x, .sc (.int .i64 o), eD d] (.tu [eD ((nextL o L d).getD dat0), .sc (.bool (nextL o L d).isSome)]) := by
  have hk := dkey_pc o d hs
  by_cases he : dkeyE o d = 0
  · have ho := dkey_o he
    rw [he] at hk
    rcases x with _ | T
    · have hno : nextL o L d = none := by
        obtain ⟨n, rfl⟩ : ∃ n : Nat, o = n := ⟨o.toNat, by omega⟩
        have := toL_L (hx n (by omega) (by omega)) ho hL
        unfold nextL
        rw [if_pos he, show dsortL (n : Int) L = [] from List.map_eq_nil_iff.1 (this.symm.trans rfl)]; rfl
      rw [hno, xA_no]
      refine PC.of_body Try.func14 Try.ntmps14 rfl rfl rfl ?_
      repeat' first
        | (apply p1 (hd := rfl); case hop => first | (apply D_move; rfl) | (apply D_assign; rfl) | exact D_peN rfl rfl | (apply D_pc hk; rfl; exact .same rfl (.same rfl .nil)) | (apply D_pickT; rfl; rfl) | (apply D_ext; rfl; rfl) | (apply D_loadW; rfl; rfl) | (apply D_box; rfl; rfl) | exact D_build rfl)
        | refine W_seq ?_
        | refine W_region ?_
        | (refine idC ?_; first | refine c1 rfl ?_)
        | refine WL_nil ?_
        | (refine idG ?_; first | refine g0f rfl rfl rfl ?_)
        | refine tn ?_
        | refine tr ?_
        | refine W_ret ?_
        | (refine idR ?_; first | refine rL2 rfl (by first | exact trivial | exact ⟨rfl, trivial⟩) (by first | exact ResO.tmp rfl | exact ResO.cellBA rfl rfl rfl | exact ResO.cellB1 rfl rfl rfl | exact ResO.cellEA rfl rfl | exact ResO.cellE1 rfl) (by first | exact ResO.tmp rfl | exact ResO.cellBA rfl rfl rfl | exact ResO.cellB1 rfl rfl rfl | exact ResO.cellEA rfl rfl | exact ResO.cellE1 rfl) ?_ ?_)
        | (refine idA ?_; first | refine m_alloc rfl ?_)
        | (refine idS ?_; first | refine pS (S_store rfl rfl rfl rfl rfl rfl rfl) ?_)
        | refine Le.bool ?_
      all_goals first | exact Le.of_eq rfl | rfl | contradiction | skip
    · rw [xA_so]
      have main : ∀ n : Nat, 1 ≤ n → n ≤ 4 → o = n → TreeOf o L (T n) := fun n h1 h2 e => by rw [e]; exact hx n h1 h2
      have hnL : ∀ s, nextL o L d = some s → dkeyE o s = 0 ∧ datI s := fun s hs2 => by
        obtain ⟨m1, m2⟩ := (dsort_mem ho L s).1 (next_mem hs2)
        exact ⟨(key_ok ho).2 ⟨(hL s m1).1, m2⟩, (hL s m1).2⟩
      rcases (by omega : o = 1 ∨ o = 2 ∨ o = 3 ∨ o = 4) with rfl | rfl | rfl | rfl
      · have htr := main 1 (by decide) (by decide) rfl
        have hnx := next_toL htr ho hL he hi
        have hsz : sz (topT (T 1)) < 1152921504606846975 := by have := htr.len; omega
        by_cases hrk : rankT (dkeyB 1 d) (topT (T 1)) < sz (topT (T 1))
        · have hsk := tseek_pc (dkeyB 1 d) (T 1) htr.ok hsz (shT_L htr) hrk
          rw [at_toL hrk] at hnx
          cases hN : nextL 1 L d with
          | none => rw [hN] at hnx; cases hnx
          | some s =>
            rw [hN] at hnx
            rw [Option.some.inj hnx] at hsk
            obtain ⟨s1, s2⟩ := hnL s hN
            have hrd := dread_pc 1 (dkeyB 1 s) (by have := dkey_len 1 s; omega)
            obtain ⟨k1, k2⟩ := key_read s2 s1
            rw [k1, k2] at hrd
            refine PC.of_body Try.func14 Try.ntmps14 rfl rfl rfl ?_
            repeat' first
              | (apply p1 (hd := rfl); case hop => first | (apply D_move; rfl) | (apply D_assign; rfl) | exact D_peE rfl rfl | exact D_nilE rfl | (apply D_pc hk; rfl; exact .same rfl (.same rfl .nil)) | (apply D_pc hsk; rfl; exact .same rfl (.same rfl .nil)) | (apply D_pc hrd; rfl; exact .same rfl (.same rfl .nil)) | (apply D_load1; rfl) | (apply D_fld; rfl) | (apply D_pickF; rfl; rfl) | (apply D_int; rfl; rfl; rfl) | (apply D_ext; rfl; rfl) | (apply D_not; rfl) | (apply D_loadW; rfl; rfl) | (apply D_box; rfl; rfl) | exact D_build rfl | (apply D_ixPE; rfl; rfl; all_goals first | omega | ((repeat rw [w64 _ (by omega) (by omega)]); omega) | decide))
              | refine W_seq ?_
              | refine W_region ?_
              | (refine idC ?_; first | refine cs rfl (fun _ => ?_) (fun _ => ?_))
              | refine WL_nil ?_
              | (refine idG ?_; first | refine gr rfl rfl ?_)
              | refine tn ?_
              | refine tr ?_
              | refine W_skip ?_
              | refine W_ret ?_
              | (refine idR ?_; first | refine rL2 rfl (by first | exact trivial | exact ⟨rfl, trivial⟩) (by first | exact ResO.tmp rfl | exact ResO.cellBA rfl rfl rfl | exact ResO.cellB1 rfl rfl rfl | exact ResO.cellEA rfl rfl | exact ResO.cellE1 rfl) (by first | exact ResO.tmp rfl | exact ResO.cellBA rfl rfl rfl | exact ResO.cellB1 rfl rfl rfl | exact ResO.cellEA rfl rfl | exact ResO.cellE1 rfl) ?_ ?_)
              | (refine idA ?_; first | refine m_var rfl rfl rfl rfl rfl rfl rfl ?_ | refine m_alloc rfl ?_)
              | (refine idS ?_; first | refine pS (S_store rfl rfl rfl rfl rfl rfl rfl) ?_)
              | refine Le.bool ?_
            all_goals first | exact (iEq_t 0 0).mpr rfl | exact Le.of_eq rfl | rfl | contradiction | skip
        · have hsk := tseekN_pc (dkeyB 1 d) (T 1) htr.ok hsz hrk
          rw [List.getElem?_eq_none (by rw [toL_len]; omega)] at hnx
          cases hN : nextL 1 L d with
          | some s => rw [hN] at hnx; cases hnx
          | none =>
            refine PC.of_body Try.func14 Try.ntmps14 rfl rfl rfl ?_
            repeat' first
              | (apply p1 (hd := rfl); case hop => first | (apply D_move; rfl) | (apply D_assign; rfl) | exact D_peE rfl rfl | exact D_nilE rfl | (apply D_pc hk; rfl; exact .same rfl (.same rfl .nil)) | (apply D_pc hsk; rfl; exact .same rfl (.same rfl .nil)) | (apply D_load1; rfl) | (apply D_fld; rfl) | (apply D_pickF; rfl; rfl) | (apply D_int; rfl; rfl; rfl) | (apply D_ext; rfl; rfl) | (apply D_not; rfl) | (apply D_loadW; rfl; rfl) | (apply D_box; rfl; rfl) | exact D_build rfl | (apply D_ixPE; rfl; rfl; all_goals first | omega | ((repeat rw [w64 _ (by omega) (by omega)]); omega) | decide))
              | refine W_seq ?_
              | refine W_region ?_
              | (refine idC ?_; first | refine cs rfl (fun _ => ?_) (fun _ => ?_))
              | refine WL_nil ?_
              | (refine idG ?_; first | refine gr rfl rfl ?_)
              | refine tn ?_
              | refine tr ?_
              | refine W_skip ?_
              | refine W_ret ?_
              | (refine idR ?_; first | refine rL2 rfl (by first | exact trivial | exact ⟨rfl, trivial⟩) (by first | exact ResO.tmp rfl | exact ResO.cellBA rfl rfl rfl | exact ResO.cellB1 rfl rfl rfl | exact ResO.cellEA rfl rfl | exact ResO.cellE1 rfl) (by first | exact ResO.tmp rfl | exact ResO.cellBA rfl rfl rfl | exact ResO.cellB1 rfl rfl rfl | exact ResO.cellEA rfl rfl | exact ResO.cellE1 rfl) ?_ ?_)
              | (refine idA ?_; first | refine m_var rfl rfl rfl rfl rfl rfl rfl ?_ | refine m_alloc rfl ?_)
              | (refine idS ?_; first | refine pS (S_store rfl rfl rfl rfl rfl rfl rfl) ?_)
              | refine Le.bool ?_
            all_goals first | exact Le.of_eq rfl | rfl | contradiction | skip
      · have htr := main 2 (by decide) (by decide) rfl
        have hnx := next_toL htr ho hL he hi
        have hsz : sz (topT (T 2)) < 1152921504606846975 := by have := htr.len; omega
        by_cases hrk : rankT (dkeyB 2 d) (topT (T 2)) < sz (topT (T 2))
        · have hsk := tseek_pc (dkeyB 2 d) (T 2) htr.ok hsz (shT_L htr) hrk
          rw [at_toL hrk] at hnx
          cases hN : nextL 2 L d with
          | none => rw [hN] at hnx; cases hnx
          | some s =>
            rw [hN] at hnx
            rw [Option.some.inj hnx] at hsk
            obtain ⟨s1, s2⟩ := hnL s hN
            have hrd := dread_pc 2 (dkeyB 2 s) (by have := dkey_len 2 s; omega)
            obtain ⟨k1, k2⟩ := key_read s2 s1
            rw [k1, k2] at hrd
            refine PC.of_body Try.func14 Try.ntmps14 rfl rfl rfl ?_
            repeat' first
              | (apply p1 (hd := rfl); case hop => first | (apply D_move; rfl) | (apply D_assign; rfl) | exact D_peE rfl rfl | exact D_nilE rfl | (apply D_pc hk; rfl; exact .same rfl (.same rfl .nil)) | (apply D_pc hsk; rfl; exact .same rfl (.same rfl .nil)) | (apply D_pc hrd; rfl; exact .same rfl (.same rfl .nil)) | (apply D_load1; rfl) | (apply D_fld; rfl) | (apply D_pickF; rfl; rfl) | (apply D_int; rfl; rfl; rfl) | (apply D_ext; rfl; rfl) | (apply D_not; rfl) | (apply D_loadW; rfl; rfl) | (apply D_box; rfl; rfl) | exact D_build rfl | (apply D_ixPE; rfl; rfl; all_goals first | omega | ((repeat rw [w64 _ (by omega) (by omega)]); omega) | decide))
              | refine W_seq ?_
              | refine W_region ?_
              | (refine idC ?_; first | refine cs rfl (fun _ => ?_) (fun _ => ?_))
              | refine WL_nil ?_
              | (refine idG ?_; first | refine gr rfl rfl ?_)
              | refine tn ?_
              | refine tr ?_
              | refine W_skip ?_
              | refine W_ret ?_
              | (refine idR ?_; first | refine rL2 rfl (by first | exact trivial | exact ⟨rfl, trivial⟩) (by first | exact ResO.tmp rfl | exact ResO.cellBA rfl rfl rfl | exact ResO.cellB1 rfl rfl rfl | exact ResO.cellEA rfl rfl | exact ResO.cellE1 rfl) (by first | exact ResO.tmp rfl | exact ResO.cellBA rfl rfl rfl | exact ResO.cellB1 rfl rfl rfl | exact ResO.cellEA rfl rfl | exact ResO.cellE1 rfl) ?_ ?_)
              | (refine idA ?_; first | refine m_var rfl rfl rfl rfl rfl rfl rfl ?_ | refine m_alloc rfl ?_)
              | (refine idS ?_; first | refine pS (S_store rfl rfl rfl rfl rfl rfl rfl) ?_)
              | refine Le.bool ?_
            all_goals first | exact (iEq_t 0 0).mpr rfl | exact Le.of_eq rfl | rfl | contradiction | skip
        · have hsk := tseekN_pc (dkeyB 2 d) (T 2) htr.ok hsz hrk
          rw [List.getElem?_eq_none (by rw [toL_len]; omega)] at hnx
          cases hN : nextL 2 L d with
          | some s => rw [hN] at hnx; cases hnx
          | none =>
            refine PC.of_body Try.func14 Try.ntmps14 rfl rfl rfl ?_
            repeat' first
              | (apply p1 (hd := rfl); case hop => first | (apply D_move; rfl) | (apply D_assign; rfl) | exact D_peE rfl rfl | exact D_nilE rfl | (apply D_pc hk; rfl; exact .same rfl (.same rfl .nil)) | (apply D_pc hsk; rfl; exact .same rfl (.same rfl .nil)) | (apply D_load1; rfl) | (apply D_fld; rfl) | (apply D_pickF; rfl; rfl) | (apply D_int; rfl; rfl; rfl) | (apply D_ext; rfl; rfl) | (apply D_not; rfl) | (apply D_loadW; rfl; rfl) | (apply D_box; rfl; rfl) | exact D_build rfl | (apply D_ixPE; rfl; rfl; all_goals first | omega | ((repeat rw [w64 _ (by omega) (by omega)]); omega) | decide))
              | refine W_seq ?_
              | refine W_region ?_
              | (refine idC ?_; first | refine cs rfl (fun _ => ?_) (fun _ => ?_))
              | refine WL_nil ?_
              | (refine idG ?_; first | refine gr rfl rfl ?_)
              | refine tn ?_
              | refine tr ?_
              | refine W_skip ?_
              | refine W_ret ?_
              | (refine idR ?_; first | refine rL2 rfl (by first | exact trivial | exact ⟨rfl, trivial⟩) (by first | exact ResO.tmp rfl | exact ResO.cellBA rfl rfl rfl | exact ResO.cellB1 rfl rfl rfl | exact ResO.cellEA rfl rfl | exact ResO.cellE1 rfl) (by first | exact ResO.tmp rfl | exact ResO.cellBA rfl rfl rfl | exact ResO.cellB1 rfl rfl rfl | exact ResO.cellEA rfl rfl | exact ResO.cellE1 rfl) ?_ ?_)
              | (refine idA ?_; first | refine m_var rfl rfl rfl rfl rfl rfl rfl ?_ | refine m_alloc rfl ?_)
              | (refine idS ?_; first | refine pS (S_store rfl rfl rfl rfl rfl rfl rfl) ?_)
              | refine Le.bool ?_
            all_goals first | exact Le.of_eq rfl | rfl | contradiction | skip
      · have htr := main 3 (by decide) (by decide) rfl
        have hnx := next_toL htr ho hL he hi
        have hsz : sz (topT (T 3)) < 1152921504606846975 := by have := htr.len; omega
        by_cases hrk : rankT (dkeyB 3 d) (topT (T 3)) < sz (topT (T 3))
        · have hsk := tseek_pc (dkeyB 3 d) (T 3) htr.ok hsz (shT_L htr) hrk
          rw [at_toL hrk] at hnx
          cases hN : nextL 3 L d with
          | none => rw [hN] at hnx; cases hnx
          | some s =>
            rw [hN] at hnx
            rw [Option.some.inj hnx] at hsk
            obtain ⟨s1, s2⟩ := hnL s hN
            have hrd := dread_pc 3 (dkeyB 3 s) (by have := dkey_len 3 s; omega)
            obtain ⟨k1, k2⟩ := key_read s2 s1
            rw [k1, k2] at hrd
            refine PC.of_body Try.func14 Try.ntmps14 rfl rfl rfl ?_
            repeat' first
              | (apply p1 (hd := rfl); case hop => first | (apply D_move; rfl) | (apply D_assign; rfl) | exact D_peE rfl rfl | exact D_nilE rfl | (apply D_pc hk; rfl; exact .same rfl (.same rfl .nil)) | (apply D_pc hsk; rfl; exact .same rfl (.same rfl .nil)) | (apply D_pc hrd; rfl; exact .same rfl (.same rfl .nil)) | (apply D_load1; rfl) | (apply D_fld; rfl) | (apply D_pickF; rfl; rfl) | (apply D_int; rfl; rfl; rfl) | (apply D_ext; rfl; rfl) | (apply D_not; rfl) | (apply D_loadW; rfl; rfl) | (apply D_box; rfl; rfl) | exact D_build rfl | (apply D_ixPE; rfl; rfl; all_goals first | omega | ((repeat rw [w64 _ (by omega) (by omega)]); omega) | decide))
              | refine W_seq ?_
              | refine W_region ?_
              | (refine idC ?_; first | refine cs rfl (fun _ => ?_) (fun _ => ?_))
              | refine WL_nil ?_
              | (refine idG ?_; first | refine gr rfl rfl ?_)
              | refine tn ?_
              | refine tr ?_
              | refine W_skip ?_
              | refine W_ret ?_
              | (refine idR ?_; first | refine rL2 rfl (by first | exact trivial | exact ⟨rfl, trivial⟩) (by first | exact ResO.tmp rfl | exact ResO.cellBA rfl rfl rfl | exact ResO.cellB1 rfl rfl rfl | exact ResO.cellEA rfl rfl | exact ResO.cellE1 rfl) (by first | exact ResO.tmp rfl | exact ResO.cellBA rfl rfl rfl | exact ResO.cellB1 rfl rfl rfl | exact ResO.cellEA rfl rfl | exact ResO.cellE1 rfl) ?_ ?_)
              | (refine idA ?_; first | refine m_var rfl rfl rfl rfl rfl rfl rfl ?_ | refine m_alloc rfl ?_)
              | (refine idS ?_; first | refine pS (S_store rfl rfl rfl rfl rfl rfl rfl) ?_)
              | refine Le.bool ?_
            all_goals first | exact (iEq_t 0 0).mpr rfl | exact Le.of_eq rfl | rfl | contradiction | skip
        · have hsk := tseekN_pc (dkeyB 3 d) (T 3) htr.ok hsz hrk
          rw [List.getElem?_eq_none (by rw [toL_len]; omega)] at hnx
          cases hN : nextL 3 L d with
          | some s => rw [hN] at hnx; cases hnx
          | none =>
            refine PC.of_body Try.func14 Try.ntmps14 rfl rfl rfl ?_
            repeat' first
              | (apply p1 (hd := rfl); case hop => first | (apply D_move; rfl) | (apply D_assign; rfl) | exact D_peE rfl rfl | exact D_nilE rfl | (apply D_pc hk; rfl; exact .same rfl (.same rfl .nil)) | (apply D_pc hsk; rfl; exact .same rfl (.same rfl .nil)) | (apply D_load1; rfl) | (apply D_fld; rfl) | (apply D_pickF; rfl; rfl) | (apply D_int; rfl; rfl; rfl) | (apply D_ext; rfl; rfl) | (apply D_not; rfl) | (apply D_loadW; rfl; rfl) | (apply D_box; rfl; rfl) | exact D_build rfl | (apply D_ixPE; rfl; rfl; all_goals first | omega | ((repeat rw [w64 _ (by omega) (by omega)]); omega) | decide))
              | refine W_seq ?_
              | refine W_region ?_
              | (refine idC ?_; first | refine cs rfl (fun _ => ?_) (fun _ => ?_))
              | refine WL_nil ?_
              | (refine idG ?_; first | refine gr rfl rfl ?_)
              | refine tn ?_
              | refine tr ?_
              | refine W_skip ?_
              | refine W_ret ?_
              | (refine idR ?_; first | refine rL2 rfl (by first | exact trivial | exact ⟨rfl, trivial⟩) (by first | exact ResO.tmp rfl | exact ResO.cellBA rfl rfl rfl | exact ResO.cellB1 rfl rfl rfl | exact ResO.cellEA rfl rfl | exact ResO.cellE1 rfl) (by first | exact ResO.tmp rfl | exact ResO.cellBA rfl rfl rfl | exact ResO.cellB1 rfl rfl rfl | exact ResO.cellEA rfl rfl | exact ResO.cellE1 rfl) ?_ ?_)
              | (refine idA ?_; first | refine m_var rfl rfl rfl rfl rfl rfl rfl ?_ | refine m_alloc rfl ?_)
              | (refine idS ?_; first | refine pS (S_store rfl rfl rfl rfl rfl rfl rfl) ?_)
              | refine Le.bool ?_
            all_goals first | exact Le.of_eq rfl | rfl | contradiction | skip
      · have htr := main 4 (by decide) (by decide) rfl
        have hnx := next_toL htr ho hL he hi
        have hsz : sz (topT (T 4)) < 1152921504606846975 := by have := htr.len; omega
        by_cases hrk : rankT (dkeyB 4 d) (topT (T 4)) < sz (topT (T 4))
        · have hsk := tseek_pc (dkeyB 4 d) (T 4) htr.ok hsz (shT_L htr) hrk
          rw [at_toL hrk] at hnx
          cases hN : nextL 4 L d with
          | none => rw [hN] at hnx; cases hnx
          | some s =>
            rw [hN] at hnx
            rw [Option.some.inj hnx] at hsk
            obtain ⟨s1, s2⟩ := hnL s hN
            have hrd := dread_pc 4 (dkeyB 4 s) (by have := dkey_len 4 s; omega)
            obtain ⟨k1, k2⟩ := key_read s2 s1
            rw [k1, k2] at hrd
            refine PC.of_body Try.func14 Try.ntmps14 rfl rfl rfl ?_
            repeat' first
              | (apply p1 (hd := rfl); case hop => first | (apply D_move; rfl) | (apply D_assign; rfl) | exact D_peE rfl rfl | exact D_nilE rfl | (apply D_pc hk; rfl; exact .same rfl (.same rfl .nil)) | (apply D_pc hsk; rfl; exact .same rfl (.same rfl .nil)) | (apply D_pc hrd; rfl; exact .same rfl (.same rfl .nil)) | (apply D_load1; rfl) | (apply D_fld; rfl) | (apply D_pickF; rfl; rfl) | (apply D_int; rfl; rfl; rfl) | (apply D_ext; rfl; rfl) | (apply D_not; rfl) | (apply D_loadW; rfl; rfl) | (apply D_box; rfl; rfl) | exact D_build rfl | (apply D_ixPE; rfl; rfl; all_goals first | omega | ((repeat rw [w64 _ (by omega) (by omega)]); omega) | decide))
              | refine W_seq ?_
              | refine W_region ?_
              | (refine idC ?_; first | refine cs rfl (fun _ => ?_) (fun _ => ?_))
              | refine WL_nil ?_
              | (refine idG ?_; first | refine gr rfl rfl ?_)
              | refine tn ?_
              | refine tr ?_
              | refine W_skip ?_
              | refine W_ret ?_
              | (refine idR ?_; first | refine rL2 rfl (by first | exact trivial | exact ⟨rfl, trivial⟩) (by first | exact ResO.tmp rfl | exact ResO.cellBA rfl rfl rfl | exact ResO.cellB1 rfl rfl rfl | exact ResO.cellEA rfl rfl | exact ResO.cellE1 rfl) (by first | exact ResO.tmp rfl | exact ResO.cellBA rfl rfl rfl | exact ResO.cellB1 rfl rfl rfl | exact ResO.cellEA rfl rfl | exact ResO.cellE1 rfl) ?_ ?_)
              | (refine idA ?_; first | refine m_var rfl rfl rfl rfl rfl rfl rfl ?_ | refine m_alloc rfl ?_)
              | (refine idS ?_; first | refine pS (S_store rfl rfl rfl rfl rfl rfl rfl) ?_)
              | refine Le.bool ?_
            all_goals first | exact (iEq_t 0 0).mpr rfl | exact Le.of_eq rfl | rfl | contradiction | skip
        · have hsk := tseekN_pc (dkeyB 4 d) (T 4) htr.ok hsz hrk
          rw [List.getElem?_eq_none (by rw [toL_len]; omega)] at hnx
          cases hN : nextL 4 L d with
          | some s => rw [hN] at hnx; cases hnx
          | none =>
            refine PC.of_body Try.func14 Try.ntmps14 rfl rfl rfl ?_
            repeat' first
              | (apply p1 (hd := rfl); case hop => first | (apply D_move; rfl) | (apply D_assign; rfl) | exact D_peE rfl rfl | exact D_nilE rfl | (apply D_pc hk; rfl; exact .same rfl (.same rfl .nil)) | (apply D_pc hsk; rfl; exact .same rfl (.same rfl .nil)) | (apply D_load1; rfl) | (apply D_fld; rfl) | (apply D_pickF; rfl; rfl) | (apply D_int; rfl; rfl; rfl) | (apply D_ext; rfl; rfl) | (apply D_not; rfl) | (apply D_loadW; rfl; rfl) | (apply D_box; rfl; rfl) | exact D_build rfl | (apply D_ixPE; rfl; rfl; all_goals first | omega | ((repeat rw [w64 _ (by omega) (by omega)]); omega) | decide))
              | refine W_seq ?_
              | refine W_region ?_
              | (refine idC ?_; first | refine cs rfl (fun _ => ?_) (fun _ => ?_))
              | refine WL_nil ?_
              | (refine idG ?_; first | refine gr rfl rfl ?_)
              | refine tn ?_
              | refine tr ?_
              | refine W_skip ?_
              | refine W_ret ?_
              | (refine idR ?_; first | refine rL2 rfl (by first | exact trivial | exact ⟨rfl, trivial⟩) (by first | exact ResO.tmp rfl | exact ResO.cellBA rfl rfl rfl | exact ResO.cellB1 rfl rfl rfl | exact ResO.cellEA rfl rfl | exact ResO.cellE1 rfl) (by first | exact ResO.tmp rfl | exact ResO.cellBA rfl rfl rfl | exact ResO.cellB1 rfl rfl rfl | exact ResO.cellEA rfl rfl | exact ResO.cellE1 rfl) ?_ ?_)
              | (refine idA ?_; first | refine m_var rfl rfl rfl rfl rfl rfl rfl ?_ | refine m_alloc rfl ?_)
              | (refine idS ?_; first | refine pS (S_store rfl rfl rfl rfl rfl rfl rfl) ?_)
              | refine Le.bool ?_
            all_goals first | exact Le.of_eq rfl | rfl | contradiction | skip
  · rw [show nextL o L d = none from if_neg he]
    rcases x with _ | T
    · rw [xA_no]
      refine PC.of_body Try.func14 Try.ntmps14 rfl rfl rfl ?_
      repeat' first
        | (apply p1 (hd := rfl); case hop => first | (apply D_move; rfl) | (apply D_assign; rfl) | exact D_peN rfl rfl | (apply D_pc hk; rfl; exact .same rfl (.same rfl .nil)) | (apply D_pickT; rfl; rfl) | (apply D_ext; rfl; rfl) | (apply D_loadW; rfl; rfl) | (apply D_box; rfl; rfl) | exact D_build rfl)
        | refine W_seq ?_
        | refine W_region ?_
        | (refine idC ?_; first | refine c1 rfl ?_)
        | refine WL_nil ?_
        | (refine idG ?_; first | refine g0f rfl rfl rfl ?_)
        | refine tn ?_
        | refine tr ?_
        | refine W_ret ?_
        | (refine idR ?_; first | refine rL2 rfl (by first | exact trivial | exact ⟨rfl, trivial⟩) (by first | exact ResO.tmp rfl | exact ResO.cellBA rfl rfl rfl | exact ResO.cellB1 rfl rfl rfl | exact ResO.cellEA rfl rfl | exact ResO.cellE1 rfl) (by first | exact ResO.tmp rfl | exact ResO.cellBA rfl rfl rfl | exact ResO.cellB1 rfl rfl rfl | exact ResO.cellEA rfl rfl | exact ResO.cellE1 rfl) ?_ ?_)
        | (refine idA ?_; first | refine m_alloc rfl ?_)
        | (refine idS ?_; first | refine pS (S_store rfl rfl rfl rfl rfl rfl rfl) ?_)
        | refine Le.bool ?_
      all_goals first | exact Le.of_eq rfl | rfl | contradiction | skip
    · rw [xA_so]
      refine PC.of_body Try.func14 Try.ntmps14 rfl rfl rfl ?_
      repeat' first
        | (apply p1 (hd := rfl); case hop => first | (apply D_move; rfl) | (apply D_assign; rfl) | exact D_peE rfl rfl | exact D_nilE rfl | (apply D_pc hk; rfl; exact .same rfl (.same rfl .nil)) | (apply D_fld; rfl) | (apply D_pickF; rfl; rfl) | (apply D_int; rfl; rfl; rfl) | (apply D_ext; rfl; rfl) | (apply D_loadW; rfl; rfl) | (apply D_box; rfl; rfl) | exact D_build rfl | (apply D_ixPE; rfl; rfl; all_goals first | omega | ((repeat rw [w64 _ (by omega) (by omega)]); omega) | decide))
        | refine W_seq ?_
        | refine W_region ?_
        | (refine idC ?_; first | refine cs rfl (fun _ => ?_) (fun _ => ?_))
        | refine WL_nil ?_
        | (refine idG ?_; first | refine gr rfl rfl ?_)
        | refine tn ?_
        | refine tr ?_
        | refine W_skip ?_
        | refine W_ret ?_
        | (refine idR ?_; first | refine rL2 rfl (by first | exact trivial | exact ⟨rfl, trivial⟩) (by first | exact ResO.tmp rfl | exact ResO.cellBA rfl rfl rfl | exact ResO.cellB1 rfl rfl rfl | exact ResO.cellEA rfl rfl | exact ResO.cellE1 rfl) (by first | exact ResO.tmp rfl | exact ResO.cellBA rfl rfl rfl | exact ResO.cellB1 rfl rfl rfl | exact ResO.cellEA rfl rfl | exact ResO.cellE1 rfl) ?_ ?_)
        | (refine idA ?_; first | refine m_alloc rfl ?_)
        | (refine idS ?_; first | refine pS (S_store rfl rfl rfl rfl rfl rfl rfl) ?_)
        | refine Le.bool ?_
      all_goals first | exact Le.of_eq rfl | rfl | contradiction | skip
open Classical in
set_option maxHeartbeats 16000000 in
theorem radd_pc [GlobF Try.prog] (l m : List Dat) (hl : l.length + m.length ≤ 1048576) (hbl : ∀ d, d ∈ l → d.v.s.length < 9223372036854775808) (hbm : ∀ d, d ∈ m → d.v.s.length < 9223372036854775808) (R : List Dat) (E : Int)
    (hg : (∀ d, d ∈ m → dmayP d) ∧ (dsortL 1 (l ++ m)).length ≤ 262144 → R = dsortL 1 (l ++ m) ∧ E = 0) (hn : ¬ ((∀ d, d ∈ m → dmayP d) ∧ (dsortL 1 (l ++ m)).length ≤ 262144) → R = [] ∧ E = 110) :
    PC Try.prog 13 [sl9 l, sl9 m] (.tu [sl9 R, .sc (.int .i64 E)]) := by
  refine PC.of_body Try.func13 Try.ntmps13 rfl rfl rfl ?_
  repeat' first
    | (apply p1 (hd := rfl); case hop => first | (apply D_assign; rfl))
    | refine W_seq ?_
    | refine W_region ?_
    | refine WL_nil ?_
    | refine tn ?_
    | refine W_block ?_
  refine W_loopL (X := Nat) (fun i => [(0, sl9 l), (1, sl9 m), (6, .sc (.int .i64 (i : Int)))]) (fun _ => [])
    (fun i => i ≤ m.length ∧ ∀ (j : Nat) (h : j < m.length), j < i → dmayP m[j]) (fun i => m.length - i) 0 ⟨Nat.zero_le _, fun j h hj => absurd hj (Nat.not_lt_zero j)⟩ ⟨rfl, rfl, rfl, trivial⟩ rfl ?_
  rintro i ⟨hi, hz⟩
  by_cases hil : i < m.length
  · have hc := dmay1_pc (m[i]'hil) (hbm _ (List.getElem_mem hil))
    by_cases hm : dmayP (m[i]'hil)
    · rw [← dP_T hm] at hc
      repeat' first
        | (apply p1 (hd := rfl); case hop => first | (apply D_move; rfl) | (apply D_assign; rfl) | (apply D_pc hc; rfl; exact .same rfl .nil) | (apply D_int; rfl; rfl; rfl) | (apply D_lenM; rfl) | (apply D_not; rfl) | (apply D_loadW; rfl; rfl) | (apply D_idxAn; rfl; rfl; (first | omega | (simp; done))))
        | refine W_seq ?_
        | refine W_region ?_
        | (refine idC ?_; first | refine cs rfl (fun _ => ?_) (fun _ => ?_))
        | refine WL_nil ?_
        | refine tn ?_
        | refine tr ?_
        | refine br ?_
        | refine bn ?_
        | refine te ?_
        | (refine idB ?_; first | refine bh rfl ?_)
        | refine W_skip ?_
        | refine W_block ?_
        | refine W_exit ?_
        | refine W_ret ?_
        | (refine idR ?_; first | refine ret2 rfl rfl rfl rfl ?_ ?_)
        | refine Le.int ?_
      all_goals first
        | contradiction
        | (exfalso; omega)
        | (exfalso; rename_i hh; cases hh; done)
        | exact ⟨rfl, i + 1, ⟨hil, fun j hj hji => by
            by_cases e : j = i
            · subst e; exact hm
            · exact hz j hj (by omega)⟩, by omega, ⟨rfl, rfl, ieq (wsucc i (by omega)), trivial⟩, rfl⟩
        | skip
    · rw [← dP_F hm] at hc
      obtain ⟨rfl, rfl⟩ := hn fun h => hm (h.1 _ (List.getElem_mem hil))
      repeat' first
        | (apply p1 (hd := rfl); case hop => first | (apply D_move; rfl) | (apply D_assign; rfl) | (apply D_pc hc; rfl; exact .same rfl .nil) | (apply D_int; rfl; rfl; rfl) | (apply D_lenM; rfl) | (apply D_not; rfl) | (apply D_loadW; rfl; rfl) | (apply D_idxAn; rfl; rfl; (first | omega | (simp; done))))
        | refine W_seq ?_
        | refine W_region ?_
        | (refine idC ?_; first | refine cs rfl (fun _ => ?_) (fun _ => ?_))
        | refine WL_nil ?_
        | refine tn ?_
        | refine tr ?_
        | refine br ?_
        | refine bn ?_
        | refine te ?_
        | (refine idB ?_; first | refine bh rfl ?_)
        | refine W_skip ?_
        | refine W_block ?_
        | refine W_exit ?_
        | refine W_ret ?_
        | (refine idR ?_; first | refine ret2 rfl rfl rfl rfl ?_ ?_)
        | refine Le.int ?_
      all_goals first
        | contradiction
        | (exfalso; omega)
        | (exfalso; rename_i hh; cases hh; done)
        | exact Le.nil rfl
        | rfl
        | skip
  · have e1 : i = m.length := by omega
    subst e1
    have hall : ∀ d, d ∈ m → dmayP d := fun d hd => by
      obtain ⟨j, hj, rfl⟩ := List.getElem_of_mem hd
      exact hz j hj hj
    have hsr := dsort1_pc 1 (l ++ m) (by simp; omega) (fun d hd => by rcases List.mem_append.1 hd with h | h; exact hbl d h; exact hbm d h)
    rw [List.map_append] at hsr
    repeat' first
      | (refine W_adopt 8 9 36 rfl ?_)
      | (apply p1 (hd := rfl); case hop => first | (apply D_move; rfl) | (apply D_assign; rfl) | (apply D_pc hsr; rfl; exact .same rfl (.tok rfl .nil)) | (apply D_int; rfl; rfl; rfl) | (apply D_lenM; rfl) | (apply D_loadW; rfl; rfl) | (apply D_idxAn; rfl; rfl; (first | omega | (simp; done))))
      | refine W_seq ?_
      | refine W_region ?_
      | (refine idC ?_; first | refine cs rfl (fun _ => ?_) (fun _ => ?_))
      | refine WL_nil ?_
      | refine tn ?_
      | refine tr ?_
      | refine te ?_
      | (refine idB ?_; first | refine bh rfl ?_)
      | refine W_skip ?_
      | refine W_block ?_
      | refine W_exit ?_
      | refine W_ret ?_
      | (refine idR ?_; first | refine ret2 rfl rfl rfl rfl ?_ ?_)
      | refine Le.int ?_
      | (refine idAp ?_; refine m_app rfl rfl (by first | rfl | assumption | exact get_set (by assumption) | exact get_set (get_set (by assumption)) | exact get_set (get_set (get_set (by assumption))) | ((repeat first | assumption | exact get_last | (refine get_last2 ?_; focus (simp; done)) | apply get_set | apply get_app | (apply get_ne; focus omega)); done)) ?_ rfl rfl ?_ ?_ rfl ?_; (first | rfl | focus (simp only [List.length_map, List.length_append, List.length_cons, List.length_nil]; omega) | focus (simp; done) | focus (simp; omega)); (first | focus (simp only [List.length_map, List.length_append, List.length_cons, List.length_nil]; omega) | focus (simp; done) | focus (simp; omega)); (first | focus (simp only [List.length_map, List.length_append, List.length_cons, List.length_nil]; omega) | focus (simp; done) | focus (simp; omega)))
    all_goals first
      | contradiction
      | (exfalso; omega)
      | (rename_i hh
         obtain ⟨rfl, rfl⟩ := hn (fun h => by have := h.2; omega)
         first | exact Le.nil rfl | rfl)
      | (rename_i hh
         obtain ⟨rfl, rfl⟩ := hg ⟨hall, by omega⟩
         first | exact Le.of_eq rfl | rfl)
      | skip
set_option maxHeartbeats 16000000 in
theorem rnext_pc [GlobF Try.prog] (l : List Dat) (o : Int) (d : Dat) (hl : l.length ≤ 1048576) (hbl : ∀ d, d ∈ l → d.v.s.length < 9223372036854775808) (hs : d.v.s.length < 9223372036854775808) :
    PC Try.prog 15 [sl9 l, .sc (.int .i64 o), eD d] (.tu [eD ((nextL o l d).getD dat0), .sc (.bool (nextL o l d).isSome)]) := by
  have hk := dkey1_pc o d hs
  by_cases he : dkeyE o d = 0
  · have ho := dkey_o he
    have hsr := dsort1_pc o l (by omega) hbl
    have hnl : nextL o l d = (dsortL o l).find? (fun s => decide (0 ≤ cmpD o s d)) := if_pos he
    have hmS : ∀ s, s ∈ dsortL o l → s.v.s.length < 9223372036854775808 := fun s hs2 => hbl s ((dsort_mem ho l s).1 hs2).1
    have hlS := dsortL_len o l
    rw [he] at hk
    rw [hnl]
    generalize dsortL o l = S at *
    refine PC.of_body Try.func15 Try.ntmps15 rfl rfl rfl ?_
    repeat' first
      | (apply p1 (hd := rfl); case hop => first | (apply D_move; rfl) | (apply D_assign; rfl) | (apply D_pc hk; rfl; exact .same rfl (.same rfl .nil)) | (apply D_pc hsr; rfl; exact .same rfl (.same rfl .nil)) | (apply D_int; rfl; rfl; rfl) | (apply D_ext; rfl; rfl) | (apply D_loadW; rfl; rfl) | (apply D_box; rfl; rfl) | exact D_build rfl)
      | refine W_seq ?_
      | refine W_region ?_
      | (refine idC ?_; first | refine cs rfl (fun _ => ?_) (fun _ => ?_))
      | refine WL_nil ?_
      | refine tn ?_
      | refine tr ?_
      | refine W_skip ?_
      | refine W_block ?_
      | refine W_ret ?_
      | (refine idR ?_; first | refine rL2 rfl (by first | exact trivial | exact ⟨rfl, trivial⟩) (by first | exact ResO.tmp rfl | exact ResO.cellBA rfl rfl rfl | exact ResO.cellB1 rfl rfl rfl | exact ResO.cellEA rfl rfl | exact ResO.cellE1 rfl) (by first | exact ResO.tmp rfl | exact ResO.cellBA rfl rfl rfl | exact ResO.cellB1 rfl rfl rfl | exact ResO.cellEA rfl rfl | exact ResO.cellE1 rfl) ?_ ?_)
      | (refine idA ?_; first | refine m_alloc rfl ?_)
      | (refine idS ?_; first | refine pS (S_store rfl rfl rfl rfl rfl rfl rfl) ?_)
      | refine Le.bool ?_
    all_goals try contradiction
    refine W_loopL (X := Nat) (fun i => [(1, .sc (.int .i64 o)), (5, .ep (dC d)), (6, .bp 0 0), (10, sl9 S), (11, .sc (.int .i64 (i : Int)))]) (fun _ => [.cells (dC dat0)])
      (fun i => i ≤ S.length ∧ ∀ (j : Nat) (h : j < S.length), j < i → ¬ 0 ≤ cmpD o S[j] d) (fun i => S.length - i) 0 ⟨Nat.zero_le _, fun j h hj => absurd hj (Nat.not_lt_zero j)⟩ ⟨rfl, rfl, rfl, rfl, rfl, trivial⟩ rfl ?_
    rintro i ⟨hi, hz⟩
    by_cases hil : i < S.length
    · have hc := dcmp1c_pc o ho (S[i]'hil) d (hmS _ (List.getElem_mem hil))
      by_cases hm : 0 ≤ cmpD o (S[i]'hil) d
      · have hf : S.find? (fun s => decide (0 ≤ cmpD o s d)) = some (S[i]'hil) := by
          rw [List.find?_eq_some_iff_getElem]
          exact ⟨by simpa using hm, i, hil, rfl, fun j hj => by simpa using hz j (by omega) hj⟩
        rw [hf]
        repeat' first
          | (apply p1 (hd := rfl); case hop => first | (apply D_move; rfl) | (apply D_assign; rfl) | (apply D_int; rfl; rfl; rfl) | (apply D_lenM; rfl) | (apply D_loadW; rfl; rfl) | (apply D_idxAn; rfl; rfl; (first | omega | (simp; done))) | exact D_build rfl)
          | refine W_seq ?_
          | refine W_region ?_
          | (refine idC ?_; first | refine cs rfl (fun _ => ?_) (fun _ => ?_))
          | refine WL_nil ?_
          | refine tn ?_
          | refine tr ?_
          | refine br ?_
          | refine bn ?_
          | refine te ?_
          | (refine idB ?_; first | refine bh rfl ?_)
          | refine W_skip ?_
          | refine W_block ?_
          | refine W_exit ?_
          | refine W_ret ?_
          | (refine idR ?_; first | refine rL2 rfl (by first | exact trivial | exact ⟨rfl, trivial⟩) (by first | exact ResO.tmp rfl | exact ResO.cellBA rfl rfl rfl | exact ResO.cellB1 rfl rfl rfl | exact ResO.cellEA rfl rfl | exact ResO.cellE1 rfl) (by first | exact ResO.tmp rfl | exact ResO.cellBA rfl rfl rfl | exact ResO.cellB1 rfl rfl rfl | exact ResO.cellEA rfl rfl | exact ResO.cellE1 rfl) ?_ ?_)
          | (refine idS ?_; first | refine pS (S_store rfl rfl rfl rfl rfl rfl rfl) ?_)
          | refine Le.bool ?_
          | (refine idW ?_; first | refine W_draw0 rfl ?_)
          | (apply d1 (hd := rfl); case hop => first | (apply D_move; rfl) | (apply D_pc hc; rfl; exact .same rfl (.same rfl (.same rfl .nil))) | (apply D_int; rfl; rfl; rfl) | (apply D_loadW; rfl; rfl) | (apply D_idxAn; rfl; rfl; (first | omega | (simp; done))))
          | refine WD_nil (by first | decide +kernel | kernel_rfl | rfl) ?_
        all_goals first
          | contradiction
          | (exfalso; omega)
          | exact Le.of_eq rfl
          | rfl
          | skip
      · repeat' first
          | (apply p1 (hd := rfl); case hop => first | (apply D_move; rfl) | (apply D_assign; rfl) | (apply D_int; rfl; rfl; rfl) | (apply D_lenM; rfl) | (apply D_loadW; rfl; rfl) | (apply D_idxAn; rfl; rfl; (first | omega | (simp; done))) | exact D_build rfl)
          | refine W_seq ?_
          | refine W_region ?_
          | (refine idC ?_; first | refine cs rfl (fun _ => ?_) (fun _ => ?_))
          | refine WL_nil ?_
          | refine tn ?_
          | refine tr ?_
          | refine br ?_
          | refine bn ?_
          | refine te ?_
          | (refine idB ?_; first | refine bh rfl ?_)
          | refine W_skip ?_
          | refine W_block ?_
          | refine W_exit ?_
          | refine W_ret ?_
          | (refine idR ?_; first | refine rL2 rfl (by first | exact trivial | exact ⟨rfl, trivial⟩) (by first | exact ResO.tmp rfl | exact ResO.cellBA rfl rfl rfl | exact ResO.cellB1 rfl rfl rfl | exact ResO.cellEA rfl rfl | exact ResO.cellE1 rfl) (by first | exact ResO.tmp rfl | exact ResO.cellBA rfl rfl rfl | exact ResO.cellB1 rfl rfl rfl | exact ResO.cellEA rfl rfl | exact ResO.cellE1 rfl) ?_ ?_)
          | (refine idS ?_; first | refine pS (S_store rfl rfl rfl rfl rfl rfl rfl) ?_)
          | refine Le.bool ?_
          | (refine idW ?_; first | refine W_draw0 rfl ?_)
          | (apply d1 (hd := rfl); case hop => first | (apply D_move; rfl) | (apply D_pc hc; rfl; exact .same rfl (.same rfl (.same rfl .nil))) | (apply D_int; rfl; rfl; rfl) | (apply D_loadW; rfl; rfl) | (apply D_idxAn; rfl; rfl; (first | omega | (simp; done))))
          | refine WD_nil (by first | decide +kernel | kernel_rfl | rfl) ?_
        all_goals first
          | contradiction
          | (exfalso; omega)
          | exact ⟨rfl, i + 1, ⟨hil, fun j hj hji => by
              by_cases e : j = i
              · subst e; exact hm
              · exact hz j hj (by omega)⟩, by omega, ⟨rfl, rfl, rfl, rfl, ieq (wsucc i (by omega)), trivial⟩, rfl⟩
          | skip
    · have hf : S.find? (fun s => decide (0 ≤ cmpD o s d)) = none := by
        rw [List.find?_eq_none]
        intro s hs2
        obtain ⟨j, hj, rfl⟩ := List.getElem_of_mem hs2
        simpa using hz j hj (by omega)
      rw [hf]
      repeat' first
        | (apply p1 (hd := rfl); case hop => first | (apply D_move; rfl) | (apply D_assign; rfl) | (apply D_int; rfl; rfl; rfl) | (apply D_lenM; rfl) | exact D_build rfl)
        | refine W_seq ?_
        | refine W_region ?_
        | (refine idC ?_; first | refine cs rfl (fun _ => ?_) (fun _ => ?_))
        | refine WL_nil ?_
        | refine tn ?_
        | refine te ?_
        | (refine idB ?_; first | refine bh rfl ?_)
        | refine W_skip ?_
        | refine W_block ?_
        | refine W_exit ?_
        | refine W_ret ?_
        | (refine idR ?_; first | refine rL2 rfl (by first | exact trivial | exact ⟨rfl, trivial⟩) (by first | exact ResO.tmp rfl | exact ResO.cellBA rfl rfl rfl | exact ResO.cellB1 rfl rfl rfl | exact ResO.cellEA rfl rfl | exact ResO.cellE1 rfl) (by first | exact ResO.tmp rfl | exact ResO.cellBA rfl rfl rfl | exact ResO.cellB1 rfl rfl rfl | exact ResO.cellEA rfl rfl | exact ResO.cellE1 rfl) ?_ ?_)
        | (refine idS ?_; first | refine pS (S_store rfl rfl rfl rfl rfl rfl rfl) ?_)
        | refine Le.bool ?_
        | (refine idW ?_; first | refine W_draw0 rfl ?_)
        | (apply d1 (hd := rfl); case hop => first | (apply D_move; rfl) | (apply D_loadW; rfl; rfl) | (apply D_idxAn; rfl; rfl; (first | omega | (simp; done))))
        | fail
      all_goals first
        | contradiction
        | (exfalso; omega)
        | exact Le.of_eq rfl
        | rfl
        | skip
  · rw [show nextL o l d = none from if_neg he]
    refine PC.of_body Try.func15 Try.ntmps15 rfl rfl rfl ?_
    repeat' first
      | (apply p1 (hd := rfl); case hop => first | (apply D_move; rfl) | (apply D_assign; rfl) | (apply D_pc hk; rfl; exact .same rfl (.same rfl .nil)) | (apply D_int; rfl; rfl; rfl) | (apply D_ext; rfl; rfl) | (apply D_loadW; rfl; rfl) | (apply D_box; rfl; rfl) | exact D_build rfl)
      | refine W_seq ?_
      | refine W_region ?_
      | (refine idC ?_; first | refine cs rfl (fun _ => ?_) (fun _ => ?_))
      | refine WL_nil ?_
      | refine tn ?_
      | refine tr ?_
      | refine W_skip ?_
      | refine W_ret ?_
      | (refine idR ?_; first | refine rL2 rfl (by first | exact trivial | exact ⟨rfl, trivial⟩) (by first | exact ResO.tmp rfl | exact ResO.cellBA rfl rfl rfl | exact ResO.cellB1 rfl rfl rfl | exact ResO.cellEA rfl rfl | exact ResO.cellE1 rfl) (by first | exact ResO.tmp rfl | exact ResO.cellBA rfl rfl rfl | exact ResO.cellB1 rfl rfl rfl | exact ResO.cellEA rfl rfl | exact ResO.cellE1 rfl) ?_ ?_)
      | (refine idA ?_; first | refine m_alloc rfl ?_)
      | (refine idS ?_; first | refine pS (S_store rfl rfl rfl rfl rfl rfl rfl) ?_)
      | refine Le.bool ?_
    all_goals first | exact Le.of_eq rfl | rfl | contradiction | skip
end Go.Proofs
