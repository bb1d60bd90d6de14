/- The law DatomKeeps. -/
import Derived.Test.YtpfalehodcbnbaaPL3
import Derived.Test.YtpfalehodcbnbaaAEq
namespace Go.Proofs
open Go.AL
attribute [local irreducible] Go.AL.W Go.AL.WL Go.AL.WD Go.AL.POp Go.AL.PPOp Go.AL.POpS Go.AL.PC Go.AL.AC Go.AL.YW Go.AL.Ret Go.AL.Le Go.AL.thn Go.AL.inBlk Go.AL.scp

set_option maxHeartbeats 4000000 in
theorem bytes1_pc [GlobF Try.prog] (a b : List UInt8) (ha : a.length < 9223372036854775808) : PC Try.prog 26 [.sl none 1 (a.map byteC), .sl none 1 (b.map byteC)] (.sc (.int .i64 (Lib.compareBytes a b))) := by
  refine PC.of_body Try.func26 Try.ntmps26 rfl rfl rfl ?_
  repeat' first
    | (apply p1 (hd := rfl); case hop => first | (apply D_move; rfl) | (apply D_assign; rfl) | (apply D_load1; rfl) | (apply D_pickT; rfl; rfl) | (apply D_pickF; rfl; rfl) | (apply D_int; rfl; rfl; rfl) | (apply D_lenM; rfl) | (apply D_len_sl; rfl) | (apply D_loadW; rfl; rfl) | (apply D_loadA; rfl; rfl) | (apply D_len_nil; rfl) | (apply D_idxAn; rfl; rfl; (first | omega | (simp; done))) | (apply D_idxA; rfl; rfl; omega; (first | omega | (simp; done) | (simp; omega))) | (apply D_idxA0; rfl; rfl; omega; (first | omega | (simp; done) | (simp; omega))))
    | refine W_seq ?_
    | refine W_region ?_
    | (refine idC ?_; first | refine c1 rfl ?_ | refine c0 rfl ?_ | refine cs rfl (fun _ => ?_) (fun _ => ?_))
    | refine WL_nil ?_
    | (refine idG ?_; first | refine g0t rfl rfl rfl ?_ | refine g0f rfl rfl rfl ?_ | refine g0u rfl rfl rfl ?_ | refine gr rfl rfl ?_ | refine gs rfl rfl (fun _ => ?_) (fun _ => ?_) | refine grn rfl rfl ?_)
    | refine tn ?_
    | refine tr ?_
    | refine br ?_
    | refine bn ?_
    | refine te ?_
    | (refine idB ?_; first | refine bh rfl ?_ | refine bm rfl ?_)
    | refine W_skip ?_
    | refine W_block ?_
    | refine W_exit ?_
    | refine W_ret ?_
    | refine W_label ?_
    | refine W_scope ?_
    | refine sn ?_
    | refine sr ?_
    | refine se ?_
    | (refine idR ?_; first | refine ret1 rfl rfl rfl ?_ | refine rL1 rfl (by first | exact trivial | exact ⟨rfl, trivial⟩) (by first | exact ResO.tmp rfl | exact ResO.cellBA rfl rfl rfl | exact ResO.cellB1 rfl rfl rfl | exact ResO.cellEA rfl rfl | exact ResO.cellE1 rfl) ?_)
    | refine Le.bool ?_
    | refine Le.int ?_
    | refine Le.str ?_
    | (refine idW ?_; first | refine W_draw0 rfl ?_ | refine W_draw1 rfl ?_ | refine W_draw2 rfl ?_ | refine W_draw3 rfl ?_)
    | (apply d1 (hd := rfl); case hop => first | (apply D_move; rfl) | (apply D_assign; rfl) | (apply D_load1; rfl) | (apply D_pickT; rfl; rfl) | (apply D_pickF; rfl; rfl) | (apply D_int; rfl; rfl; rfl) | (apply D_lenM; rfl) | (apply D_len_sl; rfl) | (apply D_loadW; rfl; rfl) | (apply D_loadA; rfl; rfl) | (apply D_len_nil; rfl) | (apply D_idxAn; rfl; rfl; (first | omega | (simp; done))) | (apply D_idxA; rfl; rfl; omega; (first | omega | (simp; done) | (simp; omega))) | (apply D_idxA0; rfl; rfl; omega; (first | omega | (simp; done) | (simp; omega))))
    | (refine idDg ?_; first | refine dg0t rfl rfl rfl ?_ | refine dg0f rfl rfl rfl ?_ | refine dg0u rfl rfl rfl ?_ | refine dgr rfl rfl ?_ | refine dgs rfl rfl (fun _ => ?_) (fun _ => ?_))
    | (refine idDn ?_; first | refine dL _ (fun hp' hs => D_loadB1 rfl (hs.trans rfl) rfl) rfl ?_ | refine dL _ (fun hp' hs => D_loadBA rfl (hs.trans rfl) rfl) rfl ?_ | refine dS (S_store rfl rfl rfl rfl rfl rfl rfl) rfl ?_ | refine dV (S_alloc 0 rfl) rfl rfl ?_ | refine dV (S_alloc 1 rfl) rfl rfl ?_ | refine dV (S_alloc 2 rfl) rfl rfl ?_ | refine dV (S_alloc 3 rfl) rfl rfl ?_ | refine dV (S_alloc 4 rfl) rfl rfl ?_ | refine dV (S_alloc 5 rfl) rfl rfl ?_ | refine dV (S_alloc 6 rfl) rfl rfl ?_ | refine dV (S_alloc 7 rfl) rfl rfl ?_)
    | refine WD_nil (by decide +kernel) ?_
  refine W_loopL (X := Nat) (fun i => [(0, .sl none 1 (a.map byteC)), (1, .sl none 1 (b.map byteC)), (5, .sc (.int .i64 (i : Int)))]) (fun _ => [])
    (fun i => i ≤ a.length ∧ i ≤ b.length ∧ ∀ (j : Nat) (h : j < a.length) (h' : j < b.length), j < i → a[j] = b[j]) (fun i => a.length - i) 0 ⟨by omega, by omega, fun j h h' h'' => by omega⟩ ⟨rfl, rfl, rfl, trivial⟩ rfl ?_
  rintro i ⟨hia, hib, hz⟩
  have hd := cb_drop i a b hia hib hz
  repeat' first
    | (apply p1 (hd := rfl); case hop => first | (apply D_move; rfl) | (apply D_assign; rfl) | (apply D_load1; rfl) | (apply D_pickT; rfl; rfl) | (apply D_pickF; rfl; rfl) | (apply D_int; rfl; rfl; rfl) | (apply D_lenM; rfl) | (apply D_len_sl; rfl) | (apply D_loadW; rfl; rfl) | (apply D_loadA; rfl; rfl) | (apply D_len_nil; rfl) | (apply D_idxAn; rfl; rfl; (first | omega | (simp; done))) | (apply D_idxA; rfl; rfl; omega; (first | omega | (simp; done) | (simp; omega))) | (apply D_idxA0; rfl; rfl; omega; (first | omega | (simp; done) | (simp; omega))))
    | refine W_seq ?_
    | refine W_region ?_
    | (refine idC ?_; first | refine c1 rfl ?_ | refine c0 rfl ?_ | refine cs rfl (fun _ => ?_) (fun _ => ?_))
    | refine WL_nil ?_
    | (refine idG ?_; first | refine g0t rfl rfl rfl ?_ | refine g0f rfl rfl rfl ?_ | refine g0u rfl rfl rfl ?_ | refine gr rfl rfl ?_ | refine gs rfl rfl (fun _ => ?_) (fun _ => ?_) | refine grn rfl rfl ?_)
    | refine tn ?_
    | refine tr ?_
    | refine br ?_
    | refine bn ?_
    | refine te ?_
    | (refine idB ?_; first | refine bh rfl ?_ | refine bm rfl ?_)
    | refine W_skip ?_
    | refine W_block ?_
    | refine W_exit ?_
    | refine W_ret ?_
    | refine W_label ?_
    | refine W_scope ?_
    | refine sn ?_
    | refine sr ?_
    | refine se ?_
    | (refine idR ?_; first | refine ret1 rfl rfl rfl ?_ | refine rL1 rfl (by first | exact trivial | exact ⟨rfl, trivial⟩) (by first | exact ResO.tmp rfl | exact ResO.cellBA rfl rfl rfl | exact ResO.cellB1 rfl rfl rfl | exact ResO.cellEA rfl rfl | exact ResO.cellE1 rfl) ?_)
    | refine Le.bool ?_
    | refine Le.int ?_
    | refine Le.str ?_
    | (refine idW ?_; first | refine W_draw0 rfl ?_ | refine W_draw1 rfl ?_ | refine W_draw2 rfl ?_ | refine W_draw3 rfl ?_)
    | (apply d1 (hd := rfl); case hop => first | (apply D_move; rfl) | (apply D_assign; rfl) | (apply D_load1; rfl) | (apply D_pickT; rfl; rfl) | (apply D_pickF; rfl; rfl) | (apply D_int; rfl; rfl; rfl) | (apply D_lenM; rfl) | (apply D_len_sl; rfl) | (apply D_loadW; rfl; rfl) | (apply D_loadA; rfl; rfl) | (apply D_len_nil; rfl) | (apply D_idxAn; rfl; rfl; (first | omega | (simp; done))) | (apply D_idxA; rfl; rfl; omega; (first | omega | (simp; done) | (simp; omega))) | (apply D_idxA0; rfl; rfl; omega; (first | omega | (simp; done) | (simp; omega))))
    | (refine idDg ?_; first | refine dg0t rfl rfl rfl ?_ | refine dg0f rfl rfl rfl ?_ | refine dg0u rfl rfl rfl ?_ | refine dgr rfl rfl ?_ | refine dgs rfl rfl (fun _ => ?_) (fun _ => ?_))
    | (refine idDn ?_; first | refine dL _ (fun hp' hs => D_loadB1 rfl (hs.trans rfl) rfl) rfl ?_ | refine dL _ (fun hp' hs => D_loadBA rfl (hs.trans rfl) rfl) rfl ?_ | refine dS (S_store rfl rfl rfl rfl rfl rfl rfl) rfl ?_ | refine dV (S_alloc 0 rfl) rfl rfl ?_ | refine dV (S_alloc 1 rfl) rfl rfl ?_ | refine dV (S_alloc 2 rfl) rfl rfl ?_ | refine dV (S_alloc 3 rfl) rfl rfl ?_ | refine dV (S_alloc 4 rfl) rfl rfl ?_ | refine dV (S_alloc 5 rfl) rfl rfl ?_ | refine dV (S_alloc 6 rfl) rfl rfl ?_ | refine dV (S_alloc 7 rfl) rfl rfl ?_)
    | refine WD_nil (by decide +kernel) ?_
  all_goals first
    | (have ga : i < a.length := by omega
       have gb : i < b.length := by omega
       rw [hd, List.drop_eq_getElem_cons ga, List.drop_eq_getElem_cons gb]
       first
         | exact (cb_lt (by omega)).symm
         | exact (cb_gt (by omega)).symm)
    | (refine ⟨rfl, i + 1, ⟨by omega, by omega, fun j h h' hj => ?_⟩, by omega, ⟨rfl, rfl, ieq (wsucc i (by omega)), trivial⟩, rfl⟩
       by_cases e : j = i
       · subst e; exact UInt8.toNat.inj (by omega)
       · exact hz j h h' (by omega))
    | (rw [hd, List.drop_eq_nil_of_le (show a.length ≤ i by omega)]
       first
         | (rw [List.drop_eq_nil_of_le (show b.length ≤ i by omega)]; rfl)
         | (have gb : i < b.length := by omega
            rw [List.drop_eq_getElem_cons gb]; rfl))
    | (have ga : i < a.length := by omega
       rw [hd, List.drop_eq_nil_of_le (show b.length ≤ i by omega), List.drop_eq_getElem_cons ga]; rfl)

theorem dkeyB_len (o : Int) (d : Dat) : (dkeyB o d).length ≤ 14063 := by
  unfold dkeyB
  split
  · split
    · rename_i h
      have := flat_len2 (part7_P (o := o) h.1.2.2.2.2.1)
      rw [part7_len] at this; omega
    · simp
  · simp

theorem drdD_s (o : Int) (k : List UInt8) (hk : k.length ≤ 3000) : (drdD o k).v.s.length < 9223372036854775808 := by
  unfold drdD
  split
  · rename_i h
    have hok := h.2.1
    have hL : rdL (kindsO o) k = (rdAll (kindsO o) (k, false)).1 := by rw [rdL, if_pos hok]
    have hL7 : (rdL (kindsO o) k).length = 7 := by rw [hL, rdAll_full _ _ hok.1]; simp [kindsO, part7_len]
    have hv : ∀ p, p ∈ rdL (kindsO o) k → p.v.s.length < 9223372036854775808 := fun p hp => by
      rw [hL] at hp; have := rdAll_s _ _ p hp; simp only at this; omega
    generalize rdL (kindsO o) k = L at *
    obtain ⟨q0, q1, q2, q3, q4, q5, q6, rfl⟩ := seven hL7
    simp only [datOf]
    split
    · exact hv q2 (by simp)
    · split
      · exact hv q2 (by simp)
      · split
        · exact hv q1 (by simp)
        · exact hv q0 (by simp)
  · decide

set_option maxHeartbeats 8000000 in
theorem datomKeeps_pc [GlobF Try.prog] (o : Int) (a b : Dat) (k : List UInt8) (ha : a.v.s.length < 9223372036854775808) (hb : b.v.s.length < 9223372036854775808) (ia : datI a) (ib : datI b) :
    PC Try.prog 7 [.sc (.int .i64 o), eD a, eD b, .sl none 1 (k.map byteC)] (.sc (.bool true)) := by
  refine PC.of_body Try.func7 Try.ntmps7 rfl rfl rfl ?_
  repeat' first
    | (apply p1 (hd := rfl); case hop => first | (apply D_move; rfl) | (apply D_assign; rfl) | (apply D_pc alive_pc; rfl; exact .nil) | (apply D_pc (dkey_pc o a ha); rfl; exact .same rfl (.same rfl .nil)) | (apply D_pc (dkey_pc o b hb); rfl; exact .same rfl (.same rfl .nil)) | (apply D_pc (dread_pc o (dkeyB o a) (by have := dkeyB_len o a; omega)); rfl; exact .same rfl (.same rfl .nil)) | (apply D_pc (dread_pc o k (by omega)); rfl; exact .same rfl (.same rfl .nil)) | (apply D_pc (dkey_pc o (drdD o k) (drdD_s o k (by omega))); rfl; exact .same rfl (.same rfl .nil)) | (apply D_pc (bytes1_pc (dkeyB o a) (dkeyB o b) (by have := dkeyB_len o a; omega)); rfl; exact .same rfl (.same rfl .nil)) | (apply D_pc (dcmp_pc o a b); rfl; exact .same rfl (.same rfl (.same rfl .nil))) | (apply D_load1; rfl) | (apply D_fld; rfl) | (apply D_pickT; rfl; rfl) | (apply D_pickF; rfl; rfl) | (apply D_int; rfl; rfl; rfl) | (apply D_lenM; rfl) | (apply D_len_sl; rfl) | (apply D_len_str; rfl) | (apply D_str; rfl; rfl; rfl) | (apply D_ext; rfl; rfl) | (apply D_not; rfl) | (apply D_loadW; rfl; rfl) | (apply D_loadA; rfl; rfl) | (apply D_box; rfl; rfl) | (apply D_b2s; rfl) | (apply D_len_nil; rfl) | exact D_fldB rfl | exact D_eqA rfl rfl rfl rfl rfl rfl rfl | exact D_neA rfl rfl rfl rfl rfl rfl rfl)
    | refine W_seq ?_
    | refine W_region ?_
    | (refine idC ?_; first | refine c1 rfl ?_ | refine c0 rfl ?_ | refine cs rfl (fun _ => ?_) (fun _ => ?_))
    | refine WL_nil ?_
    | (refine idG ?_; first | refine g0t rfl rfl rfl ?_ | refine g0f rfl rfl rfl ?_ | refine g0u rfl rfl rfl ?_ | refine gr rfl rfl ?_ | refine gs rfl rfl (fun _ => ?_) (fun _ => ?_) | refine grn rfl rfl ?_)
    | refine tn ?_
    | refine tr ?_
    | refine br ?_
    | refine bn ?_
    | refine te ?_
    | (refine idB ?_; first | refine bh rfl ?_ | refine bm rfl ?_)
    | refine W_skip ?_
    | refine W_block ?_
    | refine W_exit ?_
    | refine W_ret ?_
    | refine W_label ?_
    | refine W_scope ?_
    | refine sn ?_
    | refine sr ?_
    | refine se ?_
    | (refine idR ?_; first | refine ret1 rfl rfl rfl ?_ | refine rL1 rfl (by first | exact trivial | exact ⟨rfl, trivial⟩) (by first | exact ResO.tmp rfl | exact ResO.cellBA rfl rfl rfl | exact ResO.cellB1 rfl rfl rfl | exact ResO.cellEA rfl rfl | exact ResO.cellE1 rfl) ?_)
    | (refine idLd ?_; first | refine p1L (D_loadB1 rfl rfl rfl) rfl ?_ | refine p1L (D_loadBA rfl rfl rfl) rfl ?_ | refine p1L (D_loadB1 rfl (by (repeat first | assumption | exact get_last | (refine get_last2 ?_; focus (simp; done)) | apply get_set | apply get_app | (apply get_ne; focus omega) | (apply get_ne; focus (simp only [List.length_set, List.length_append, List.length_cons, List.length_nil]; omega))); done) (by rfl)) rfl ?_ | refine p1L (D_loadBA rfl (by (repeat first | assumption | exact get_last | (refine get_last2 ?_; focus (simp; done)) | apply get_set | apply get_app | (apply get_ne; focus omega) | (apply get_ne; focus (simp only [List.length_set, List.length_append, List.length_cons, List.length_nil]; omega))); done) (by rfl)) rfl ?_)
    | (refine idA ?_; first | refine m_var rfl rfl rfl rfl rfl rfl rfl ?_ | refine m_alloc rfl ?_)
    | (refine idS ?_; first | refine pS (S_store rfl rfl rfl rfl rfl rfl rfl) ?_ | refine pS (S_store rfl rfl rfl (by (repeat first | assumption | exact get_last | (refine get_last2 ?_; focus (simp; done)) | apply get_set | apply get_app | (apply get_ne; focus omega) | (apply get_ne; focus (simp only [List.length_set, List.length_append, List.length_cons, List.length_nil]; omega))); done) (by rfl) (by rfl) (by rfl)) ?_)
    | refine Le.bool ?_
    | refine Le.int ?_
    | refine Le.str ?_
    | (refine idW ?_; first | refine W_draw0 rfl ?_ | refine W_draw1 rfl ?_ | refine W_draw2 rfl ?_ | refine W_draw3 rfl ?_)
    | (apply d1 (hd := rfl); case hop => first | (apply D_move; rfl) | (apply D_assign; rfl) | (apply D_pc alive_pc; rfl; exact .nil) | (apply D_pc (dkey_pc o a ha); rfl; exact .same rfl (.same rfl .nil)) | (apply D_pc (dkey_pc o b hb); rfl; exact .same rfl (.same rfl .nil)) | (apply D_pc (dread_pc o (dkeyB o a) (by have := dkeyB_len o a; omega)); rfl; exact .same rfl (.same rfl .nil)) | (apply D_pc (dread_pc o k (by omega)); rfl; exact .same rfl (.same rfl .nil)) | (apply D_pc (dkey_pc o (drdD o k) (drdD_s o k (by omega))); rfl; exact .same rfl (.same rfl .nil)) | (apply D_pc (bytes1_pc (dkeyB o a) (dkeyB o b) (by have := dkeyB_len o a; omega)); rfl; exact .same rfl (.same rfl .nil)) | (apply D_pc (dcmp_pc o a b); rfl; exact .same rfl (.same rfl (.same rfl .nil))) | (apply D_load1; rfl) | (apply D_fld; rfl) | (apply D_pickT; rfl; rfl) | (apply D_pickF; rfl; rfl) | (apply D_int; rfl; rfl; rfl) | (apply D_lenM; rfl) | (apply D_len_sl; rfl) | (apply D_len_str; rfl) | (apply D_str; rfl; rfl; rfl) | (apply D_ext; rfl; rfl) | (apply D_not; rfl) | (apply D_loadW; rfl; rfl) | (apply D_loadA; rfl; rfl) | (apply D_box; rfl; rfl) | (apply D_b2s; rfl) | (apply D_len_nil; rfl) | exact D_fldB rfl | exact D_eqA rfl rfl rfl rfl rfl rfl rfl | exact D_neA rfl rfl rfl rfl rfl rfl rfl)
    | (refine idDg ?_; first | refine dg0t rfl rfl rfl ?_ | refine dg0f rfl rfl rfl ?_ | refine dg0u rfl rfl rfl ?_ | refine dgr rfl rfl ?_ | refine dgs rfl rfl (fun _ => ?_) (fun _ => ?_))
    | (refine idDn ?_; first | refine dL _ (fun hp' hs => D_loadB1 rfl (hs.trans rfl) rfl) rfl ?_ | refine dL _ (fun hp' hs => D_loadBA rfl (hs.trans rfl) rfl) rfl ?_ | refine dS (S_store rfl rfl rfl rfl rfl rfl rfl) rfl ?_ | refine dV (S_alloc 0 rfl) rfl rfl ?_ | refine dV (S_alloc 1 rfl) rfl rfl ?_ | refine dV (S_alloc 2 rfl) rfl rfl ?_ | refine dV (S_alloc 3 rfl) rfl rfl ?_ | refine dV (S_alloc 4 rfl) rfl rfl ?_ | refine dV (S_alloc 5 rfl) rfl rfl ?_ | refine dV (S_alloc 6 rfl) rfl rfl ?_ | refine dV (S_alloc 7 rfl) rfl rfl ?_)
    | refine WD_nil (by decide +kernel) ?_
  all_goals try rfl
  all_goals first
    | exact absurd (key_read ia (by assumption)).1 (by assumption)
    | (rename_i hx; exact absurd (by rw [(key_read ia (by assumption)).2]) hx)
    | (rename_i hx; exact absurd (key_cmp ia ib (by assumption) (by assumption)) hx)
    | (rw [sEq_t]; exact (read_key (by assumption)).2)
    | exact absurd (read_key (by assumption)).1 (by assumption)
end Go.Proofs
