/- Contracts of the program's readers of values' texts: what stands between quotes. -/
import Derived.Test.YtaphfieahcimcaaGreatDoorZQT7
namespace Go.Proofs
open Go.AL
attribute [local irreducible] Go.AL.W Go.AL.WL Go.AL.WD Go.AL.POp Go.AL.PPOp Go.AL.POpS Go.AL.PC Go.AL.AC Go.AL.YW Go.AL.Ret Go.AL.Le Go.AL.thn Go.AL.inBlk Go.AL.scp

noncomputable def unqV (s : List UInt8) : List UInt8 := (unq s).getD []
theorem unq_step1 {s : List UInt8} {i : Nat} (h : i < s.length) (hp : plainB s[i] = true) : unq (s.drop i) = (unq (s.drop (i + 1))).map (s[i] :: ·) := by
  rw [List.drop_eq_getElem_cons h, unq_cons, if_pos hp]
theorem unq_step2 {s : List UInt8} {i : Nat} (h : i < s.length) (hp : plainB s[i] = false) {c : UInt8} (h92 : s[i] = 92) (hc : pairS (s.drop (i + 1)) = some c) (hq : plainB c = false) : unq (s.drop i) = (unq (s.drop (i + 3))).map (c :: ·) := by
  rw [List.drop_eq_getElem_cons h, unq_cons, if_neg (by rw [hp]; decide), if_pos h92]
  have e : s.drop (i + 3) = (s.drop (i + 1)).drop 2 := by rw [List.drop_drop]
  rw [e]
  match s.drop (i + 1), hc with
  | a :: b :: t, hc =>
    have hc' : pairO a b = some c := hc
    simp only [hc', List.drop_succ_cons, List.drop_zero]
    rw [if_neg (by rw [hq]; decide)]
theorem unq_stepN {s : List UInt8} {i : Nat} (h : i < s.length) (hp : plainB s[i] = false) (hn : s[i] ≠ 92 ∨ pairS (s.drop (i + 1)) = none ∨ ∃ c, pairS (s.drop (i + 1)) = some c ∧ plainB c = true) : unq (s.drop i) = none := by
  rw [List.drop_eq_getElem_cons h, unq_cons, if_neg (by rw [hp]; decide)]
  by_cases h92 : s[i] = 92
  · rw [if_pos h92]
    rcases hn with hn | hn | ⟨c, hc, hq⟩
    · exact absurd h92 hn
    · match s.drop (i + 1), hn with
      | [], _ => rfl
      | [_], _ => rfl
      | a :: b :: t, hn =>
        have hn' : pairO a b = none := hn
        simp only [hn']
    · match s.drop (i + 1), hc with
      | a :: b :: t, hc =>
        have hc' : pairO a b = some c := hc
        simp only [hc']
        rw [if_pos hq]
  · rw [if_neg h92]
theorem drop_w (s : List UInt8) (i : Nat) (h : i < 9223372036854775807) : str (s.drop (IntKind.i64.wrap ((i : Int) + 1)).toNat) = str (s.drop (i + 1)) := by
  rw [w64 _ (by omega) (by omega)]; rfl

theorem isSome_f {α : Type} {o : Option α} (h : o.isSome = false) : o = none := by cases o <;> simp_all
theorem isSome_t {α : Type} {o : Option α} (h : o.isSome = true) : ∃ a, o = some a := by cases o <;> simp_all
theorem unq_noV {s acc : List UInt8} {i : Nat} (hu : unq s = (unq (s.drop i)).map (acc ++ ·)) (h : unq (s.drop i) = none) : [] = unqV s := by unfold unqV; rw [hu, h]; rfl
theorem unq_noE {s acc : List UInt8} {i : Nat} (hu : unq s = (unq (s.drop i)).map (acc ++ ·)) (h : unq (s.drop i) = none) : false = (unq s).isSome := by rw [hu, h]; rfl
set_option maxHeartbeats 16000000 in
theorem quoted_pc [GlobF Tryz.prog] (s : List UInt8) (hs : s.length < 268435456) : PC Tryz.prog 63 [str s] (.tu [str (unqV s), .sc (.bool (unq s).isSome)]) := by
  refine PC.of_body Tryz.func63 Tryz.ntmps63 rfl rfl rfl ?_
  repeat' first
    | (refine m_allocT rfl ?_; refine WL_adoptC 0 1 1 5 rfl rfl ?_)
    | (apply p1 (hd := rfl); case hop => first | (apply D_move; rfl) | (apply D_assign; rfl) | (apply D_pickT; rfl; rfl) | (apply D_pickF; rfl; rfl) | (apply D_int; rfl; rfl; rfl) | (apply D_len_str; rfl) | (apply D_ext; rfl; rfl) | (apply D_not; rfl) | (apply D_idxSn; rfl; rfl; (first | omega | (simp; done))) | (apply D_idxS; rfl; rfl; omega; (first | omega | (simp; done) | (simp; omega))) | (apply D_slS; rfl; rfl; rfl; all_goals first | omega | ((repeat rw [w64 _ (by omega) (by omega)]); omega) | decide) | (apply D_slSh; rfl; rfl; all_goals first | omega | ((repeat rw [w64 _ (by omega) (by omega)]); omega) | decide) | (apply D_slSl; rfl; rfl; all_goals first | omega | ((repeat rw [w64 _ (by omega) (by omega)]); omega) | decide))
    | refine W_seq ?_
    | refine W_region ?_
    | (refine idC ?_; first | refine c1 rfl ?_ | refine c0 rfl ?_ | refine cs rfl (fun _ => ?_) (fun _ => ?_))
    | refine WL_nil ?_
    | (refine idG ?_; first | refine g0t rfl rfl rfl ?_ | refine g0f rfl rfl rfl ?_ | refine g0u rfl rfl rfl ?_ | refine gr rfl rfl ?_ | refine gs rfl rfl (fun _ => ?_) (fun _ => ?_) | refine grn rfl rfl ?_)
    | refine tn ?_
    | refine tr ?_
    | refine br ?_
    | refine bn ?_
    | refine te ?_
    | (refine idB ?_; first | refine bh rfl ?_ | refine bm rfl ?_)
    | refine W_skip ?_
    | refine W_block ?_
    | refine W_exit ?_
    | refine W_ret ?_
    | refine W_label ?_
    | refine W_scope ?_
    | refine sn ?_
    | refine sr ?_
    | refine se ?_
    | (refine idR ?_; first | refine ret2 rfl rfl rfl rfl ?_ ?_ | refine rL2 rfl (by first | exact trivial | exact ⟨rfl, trivial⟩) (by first | exact ResO.tmp rfl | exact ResO.cellBA rfl rfl rfl | exact ResO.cellB1 rfl rfl rfl | exact ResO.cellEA rfl rfl | exact ResO.cellE1 rfl) (by first | exact ResO.tmp rfl | exact ResO.cellBA rfl rfl rfl | exact ResO.cellB1 rfl rfl rfl | exact ResO.cellEA rfl rfl | exact ResO.cellE1 rfl) ?_ ?_)
    | (refine idA ?_; first | refine m_var rfl rfl rfl rfl rfl rfl rfl ?_ | refine m_alloc rfl ?_)
    | refine Le.bool ?_
    | refine Le.int ?_
    | refine Le.str ?_
  refine W_loopL (X := Nat × List UInt8 × AV) (fun x => [(0, str s), (4, .bp 0 0), (5, .sc (.int .i64 (x.1 : Int)))]) (fun x => bH x.2.2 x.2.1)
    (fun x => x.1 ≤ s.length ∧ x.2.1.length ≤ x.1 ∧ unq s = (unq (s.drop x.1)).map (x.2.1 ++ ·) ∧ ownP 0 x.2.2) (fun x => s.length - x.1) (0, [], .sc (.pointer none)) ⟨Nat.zero_le _, Nat.le_refl _, by simp, .inl rfl⟩ ⟨rfl, rfl, rfl, trivial⟩ rfl ?_
  rintro ⟨i, acc, p⟩ ⟨hi, ha, hu, hp⟩
  simp only at hi ha hu hp ⊢
  have hlen : acc.length < 1099511627776 := by omega
  by_cases hi' : i < s.length
  · obtain ⟨c, hpc, hcd⟩ := pair_pc (s.drop (i + 1)) (by rw [List.length_drop]; omega)
    have hdw : (IntKind.i64.wrap ((i : Int) + 1)).toNat = i + 1 := by rw [w64 _ (by omega) (by omega)]; omega
    have hpc' : PC Tryz.prog 77 [str (s.drop (IntKind.i64.wrap ((i : Int) + 1)).toNat)] (.tu [.sc (.int .u8 c.toNat), .sc (.bool (pairS (s.drop (i + 1))).isSome)]) := by rw [hdw]; exact hpc
    repeat' first
      | (apply p1 (hd := rfl); case hop => first | (apply D_move; rfl) | (apply D_assign; rfl) | (apply D_pc (plain_pc _); rfl; exact .same rfl .nil) | (apply D_pc hpc'; rfl; exact .same rfl .nil) | (apply D_pickT; rfl; rfl) | (apply D_pickF; rfl; rfl) | (apply D_int; rfl; rfl; rfl) | (apply D_len_str; rfl) | (apply D_ext; rfl; rfl) | (apply D_not; rfl) | (apply D_idxSn; rfl; rfl; (first | omega | (simp; done))) | (apply D_idxS; rfl; rfl; omega; (first | omega | (simp; done) | (simp; omega))) | (apply D_slS; rfl; rfl; rfl; all_goals first | omega | ((repeat rw [w64 _ (by omega) (by omega)]); omega) | decide) | (apply D_slSh; rfl; rfl; all_goals first | omega | ((repeat rw [w64 _ (by omega) (by omega)]); omega) | decide) | (apply D_slSl; rfl; rfl; all_goals first | omega | ((repeat rw [w64 _ (by omega) (by omega)]); omega) | decide))
      | refine W_seq ?_
      | refine W_region ?_
      | (refine idC ?_; first | refine c1 rfl ?_ | refine c0 rfl ?_ | refine cs rfl (fun _ => ?_) (fun _ => ?_))
      | refine WL_nil ?_
      | (refine idG ?_; first | refine g0t rfl rfl rfl ?_ | refine g0f rfl rfl rfl ?_ | refine g0u rfl rfl rfl ?_ | refine gr rfl rfl ?_ | refine gs rfl rfl (fun _ => ?_) (fun _ => ?_) | refine grn rfl rfl ?_)
      | refine tn ?_
      | refine tr ?_
      | refine br ?_
      | refine bn ?_
      | refine te ?_
      | (refine idB ?_; first | refine bh rfl ?_ | refine bm rfl ?_)
      | refine W_skip ?_
      | refine W_block ?_
      | refine W_exit ?_
      | refine W_ret ?_
      | refine W_label ?_
      | refine W_scope ?_
      | refine sn ?_
      | refine sr ?_
      | refine se ?_
      | (refine idR ?_; first | refine ret2 rfl rfl rfl rfl ?_ ?_ | refine rL2 rfl (by first | exact trivial | exact ⟨rfl, trivial⟩) (by first | exact ResO.tmp rfl | exact ResO.cellBA rfl rfl rfl | exact ResO.cellB1 rfl rfl rfl | exact ResO.cellEA rfl rfl | exact ResO.cellE1 rfl) (by first | exact ResO.tmp rfl | exact ResO.cellBA rfl rfl rfl | exact ResO.cellB1 rfl rfl rfl | exact ResO.cellEA rfl rfl | exact ResO.cellE1 rfl) ?_ ?_)
      | (refine idA ?_; first | refine m_var rfl rfl rfl rfl rfl rfl rfl ?_ | refine m_alloc rfl ?_)
      | refine Le.bool ?_
      | refine Le.int ?_
      | refine Le.str ?_
      | (refine m_call (d := 19) (wbyte_ac (n := 2) rfl (bH_B hp hlen) _) rfl rfl rfl ?_; rintro _ _ ⟨rfl, rfl⟩; rw [bH_next])
      | (refine m_call (d := 43) (wbyte_ac (n := 2) rfl (bH_B hp hlen) _) rfl rfl rfl ?_; rintro _ _ ⟨rfl, rfl⟩; rw [bH_next])
    all_goals first
      | (exfalso; omega)
      | skip
    · rename_i _ hpl
      exact ⟨rfl, (i + 1, acc ++ [s[i]], .bp 0 0), ⟨by omega, by rw [List.length_append]; simp only [List.length_cons, List.length_nil]; omega, by rw [hu, unq_step1 hi' hpl]; cases unq (s.drop (i + 1)) <;> simp, .inr rfl⟩, by simp only; omega, ⟨rfl, rfl, ieq (wsucc i (by omega)), trivial⟩, rfl⟩
    · rename_i _ hpl h92
      exact unq_noV hu (unq_stepN hi' hpl (.inl (by intro e; rw [e] at h92; exact h92 rfl)))
    · rename_i _ hpl h92
      exact unq_noE hu (unq_stepN hi' hpl (.inl (by intro e; rw [e] at h92; exact h92 rfl)))
    · rename_i _ hpl h92 hn
      exact unq_noV hu (unq_stepN hi' hpl (.inr (.inl (isSome_f hn))))
    · rename_i _ hpl h92 hn
      exact unq_noE hu (unq_stepN hi' hpl (.inr (.inl (isSome_f hn))))
    · rename_i _ hpl h92 hn hq
      obtain ⟨d, hd⟩ := isSome_t hn
      obtain rfl := hcd d hd
      exact unq_noV hu (unq_stepN hi' hpl (.inr (.inr ⟨_, hd, hq⟩)))
    · rename_i _ hpl h92 hn hq
      obtain ⟨d, hd⟩ := isSome_t hn
      obtain rfl := hcd d hd
      exact unq_noE hu (unq_stepN hi' hpl (.inr (.inr ⟨_, hd, hq⟩)))
    · rename_i _ hpl h92 hn hq
      obtain ⟨d, hd⟩ := isSome_t hn
      obtain rfl := hcd d hd
      have h2 := pairS_len (s := s.drop (i + 1)) (by rw [hd]; simp)
      rw [List.length_drop] at h2
      have e92 : s[i] = 92 := UInt8.toNat_inj.1 (by show s[i].toNat = 92; omega)
      exact ⟨rfl, (i + 3, acc ++ [c], .bp 0 0), ⟨by omega, by rw [List.length_append]; simp only [List.length_cons, List.length_nil]; omega, by rw [hu, unq_step2 hi' hpl e92 hd hq]; cases unq (s.drop (i + 3)) <;> simp, .inr rfl⟩, by simp only; omega, ⟨rfl, rfl, ieq (by rw [w64 _ (by omega) (by omega)]; omega), trivial⟩, rfl⟩
  · repeat' first
      | (apply p1 (hd := rfl); case hop => first | (apply D_move; rfl) | (apply D_assign; rfl) | (apply D_pickT; rfl; rfl) | (apply D_pickF; rfl; rfl) | (apply D_int; rfl; rfl; rfl) | (apply D_len_str; rfl) | (apply D_ext; rfl; rfl) | (apply D_not; rfl) | (apply D_idxSn; rfl; rfl; (first | omega | (simp; done))) | (apply D_idxS; rfl; rfl; omega; (first | omega | (simp; done) | (simp; omega))) | (apply D_slS; rfl; rfl; rfl; all_goals first | omega | ((repeat rw [w64 _ (by omega) (by omega)]); omega) | decide) | (apply D_slSh; rfl; rfl; all_goals first | omega | ((repeat rw [w64 _ (by omega) (by omega)]); omega) | decide) | (apply D_slSl; rfl; rfl; all_goals first | omega | ((repeat rw [w64 _ (by omega) (by omega)]); omega) | decide))
      | refine W_seq ?_
      | refine W_region ?_
      | (refine idC ?_; first | refine c1 rfl ?_ | refine c0 rfl ?_ | refine cs rfl (fun _ => ?_) (fun _ => ?_))
      | refine WL_nil ?_
      | (refine idG ?_; first | refine g0t rfl rfl rfl ?_ | refine g0f rfl rfl rfl ?_ | refine g0u rfl rfl rfl ?_ | refine gr rfl rfl ?_ | refine gs rfl rfl (fun _ => ?_) (fun _ => ?_) | refine grn rfl rfl ?_)
      | refine tn ?_
      | refine tr ?_
      | refine br ?_
      | refine bn ?_
      | refine te ?_
      | (refine idB ?_; first | refine bh rfl ?_ | refine bm rfl ?_)
      | refine W_skip ?_
      | refine W_block ?_
      | refine W_exit ?_
      | refine W_ret ?_
      | refine W_label ?_
      | refine W_scope ?_
      | refine sn ?_
      | refine sr ?_
      | refine se ?_
      | (refine idR ?_; first | refine ret2 rfl rfl rfl rfl ?_ ?_ | refine rL2 rfl (by first | exact trivial | exact ⟨rfl, trivial⟩) (by first | exact ResO.tmp rfl | exact ResO.cellBA rfl rfl rfl | exact ResO.cellB1 rfl rfl rfl | exact ResO.cellEA rfl rfl | exact ResO.cellE1 rfl) (by first | exact ResO.tmp rfl | exact ResO.cellBA rfl rfl rfl | exact ResO.cellB1 rfl rfl rfl | exact ResO.cellEA rfl rfl | exact ResO.cellE1 rfl) ?_ ?_)
      | (refine idA ?_; first | refine m_var rfl rfl rfl rfl rfl rfl rfl ?_ | refine m_alloc rfl ?_)
      | refine Le.bool ?_
      | refine Le.int ?_
      | refine Le.str ?_
      | (refine m_call (d := 46) (bstr_ac (bH_B hp hlen)) rfl rfl rfl ?_; rintro _ _ ⟨rfl, rfl⟩)
    all_goals first
      | (exfalso; omega)
      | skip
    all_goals (rw [List.drop_eq_nil_of_le (by omega)] at hu; simp [unq] at hu)
    · unfold unqV; rw [hu]; rfl
    · rw [hu]; rfl
end Go.Proofs
