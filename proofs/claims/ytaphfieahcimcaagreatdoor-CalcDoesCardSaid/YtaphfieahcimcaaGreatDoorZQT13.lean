/- Contracts of the reference's readers of values' texts: raw bytes. -/
import Derived.Test.YtaphfieahcimcaaGreatDoorZQT12
namespace Go.Proofs
open Go.AL
attribute [local irreducible] Go.AL.W Go.AL.WL Go.AL.WD Go.AL.POp Go.AL.PPOp Go.AL.POpS Go.AL.PC Go.AL.AC Go.AL.YW Go.AL.Ret Go.AL.Le Go.AL.thn Go.AL.inBlk Go.AL.scp

def unhexV (s : List UInt8) : List UInt8 := (unhex s).getD []
theorem unhex_step {s : List UInt8} {i : Nat} (h : i + 1 < s.length) {c : UInt8} (hc : pairO (s[i]'(by omega)) (s[i + 1]'h) = some c) : unhex (s.drop i) = (unhex (s.drop (i + 2))).map (c :: ·) := by
  rw [List.drop_eq_getElem_cons (by omega : i < s.length), List.drop_eq_getElem_cons h, unhex, hc]
theorem unhex_no {s : List UInt8} {i : Nat} (h : i + 1 < s.length) (hc : pairO (s[i]'(by omega)) (s[i + 1]'h) = none) : unhex (s.drop i) = none := by
  rw [List.drop_eq_getElem_cons (by omega : i < s.length), List.drop_eq_getElem_cons h, unhex, hc]
theorem unhex_odd {s : List UInt8} {i : Nat} (h : i < s.length) (h1 : s.length ≤ i + 1) : unhex (s.drop i) = none := by
  rw [List.drop_eq_getElem_cons h, List.drop_eq_nil_of_le h1]; rfl
theorem uh_noV {s acc : List UInt8} {i : Nat} (hu : unhex s = (unhex (s.drop i)).map (acc ++ ·)) (h : unhex (s.drop i) = none) : [] = unhexV s := by unfold unhexV; rw [hu, h]; rfl
theorem uh_noE {s acc : List UInt8} {i : Nat} (hu : unhex s = (unhex (s.drop i)).map (acc ++ ·)) (h : unhex (s.drop i) = none) : false = (unhex s).isSome := by rw [hu, h]; rfl
theorem pairO_lo1 {a b : UInt8} (h : nibI a < 0) : pairO a b = none := by
  rcases hx : nib a with _ | x
  · exact pairO_n1 hx
  · rw [nibI_some hx] at h; omega
theorem pairO_lo2 {a b : UInt8} (h : nibI b < 0) : pairO a b = none := by
  unfold pairO
  rcases hy : nib b with _ | y
  · cases nib a <;> rfl
  · rw [nibI_some hy] at h; omega
theorem pairO_hi {a b c : UInt8} (h1 : 0 ≤ nibI a) (h2 : 0 ≤ nibI b) (hc : IntKind.u8.wrap (IntKind.i64.wrap (IntKind.i64.wrap (nibI a * 16) + nibI b)) = (c.toNat : Int)) : pairO a b = some c := by
  unfold pairO
  rcases hx : nib a with _ | x
  · rw [nibI_none hx] at h1; omega
  · rcases hy : nib b with _ | y
    · rw [nibI_none hy] at h2; omega
    · rw [nibI_some hx, nibI_some hy] at hc
      have lx := nib_lt hx
      have ly := nib_lt hy
      rw [w64 ((x : Int) * 16) (by omega) (by omega), w64 _ (by omega) (by omega), w8i _ (by omega) (by omega)] at hc
      simp only [Option.some.injEq]
      apply UInt8.toNat_inj.1
      rw [UInt8.toNat_ofNat']; omega

set_option maxHeartbeats 16000000 in
theorem raw0_pc [GlobF Tryz.prog] (s : List UInt8) (hs : s.length < 268435456) : PC Tryz.prog 54 [str s, .sc (.bool false)] (.tu [str (unhexV s), .sc (.bool (unhex s).isSome)]) := by
  refine PC.of_body Tryz.func54 Tryz.ntmps54 rfl rfl rfl ?_
  repeat' first
    | (apply p1 (hd := rfl); case hop => first | (apply D_move; rfl) | (apply D_assign; rfl) | (apply D_pickT; rfl; rfl) | (apply D_pickF; rfl; rfl) | (apply D_int; rfl; rfl; rfl) | (apply D_len_str; rfl) | (apply D_conv_int; rfl) | (apply D_b2s; rfl) | (apply D_idxSn; rfl; rfl; (first | omega | (simp; done))) | (apply D_idxS; rfl; rfl; omega; (first | omega | (simp; done) | (simp; omega))) | (apply D_lit; rfl; rfl; rfl; rfl))
    | refine W_seq ?_
    | refine W_region ?_
    | (refine idC ?_; first | refine c1 rfl ?_ | refine c0 rfl ?_ | refine cs rfl (fun _ => ?_) (fun _ => ?_))
    | refine WL_nil ?_
    | (refine idG ?_; first | refine g0t rfl rfl rfl ?_ | refine g0f rfl rfl rfl ?_ | refine g0u rfl rfl rfl ?_ | refine gr rfl rfl ?_ | refine gs rfl rfl (fun _ => ?_) (fun _ => ?_) | refine grn rfl rfl ?_)
    | refine tn ?_
    | refine tr ?_
    | refine br ?_
    | refine bn ?_
    | refine te ?_
    | (refine idB ?_; first | refine bh rfl ?_ | refine bm rfl ?_)
    | refine W_skip ?_
    | refine W_block ?_
    | refine W_exit ?_
    | refine W_ret ?_
    | refine W_label ?_
    | refine W_scope ?_
    | refine sn ?_
    | refine sr ?_
    | refine se ?_
    | (refine idR ?_; first | refine ret2 rfl rfl rfl rfl ?_ ?_ | refine rL2 rfl (by first | exact trivial | exact ⟨rfl, trivial⟩) (by first | exact ResO.tmp rfl | exact ResO.cellBA rfl rfl rfl | exact ResO.cellB1 rfl rfl rfl | exact ResO.cellEA rfl rfl | exact ResO.cellE1 rfl) (by first | exact ResO.tmp rfl | exact ResO.cellBA rfl rfl rfl | exact ResO.cellB1 rfl rfl rfl | exact ResO.cellEA rfl rfl | exact ResO.cellE1 rfl) ?_ ?_)
    | refine Le.bool ?_
    | refine Le.int ?_
    | refine Le.str ?_
    | (refine idAp ?_; refine m_app rfl rfl (by first | rfl | assumption | exact get_set (by assumption) | exact get_set (get_set (by assumption)) | exact get_set (get_set (get_set (by assumption))) | ((repeat first | assumption | exact get_last | (refine get_last2 ?_; focus (simp; done)) | apply get_set | apply get_app | (apply get_ne; focus omega)); done)) ?_ rfl rfl ?_ ?_ rfl ?_; (first | rfl | focus (simp only [List.length_map, List.length_append, List.length_cons, List.length_nil]; omega) | focus (simp; done) | focus (simp; omega)); (first | focus (simp only [List.length_map, List.length_append, List.length_cons, List.length_nil]; omega) | focus (simp; done) | focus (simp; omega)); (first | focus (simp only [List.length_map, List.length_append, List.length_cons, List.length_nil]; omega) | focus (simp; done) | focus (simp; omega)))
    | (refine idAp ?_; refine m_appB rfl rfl rfl (by first | rfl | assumption | exact get_set (by assumption) | exact get_set (get_set (by assumption)) | exact get_set (get_set (get_set (by assumption))) | ((repeat first | assumption | exact get_last | (refine get_last2 ?_; focus (simp; done)) | apply get_set | apply get_app | (apply get_ne; focus omega)); done)) ?_ rfl rfl ?_ ?_ rfl ?_; (first | rfl | focus (simp only [List.length_map, List.length_append, List.length_cons, List.length_nil]; omega) | focus (simp; done) | focus (simp; omega)); (first | focus (simp only [List.length_map, List.length_append, List.length_cons, List.length_nil]; omega) | focus (simp; done) | focus (simp; omega)); (first | focus (simp only [List.length_map, List.length_append, List.length_cons, List.length_nil]; omega) | focus (simp; done) | focus (simp; omega)))
  refine W_adopt 6 1 5 rfl ?_
  refine W_loopL (X := Nat × List UInt8) (fun x => [(0, str s), (1, .sc (.bool false)), (6, .sl (some 0) 1 (x.2.map byteC)), (7, .sc (.int .i64 (x.1 : Int)))]) (fun x => [.tail x.2.length 1 5])
    (fun x => x.1 ≤ s.length ∧ x.2.length ≤ x.1 ∧ unhex s = (unhex (s.drop x.1)).map (x.2 ++ ·)) (fun x => s.length - x.1) (0, []) ⟨Nat.zero_le _, Nat.le_refl _, by simp⟩ ⟨rfl, rfl, rfl, rfl, trivial⟩ rfl ?_
  rintro ⟨i, acc⟩ ⟨hi, ha, hu⟩
  simp only at hi ha hu ⊢
  by_cases h2 : i + 1 < s.length
  · obtain ⟨c, hc⟩ := u8_wrap (IntKind.i64.wrap (IntKind.i64.wrap (nibI (s[i]'(by omega)) * 16) + nibI (s[i + 1]'h2)))
    have hw1 : (IntKind.i64.wrap ((i : Int) + 1)).toNat = i + 1 := by rw [w64 _ (by omega) (by omega)]; omega
    repeat' first
      | (apply p1 (hd := rfl); case hop => first | (apply D_move; rfl) | (apply D_assign; rfl) | (apply D_pc (nibble1_pc _); rfl; exact .same rfl .nil) | (apply D_pickT; rfl; rfl) | (apply D_pickF; rfl; rfl) | (apply D_int; rfl; rfl; rfl) | (apply D_len_str; rfl) | (apply D_conv_int; rfl) | (apply D_b2s; rfl) | (apply D_idxSn; rfl; rfl; (first | omega | (simp; done))) | (apply D_idxS; rfl; rfl; omega; (first | omega | (simp; done) | (simp; omega))) | (apply D_lit; rfl; rfl; rfl; rfl))
      | refine W_seq ?_
      | refine W_region ?_
      | (refine idC ?_; first | refine c1 rfl ?_ | refine c0 rfl ?_ | refine cs rfl (fun _ => ?_) (fun _ => ?_))
      | refine WL_nil ?_
      | (refine idG ?_; first | refine g0t rfl rfl rfl ?_ | refine g0f rfl rfl rfl ?_ | refine g0u rfl rfl rfl ?_ | refine gr rfl rfl ?_ | refine gs rfl rfl (fun _ => ?_) (fun _ => ?_) | refine grn rfl rfl ?_)
      | refine tn ?_
      | refine tr ?_
      | refine br ?_
      | refine bn ?_
      | refine te ?_
      | (refine idB ?_; first | refine bh rfl ?_ | refine bm rfl ?_)
      | refine W_skip ?_
      | refine W_block ?_
      | refine W_exit ?_
      | refine W_ret ?_
      | refine W_label ?_
      | refine W_scope ?_
      | refine sn ?_
      | refine sr ?_
      | refine se ?_
      | (refine idR ?_; first | refine ret2 rfl rfl rfl rfl ?_ ?_ | refine rL2 rfl (by first | exact trivial | exact ⟨rfl, trivial⟩) (by first | exact ResO.tmp rfl | exact ResO.cellBA rfl rfl rfl | exact ResO.cellB1 rfl rfl rfl | exact ResO.cellEA rfl rfl | exact ResO.cellE1 rfl) (by first | exact ResO.tmp rfl | exact ResO.cellBA rfl rfl rfl | exact ResO.cellB1 rfl rfl rfl | exact ResO.cellEA rfl rfl | exact ResO.cellE1 rfl) ?_ ?_)
      | refine Le.bool ?_
      | refine Le.int ?_
      | refine Le.str ?_
      | (refine idAp ?_; refine m_app rfl rfl (by first | rfl | assumption | exact get_set (by assumption) | exact get_set (get_set (by assumption)) | exact get_set (get_set (get_set (by assumption))) | ((repeat first | assumption | exact get_last | (refine get_last2 ?_; focus (simp; done)) | apply get_set | apply get_app | (apply get_ne; focus omega)); done)) ?_ rfl rfl ?_ ?_ rfl ?_; (first | rfl | focus (simp only [List.length_map, List.length_append, List.length_cons, List.length_nil]; omega) | focus (simp; done) | focus (simp; omega)); (first | focus (simp only [List.length_map, List.length_append, List.length_cons, List.length_nil]; omega) | focus (simp; done) | focus (simp; omega)); (first | focus (simp only [List.length_map, List.length_append, List.length_cons, List.length_nil]; omega) | focus (simp; done) | focus (simp; omega)))
      | (refine idAp ?_; refine m_appB rfl rfl rfl (by first | rfl | assumption | exact get_set (by assumption) | exact get_set (get_set (by assumption)) | exact get_set (get_set (get_set (by assumption))) | ((repeat first | assumption | exact get_last | (refine get_last2 ?_; focus (simp; done)) | apply get_set | apply get_app | (apply get_ne; focus omega)); done)) ?_ rfl rfl ?_ ?_ rfl ?_; (first | rfl | focus (simp only [List.length_map, List.length_append, List.length_cons, List.length_nil]; omega) | focus (simp; done) | focus (simp; omega)); (first | focus (simp only [List.length_map, List.length_append, List.length_cons, List.length_nil]; omega) | focus (simp; done) | focus (simp; omega)); (first | focus (simp only [List.length_map, List.length_append, List.length_cons, List.length_nil]; omega) | focus (simp; done) | focus (simp; omega)))
    · exfalso; rename_i g; rw [w64 _ (by omega) (by omega)] at g; omega
    · exfalso; rename_i g; rw [w64 _ (by omega) (by omega)] at g; omega
    · rename_i g
      exact uh_noV hu (unhex_no h2 (pairO_lo1 g))
    · rename_i g
      exact uh_noE hu (unhex_no h2 (pairO_lo1 g))
    · rename_i g
      simp only [hw1] at g
      exact uh_noV hu (unhex_no h2 (pairO_lo2 g))
    · rename_i g
      simp only [hw1] at g
      exact uh_noE hu (unhex_no h2 (pairO_lo2 g))
    · rename_i g1 g2
      simp only [hw1] at g2
      have hp := pairO_hi g1 g2 hc
      have hw2 : IntKind.i64.wrap ((i : Int) + 2) = ((i + 2 : Nat) : Int) := by rw [w64 _ (by omega) (by omega)]; omega
      refine ⟨rfl, (i + 2, acc ++ [c]), ⟨by omega, by rw [List.length_append]; simp only [List.length_cons, List.length_nil]; omega, by rw [hu, unhex_step h2 hp]; cases unhex (s.drop (i + 2)) <;> simp⟩, by simp only; omega, ⟨rfl, rfl, sleq ?_, ieq hw2, trivial⟩, ?_⟩
      · rw [List.map_append]; simp only [hw1, hc]; rfl
      · simp
    all_goals (exfalso; omega)
  · repeat' first
      | (apply p1 (hd := rfl); case hop => first | (apply D_move; rfl) | (apply D_assign; rfl) | (apply D_pickT; rfl; rfl) | (apply D_pickF; rfl; rfl) | (apply D_int; rfl; rfl; rfl) | (apply D_len_str; rfl) | (apply D_conv_int; rfl) | (apply D_b2s; rfl) | (apply D_idxSn; rfl; rfl; (first | omega | (simp; done))) | (apply D_idxS; rfl; rfl; omega; (first | omega | (simp; done) | (simp; omega))) | (apply D_lit; rfl; rfl; rfl; rfl))
      | refine W_seq ?_
      | refine W_region ?_
      | (refine idC ?_; first | refine c1 rfl ?_ | refine c0 rfl ?_ | refine cs rfl (fun _ => ?_) (fun _ => ?_))
      | refine WL_nil ?_
      | (refine idG ?_; first | refine g0t rfl rfl rfl ?_ | refine g0f rfl rfl rfl ?_ | refine g0u rfl rfl rfl ?_ | refine gr rfl rfl ?_ | refine gs rfl rfl (fun _ => ?_) (fun _ => ?_) | refine grn rfl rfl ?_)
      | refine tn ?_
      | refine tr ?_
      | refine br ?_
      | refine bn ?_
      | refine te ?_
      | (refine idB ?_; first | refine bh rfl ?_ | refine bm rfl ?_)
      | refine W_skip ?_
      | refine W_block ?_
      | refine W_exit ?_
      | refine W_ret ?_
      | refine W_label ?_
      | refine W_scope ?_
      | refine sn ?_
      | refine sr ?_
      | refine se ?_
      | (refine idR ?_; first | refine ret2 rfl rfl rfl rfl ?_ ?_ | refine rL2 rfl (by first | exact trivial | exact ⟨rfl, trivial⟩) (by first | exact ResO.tmp rfl | exact ResO.cellBA rfl rfl rfl | exact ResO.cellB1 rfl rfl rfl | exact ResO.cellEA rfl rfl | exact ResO.cellE1 rfl) (by first | exact ResO.tmp rfl | exact ResO.cellBA rfl rfl rfl | exact ResO.cellB1 rfl rfl rfl | exact ResO.cellEA rfl rfl | exact ResO.cellE1 rfl) ?_ ?_)
      | refine Le.bool ?_
      | refine Le.int ?_
      | refine Le.str ?_
      | (refine idAp ?_; refine m_app rfl rfl (by first | rfl | assumption | exact get_set (by assumption) | exact get_set (get_set (by assumption)) | exact get_set (get_set (get_set (by assumption))) | ((repeat first | assumption | exact get_last | (refine get_last2 ?_; focus (simp; done)) | apply get_set | apply get_app | (apply get_ne; focus omega)); done)) ?_ rfl rfl ?_ ?_ rfl ?_; (first | rfl | focus (simp only [List.length_map, List.length_append, List.length_cons, List.length_nil]; omega) | focus (simp; done) | focus (simp; omega)); (first | focus (simp only [List.length_map, List.length_append, List.length_cons, List.length_nil]; omega) | focus (simp; done) | focus (simp; omega)); (first | focus (simp only [List.length_map, List.length_append, List.length_cons, List.length_nil]; omega) | focus (simp; done) | focus (simp; omega)))
      | (refine idAp ?_; refine m_appB rfl rfl rfl (by first | rfl | assumption | exact get_set (by assumption) | exact get_set (get_set (by assumption)) | exact get_set (get_set (get_set (by assumption))) | ((repeat first | assumption | exact get_last | (refine get_last2 ?_; focus (simp; done)) | apply get_set | apply get_app | (apply get_ne; focus omega)); done)) ?_ rfl rfl ?_ ?_ rfl ?_; (first | rfl | focus (simp only [List.length_map, List.length_append, List.length_cons, List.length_nil]; omega) | focus (simp; done) | focus (simp; omega)); (first | focus (simp only [List.length_map, List.length_append, List.length_cons, List.length_nil]; omega) | focus (simp; done) | focus (simp; omega)); (first | focus (simp only [List.length_map, List.length_append, List.length_cons, List.length_nil]; omega) | focus (simp; done) | focus (simp; omega)))
    all_goals first
      | (rename_i g _; exact uh_noV hu (unhex_odd (by omega) (by omega)))
      | (rename_i g _; exact uh_noE hu (unhex_odd (by omega) (by omega)))
      | (exfalso; rename_i g; rw [w64 _ (by omega) (by omega)] at g; omega)
      | skip
    all_goals (rw [List.drop_eq_nil_of_le (by omega)] at hu; simp [unhex] at hu)
    · unfold unhexV; rw [hu]; rfl
    · rw [hu]; rfl

set_option maxHeartbeats 16000000 in
theorem raw1_pc [GlobF Tryz.prog] (s : List UInt8) (hs : s.length < 268435456) : PC Tryz.prog 54 [str s, .sc (.bool true)] (.tu [str (unqV s), .sc (.bool (unq s).isSome)]) := by
  refine PC.of_body Tryz.func54 Tryz.ntmps54 rfl rfl rfl ?_
  repeat' first
    | (apply p1 (hd := rfl); case hop => first | (apply D_move; rfl) | (apply D_assign; rfl) | (apply D_pickT; rfl; rfl) | (apply D_pickF; rfl; rfl) | (apply D_int; rfl; rfl; rfl) | (apply D_len_str; rfl) | (apply D_conv_int; rfl) | (apply D_b2s; rfl) | (apply D_idxSn; rfl; rfl; (first | omega | (simp; done))) | (apply D_idxS; rfl; rfl; omega; (first | omega | (simp; done) | (simp; omega))) | (apply D_lit; rfl; rfl; rfl; rfl))
    | refine W_seq ?_
    | refine W_region ?_
    | (refine idC ?_; first | refine c1 rfl ?_ | refine c0 rfl ?_ | refine cs rfl (fun _ => ?_) (fun _ => ?_))
    | refine WL_nil ?_
    | (refine idG ?_; first | refine g0t rfl rfl rfl ?_ | refine g0f rfl rfl rfl ?_ | refine g0u rfl rfl rfl ?_ | refine gr rfl rfl ?_ | refine gs rfl rfl (fun _ => ?_) (fun _ => ?_) | refine grn rfl rfl ?_)
    | refine tn ?_
    | refine tr ?_
    | refine br ?_
    | refine bn ?_
    | refine te ?_
    | (refine idB ?_; first | refine bh rfl ?_ | refine bm rfl ?_)
    | refine W_skip ?_
    | refine W_block ?_
    | refine W_exit ?_
    | refine W_ret ?_
    | refine W_label ?_
    | refine W_scope ?_
    | refine sn ?_
    | refine sr ?_
    | refine se ?_
    | (refine idR ?_; first | refine ret2 rfl rfl rfl rfl ?_ ?_ | refine rL2 rfl (by first | exact trivial | exact ⟨rfl, trivial⟩) (by first | exact ResO.tmp rfl | exact ResO.cellBA rfl rfl rfl | exact ResO.cellB1 rfl rfl rfl | exact ResO.cellEA rfl rfl | exact ResO.cellE1 rfl) (by first | exact ResO.tmp rfl | exact ResO.cellBA rfl rfl rfl | exact ResO.cellB1 rfl rfl rfl | exact ResO.cellEA rfl rfl | exact ResO.cellE1 rfl) ?_ ?_)
    | refine Le.bool ?_
    | refine Le.int ?_
    | refine Le.str ?_
    | (refine idAp ?_; refine m_app rfl rfl (by first | rfl | assumption | exact get_set (by assumption) | exact get_set (get_set (by assumption)) | exact get_set (get_set (get_set (by assumption))) | ((repeat first | assumption | exact get_last | (refine get_last2 ?_; focus (simp; done)) | apply get_set | apply get_app | (apply get_ne; focus omega)); done)) ?_ rfl rfl ?_ ?_ rfl ?_; (first | rfl | focus (simp only [List.length_map, List.length_append, List.length_cons, List.length_nil]; omega) | focus (simp; done) | focus (simp; omega)); (first | focus (simp only [List.length_map, List.length_append, List.length_cons, List.length_nil]; omega) | focus (simp; done) | focus (simp; omega)); (first | focus (simp only [List.length_map, List.length_append, List.length_cons, List.length_nil]; omega) | focus (simp; done) | focus (simp; omega)))
    | (refine idAp ?_; refine m_appB rfl rfl rfl (by first | rfl | assumption | exact get_set (by assumption) | exact get_set (get_set (by assumption)) | exact get_set (get_set (get_set (by assumption))) | ((repeat first | assumption | exact get_last | (refine get_last2 ?_; focus (simp; done)) | apply get_set | apply get_app | (apply get_ne; focus omega)); done)) ?_ rfl rfl ?_ ?_ rfl ?_; (first | rfl | focus (simp only [List.length_map, List.length_append, List.length_cons, List.length_nil]; omega) | focus (simp; done) | focus (simp; omega)); (first | focus (simp only [List.length_map, List.length_append, List.length_cons, List.length_nil]; omega) | focus (simp; done) | focus (simp; omega)); (first | focus (simp only [List.length_map, List.length_append, List.length_cons, List.length_nil]; omega) | focus (simp; done) | focus (simp; omega)))
  refine W_adopt 6 1 5 rfl ?_
  refine W_loopL (X := Nat × List UInt8) (fun x => [(0, str s), (1, .sc (.bool true)), (6, .sl (some 0) 1 (x.2.map byteC)), (7, .sc (.int .i64 (x.1 : Int)))]) (fun x => [.tail x.2.length 1 5])
    (fun x => x.1 ≤ s.length ∧ x.2.length ≤ x.1 ∧ unq s = (unq (s.drop x.1)).map (x.2 ++ ·)) (fun x => s.length - x.1) (0, []) ⟨Nat.zero_le _, Nat.le_refl _, by simp⟩ ⟨rfl, rfl, rfl, rfl, trivial⟩ rfl ?_
  rintro ⟨i, acc⟩ ⟨hi, ha, hu⟩
  simp only at hi ha hu ⊢
  by_cases h2 : i + 2 < s.length
  · obtain ⟨c, hc⟩ := u8_wrap (IntKind.i64.wrap (IntKind.i64.wrap (nibI (s[i + 1]'(by omega)) * 16) + nibI (s[i + 2]'h2)))
    have hw1 : IntKind.i64.wrap ((i : Int) + 1) = ((i + 1 : Nat) : Int) := by rw [w64 _ (by omega) (by omega)]; omega
    have hw2 : IntKind.i64.wrap (((i + 1 : Nat) : Int) + 1) = ((i + 2 : Nat) : Int) := by rw [w64 _ (by omega) (by omega)]; omega
    have hw3 : IntKind.i64.wrap (((i + 1 : Nat) : Int) + 2) = ((i + 3 : Nat) : Int) := by rw [w64 _ (by omega) (by omega)]; omega
    have hp2 : pairS (s.drop (i + 1)) = pairO (s[i + 1]'(by omega)) (s[i + 2]'h2) := by
      rw [List.drop_eq_getElem_cons (by omega : i + 1 < s.length), List.drop_eq_getElem_cons h2]; rfl
    repeat' first
      | (apply p1 (hd := rfl); case hop => first | (apply D_move; rfl) | (apply D_assign; rfl) | exact D_sc (D_int rfl rfl rfl) (congrArg _ hw1) | exact D_sc (D_int rfl rfl rfl) (congrArg _ hw2) | exact D_sc (D_int rfl rfl rfl) (congrArg _ hw3) | exact D_sc (D_conv_int rfl) (congrArg _ hc) | (apply D_pc (plain1_pc _); rfl; exact .same rfl .nil) | (apply D_pc (nibble1_pc _); rfl; exact .same rfl .nil) | (apply D_pickT; rfl; rfl) | (apply D_pickF; rfl; rfl) | (apply D_int; rfl; rfl; rfl) | (apply D_len_str; rfl) | (apply D_conv_int; rfl) | (apply D_b2s; rfl) | (apply D_idxSn; rfl; rfl; (first | omega | (simp; done))) | (apply D_idxS; rfl; rfl; omega; (first | omega | (simp; done) | (simp; omega))) | (apply D_lit; rfl; rfl; rfl; rfl))
      | refine W_seq ?_
      | refine W_region ?_
      | (refine idC ?_; first | refine c1 rfl ?_ | refine c0 rfl ?_ | refine cs rfl (fun _ => ?_) (fun _ => ?_))
      | refine WL_nil ?_
      | (refine idG ?_; first | refine g0t rfl rfl rfl ?_ | refine g0f rfl rfl rfl ?_ | refine g0u rfl rfl rfl ?_ | refine gr rfl rfl ?_ | refine gs rfl rfl (fun _ => ?_) (fun _ => ?_) | refine grn rfl rfl ?_)
      | refine tn ?_
      | refine tr ?_
      | refine br ?_
      | refine bn ?_
      | refine te ?_
      | (refine idB ?_; first | refine bh rfl ?_ | refine bm rfl ?_)
      | refine W_skip ?_
      | refine W_block ?_
      | refine W_exit ?_
      | refine W_ret ?_
      | refine W_label ?_
      | refine W_scope ?_
      | refine sn ?_
      | refine sr ?_
      | refine se ?_
      | (refine idR ?_; first | refine ret2 rfl rfl rfl rfl ?_ ?_ | refine rL2 rfl (by first | exact trivial | exact ⟨rfl, trivial⟩) (by first | exact ResO.tmp rfl | exact ResO.cellBA rfl rfl rfl | exact ResO.cellB1 rfl rfl rfl | exact ResO.cellEA rfl rfl | exact ResO.cellE1 rfl) (by first | exact ResO.tmp rfl | exact ResO.cellBA rfl rfl rfl | exact ResO.cellB1 rfl rfl rfl | exact ResO.cellEA rfl rfl | exact ResO.cellE1 rfl) ?_ ?_)
      | refine Le.bool ?_
      | refine Le.int ?_
      | refine Le.str ?_
      | (refine idAp ?_; refine m_app rfl rfl (by first | rfl | assumption | exact get_set (by assumption) | exact get_set (get_set (by assumption)) | exact get_set (get_set (get_set (by assumption))) | ((repeat first | assumption | exact get_last | (refine get_last2 ?_; focus (simp; done)) | apply get_set | apply get_app | (apply get_ne; focus omega)); done)) ?_ rfl rfl ?_ ?_ rfl ?_; (first | rfl | focus (simp only [List.length_map, List.length_append, List.length_cons, List.length_nil]; omega) | focus (simp; done) | focus (simp; omega)); (first | focus (simp only [List.length_map, List.length_append, List.length_cons, List.length_nil]; omega) | focus (simp; done) | focus (simp; omega)); (first | focus (simp only [List.length_map, List.length_append, List.length_cons, List.length_nil]; omega) | focus (simp; done) | focus (simp; omega)))
      | (refine idAp ?_; refine m_appB rfl rfl rfl (by first | rfl | assumption | exact get_set (by assumption) | exact get_set (get_set (by assumption)) | exact get_set (get_set (get_set (by assumption))) | ((repeat first | assumption | exact get_last | (refine get_last2 ?_; focus (simp; done)) | apply get_set | apply get_app | (apply get_ne; focus omega)); done)) ?_ rfl rfl ?_ ?_ rfl ?_; (first | rfl | focus (simp only [List.length_map, List.length_append, List.length_cons, List.length_nil]; omega) | focus (simp; done) | focus (simp; omega)); (first | focus (simp only [List.length_map, List.length_append, List.length_cons, List.length_nil]; omega) | focus (simp; done) | focus (simp; omega)); (first | focus (simp only [List.length_map, List.length_append, List.length_cons, List.length_nil]; omega) | focus (simp; done) | focus (simp; omega)))
    · rename_i hpl
      exact ⟨rfl, (i + 1, acc ++ [s[i]]), ⟨by omega, by rw [List.length_append]; simp only [List.length_cons, List.length_nil]; omega, by rw [hu, unq_step1 (by omega) hpl]; cases unq (s.drop (i + 1)) <;> simp⟩, by simp only; omega, ⟨rfl, rfl, sleq (by rw [List.map_append]; rfl), rfl, trivial⟩, by simp⟩
    · rename_i hpl h92
      exact unq_noV hu (unq_stepN (by omega) hpl (.inl (by intro e; rw [e] at h92; exact h92 rfl)))
    · rename_i hpl h92
      exact unq_noE hu (unq_stepN (by omega) hpl (.inl (by intro e; rw [e] at h92; exact h92 rfl)))
    · exfalso; omega
    · exfalso; omega
    · rename_i hpl h92 _ g
      exact unq_noV hu (unq_stepN (by omega) hpl (.inr (.inl (hp2.trans (pairO_lo1 g)))))
    · rename_i hpl h92 _ g
      exact unq_noE hu (unq_stepN (by omega) hpl (.inr (.inl (hp2.trans (pairO_lo1 g)))))
    · rename_i hpl h92 _ _ g
      exact unq_noV hu (unq_stepN (by omega) hpl (.inr (.inl (hp2.trans (pairO_lo2 g)))))
    · rename_i hpl h92 _ _ g
      exact unq_noE hu (unq_stepN (by omega) hpl (.inr (.inl (hp2.trans (pairO_lo2 g)))))
    · rename_i hpl h92 _ g1 g2 hq
      exact unq_noV hu (unq_stepN (by omega) hpl (.inr (.inr ⟨c, hp2.trans (pairO_hi g1 g2 hc), hq⟩)))
    · rename_i hpl h92 _ g1 g2 hq
      exact unq_noE hu (unq_stepN (by omega) hpl (.inr (.inr ⟨c, hp2.trans (pairO_hi g1 g2 hc), hq⟩)))
    · rename_i hpl h92 _ g1 g2 hq
      have e92 : s[i] = 92 := UInt8.toNat_inj.1 (by show s[i].toNat = 92; omega)
      exact ⟨rfl, (i + 3, acc ++ [c]), ⟨by omega, by rw [List.length_append]; simp only [List.length_cons, List.length_nil]; omega, by rw [hu, unq_step2 (by omega) hpl e92 (hp2.trans (pairO_hi g1 g2 hc)) hq]; cases unq (s.drop (i + 3)) <;> simp⟩, by simp only; omega, ⟨rfl, rfl, sleq (by rw [List.map_append]; rfl), rfl, trivial⟩, by simp⟩
    all_goals (exfalso; omega)
  · have hw1 : IntKind.i64.wrap ((i : Int) + 1) = ((i + 1 : Nat) : Int) := by
      by_cases hh : i < 9223372036854775807
      · rw [w64 _ (by omega) (by omega)]; omega
      · exact absurd hi (by omega)
    have hw3 : IntKind.i64.wrap (((i + 1 : Nat) : Int) + 2) = ((i + 3 : Nat) : Int) := by rw [w64 _ (by omega) (by omega)]; omega
    have hps : pairS (s.drop (i + 1)) = none := pairS_short (by rw [List.length_drop]; omega)
    repeat' first
      | (apply p1 (hd := rfl); case hop => first | (apply D_move; rfl) | (apply D_assign; rfl) | exact D_sc (D_int rfl rfl rfl) (congrArg _ hw1) | exact D_sc (D_int rfl rfl rfl) (congrArg _ hw3) | (apply D_pc (plain1_pc _); rfl; exact .same rfl .nil) | (apply D_pickT; rfl; rfl) | (apply D_pickF; rfl; rfl) | (apply D_int; rfl; rfl; rfl) | (apply D_len_str; rfl) | (apply D_conv_int; rfl) | (apply D_b2s; rfl) | (apply D_idxSn; rfl; rfl; (first | omega | (simp; done))) | (apply D_idxS; rfl; rfl; omega; (first | omega | (simp; done) | (simp; omega))) | (apply D_lit; rfl; rfl; rfl; rfl))
      | refine W_seq ?_
      | refine W_region ?_
      | (refine idC ?_; first | refine c1 rfl ?_ | refine c0 rfl ?_ | refine cs rfl (fun _ => ?_) (fun _ => ?_))
      | refine WL_nil ?_
      | (refine idG ?_; first | refine g0t rfl rfl rfl ?_ | refine g0f rfl rfl rfl ?_ | refine g0u rfl rfl rfl ?_ | refine gr rfl rfl ?_ | refine gs rfl rfl (fun _ => ?_) (fun _ => ?_) | refine grn rfl rfl ?_)
      | refine tn ?_
      | refine tr ?_
      | refine br ?_
      | refine bn ?_
      | refine te ?_
      | (refine idB ?_; first | refine bh rfl ?_ | refine bm rfl ?_)
      | refine W_skip ?_
      | refine W_block ?_
      | refine W_exit ?_
      | refine W_ret ?_
      | refine W_label ?_
      | refine W_scope ?_
      | refine sn ?_
      | refine sr ?_
      | refine se ?_
      | (refine idR ?_; first | refine ret2 rfl rfl rfl rfl ?_ ?_ | refine rL2 rfl (by first | exact trivial | exact ⟨rfl, trivial⟩) (by first | exact ResO.tmp rfl | exact ResO.cellBA rfl rfl rfl | exact ResO.cellB1 rfl rfl rfl | exact ResO.cellEA rfl rfl | exact ResO.cellE1 rfl) (by first | exact ResO.tmp rfl | exact ResO.cellBA rfl rfl rfl | exact ResO.cellB1 rfl rfl rfl | exact ResO.cellEA rfl rfl | exact ResO.cellE1 rfl) ?_ ?_)
      | refine Le.bool ?_
      | refine Le.int ?_
      | refine Le.str ?_
      | (refine idAp ?_; refine m_app rfl rfl (by first | rfl | assumption | exact get_set (by assumption) | exact get_set (get_set (by assumption)) | exact get_set (get_set (get_set (by assumption))) | ((repeat first | assumption | exact get_last | (refine get_last2 ?_; focus (simp; done)) | apply get_set | apply get_app | (apply get_ne; focus omega)); done)) ?_ rfl rfl ?_ ?_ rfl ?_; (first | rfl | focus (simp only [List.length_map, List.length_append, List.length_cons, List.length_nil]; omega) | focus (simp; done) | focus (simp; omega)); (first | focus (simp only [List.length_map, List.length_append, List.length_cons, List.length_nil]; omega) | focus (simp; done) | focus (simp; omega)); (first | focus (simp only [List.length_map, List.length_append, List.length_cons, List.length_nil]; omega) | focus (simp; done) | focus (simp; omega)))
      | (refine idAp ?_; refine m_appB rfl rfl rfl (by first | rfl | assumption | exact get_set (by assumption) | exact get_set (get_set (by assumption)) | exact get_set (get_set (get_set (by assumption))) | ((repeat first | assumption | exact get_last | (refine get_last2 ?_; focus (simp; done)) | apply get_set | apply get_app | (apply get_ne; focus omega)); done)) ?_ rfl rfl ?_ ?_ rfl ?_; (first | rfl | focus (simp only [List.length_map, List.length_append, List.length_cons, List.length_nil]; omega) | focus (simp; done) | focus (simp; omega)); (first | focus (simp only [List.length_map, List.length_append, List.length_cons, List.length_nil]; omega) | focus (simp; done) | focus (simp; omega)); (first | focus (simp only [List.length_map, List.length_append, List.length_cons, List.length_nil]; omega) | focus (simp; done) | focus (simp; omega)))
    · rename_i hlt hpl
      exact ⟨rfl, (i + 1, acc ++ [s[i]]), ⟨by omega, by rw [List.length_append]; simp only [List.length_cons, List.length_nil]; omega, by rw [hu, unq_step1 (by omega) hpl]; cases unq (s.drop (i + 1)) <;> simp⟩, by simp only; omega, ⟨rfl, rfl, sleq (by rw [List.map_append]; rfl), rfl, trivial⟩, by simp⟩
    · rename_i hlt hpl h92
      exact unq_noV hu (unq_stepN (by omega) hpl (.inl (by intro e; rw [e] at h92; exact h92 rfl)))
    · rename_i hlt hpl h92
      exact unq_noE hu (unq_stepN (by omega) hpl (.inl (by intro e; rw [e] at h92; exact h92 rfl)))
    · rename_i hlt hpl h92 _
      exact unq_noV hu (unq_stepN (by omega) hpl (.inr (.inl hps)))
    · rename_i hlt hpl h92 _
      exact unq_noE hu (unq_stepN (by omega) hpl (.inr (.inl hps)))
    · exfalso; omega
    all_goals (rw [List.drop_eq_nil_of_le (by omega)] at hu; simp [unq] at hu)
    · unfold unqV; rw [hu]; rfl
    · rw [hu]; rfl
end Go.Proofs
