/- The program's Named: its contract; the law. -/
import Derived.Test.YtnjnjbombcefcaaDoorCN1
namespace Go.Proofs
open Go.AL
attribute [local irreducible] Go.AL.W Go.AL.WL Go.AL.WD Go.AL.POp Go.AL.PPOp Go.AL.POpS Go.AL.PC Go.AL.AC Go.AL.YW Go.AL.Ret Go.AL.Le Go.AL.thn Go.AL.inBlk Go.AL.scp

theorem lead_iff (s : List UInt8) (h : 0 < s.length) : leadP s h ↔ s[0] ∈ ([43, 45, 33] : List UInt8) := by
  simp only [leadP, List.mem_cons, List.not_mem_nil, or_false, ← UInt8.toNat_inj]
  show _ ↔ s[0].toNat = 43 ∨ s[0].toNat = 45 ∨ s[0].toNat = 33
  omega
theorem digAt_nat (s : List UInt8) (i : Nat) (h : i < s.length) : digAt s (i : Int) ↔ digP s[i] := ⟨fun ⟨_, h⟩ => h, fun h' => ⟨h, h'⟩⟩
theorem named_iff (s : List UInt8) (h1 : 0 < s.length) (h2 : s.length ≤ 64) (h3 : s ≠ sT) (h4 : s ≠ sF) (hz : ∀ (j : Nat) (h : j < s.length), digP s[j] ∨ lowP s[j] ∨ s[j] ∈ sg) :
    NamedP s ↔ ¬ digAt s 0 ∧ (¬ s[0] ∈ ([43, 45, 33] : List UInt8) ∨ ¬ digAt s 1) := by
  rw [← lead_iff s h1]
  constructor
  · intro h
    have hok := h.2.2.2.2
    refine ⟨fun ⟨_, hd⟩ => (hok 0 h1).2 ⟨hd, .inl rfl⟩, ?_⟩
    by_cases hl : leadP s h1
    · exact .inr fun ⟨h', hd⟩ => (hok 1 h').2 ⟨hd, .inr ⟨rfl, hl⟩⟩
    · exact .inl hl
  · rintro ⟨g0, g1⟩
    refine ⟨by omega, h2, h3, h4, fun j h => ⟨hz j h, ?_⟩⟩
    rintro ⟨hd, rfl | ⟨rfl, hl⟩⟩
    · exact g0 ⟨h, hd⟩
    · rcases g1 with g1 | g1
      · exact g1 hl
      · exact g1 ⟨h, hd⟩

set_option maxHeartbeats 4000000 in
theorem named_pc [GlobF Tryd.prog] (s : List UInt8) (hl : s.length < 4611686018427387904) : PC Tryd.prog 18 [str s] (.sc (.bool (dP (NamedP s)))) := by
  refine PC.of_body Tryd.func18 Tryd.ntmps18 rfl rfl rfl ?_
  repeat' first
    | (apply p1 (hd := rfl); case hop => first | (apply D_move; rfl) | (apply D_assign; rfl) | (apply D_load1; rfl) | (apply D_pickT; rfl; rfl) | (apply D_pickF; rfl; rfl) | (apply D_int; rfl; rfl; rfl) | (apply D_len_str; rfl) | (apply D_str; rfl; rfl; rfl) | (apply D_not; rfl) | (apply D_loadW; rfl; rfl) | (apply D_loadA; rfl; rfl) | (apply D_box; rfl; rfl) | (apply D_idxSn; rfl; rfl; (first | omega | (simp; done))) | (apply D_idxS; rfl; rfl; omega; (first | omega | (simp; done) | (simp; omega))) | exact D_xcmp rfl rfl rfl | exact D_xidx rfl rfl rfl | exact D_mkfn rfl)
    | refine W_seq ?_
    | refine W_region ?_
    | (refine idC ?_; first | refine c1 rfl ?_ | refine c0 rfl ?_ | refine cs rfl (fun _ => ?_) (fun _ => ?_))
    | refine WL_nil ?_
    | (refine idG ?_; first | refine g0t rfl rfl rfl ?_ | refine g0f rfl rfl rfl ?_ | refine g0u rfl rfl rfl ?_ | refine gr rfl rfl ?_ | refine gs rfl rfl (fun _ => ?_) (fun _ => ?_) | refine grn rfl rfl ?_)
    | refine tn ?_
    | refine tr ?_
    | refine br ?_
    | refine bn ?_
    | refine te ?_
    | (refine idB ?_; first | refine bh rfl ?_ | refine bm rfl ?_)
    | refine W_skip ?_
    | refine W_block ?_
    | refine W_exit ?_
    | refine W_ret ?_
    | refine W_label ?_
    | refine W_scope ?_
    | refine sn ?_
    | refine sr ?_
    | refine se ?_
    | (refine idR ?_; first | refine ret1 rfl rfl rfl ?_ | refine rL1 rfl (by first | exact trivial | exact ⟨rfl, trivial⟩) (by first | exact ResO.tmp rfl | exact ResO.cellBA rfl rfl rfl | exact ResO.cellB1 rfl rfl rfl | exact ResO.cellEA rfl rfl | exact ResO.cellE1 rfl) ?_)
    | (refine idLd ?_; first | refine p1L (D_loadB1 rfl rfl rfl) rfl ?_ | refine p1L (D_loadBA rfl rfl rfl) rfl ?_ | refine p1L (D_loadB1 rfl (by (repeat first | assumption | exact get_last | (refine get_last2 ?_; focus (simp; done)) | apply get_set | apply get_app | (apply get_ne; focus omega) | (apply get_ne; focus (simp only [List.length_set, List.length_append, List.length_cons, List.length_nil]; omega))); done) (by rfl)) rfl ?_ | refine p1L (D_loadBA rfl (by (repeat first | assumption | exact get_last | (refine get_last2 ?_; focus (simp; done)) | apply get_set | apply get_app | (apply get_ne; focus omega) | (apply get_ne; focus (simp only [List.length_set, List.length_append, List.length_cons, List.length_nil]; omega))); done) (by rfl)) rfl ?_)
    | refine Le.bool ?_
    | refine Le.int ?_
    | refine Le.str ?_
  · exact dP_F fun h => by have := h.1; omega
  · exact dP_F fun h => by have := h.2.1; omega
  · exact dP_F fun h => by have := h.2.2.1; simp_all
  · exact dP_F fun h => by have := h.2.2.2.1; simp_all
  rename_i h1 h2 h3 h4
  refine W_loopL (X := Nat) (fun i => [(1, .ep [str s]), (2, .sc (.bool false)), (3, .fn (.func 44) [] [.ep [str s]]), (23, .sc (.int .i64 (s.length : Int))), (24, .sc (.int .i64 (i : Int)))]) (fun _ => [])
    (fun i => i ≤ s.length ∧ ∀ (j : Nat) (h : j < s.length), j < i → (digP s[j] ∨ lowP s[j] ∨ s[j] ∈ sg)) (fun i => s.length - i) 0 ⟨by omega, fun j h h' => by omega⟩ ⟨rfl, rfl, rfl, rfl, rfl, trivial⟩ rfl ?_
  rintro i ⟨hi, hz⟩
  repeat' first
    | (apply p1 (hd := rfl); case hop => first | (apply D_move; rfl) | (apply D_assign; rfl) | (apply D_pc (idx_pc sg _); rfl; exact .same rfl (.same rfl .nil)) | (apply D_pc (idx_pc [43, 45, 33] _); rfl; exact .same rfl (.same rfl .nil)) | (apply D_pcC (ys := [.sc (.int .i64 (i : Int))]) (ys' := [.ep [str s]]) (dig_pc s (i : Int) (by omega)); rfl; exact .same rfl .nil; exact ⟨Le.of_eq rfl, trivial⟩) | (apply D_pcC (ys := [.sc (.int .i64 0)]) (ys' := [.ep [str s]]) (dig_pc s 0 (by omega)); rfl; exact .same rfl .nil; exact ⟨Le.of_eq rfl, trivial⟩) | (apply D_pcC (ys := [.sc (.int .i64 1)]) (ys' := [.ep [str s]]) (dig_pc s 1 (by omega)); rfl; exact .same rfl .nil; exact ⟨Le.of_eq rfl, trivial⟩) | (apply D_load1; rfl) | (apply D_pickT; rfl; rfl) | (apply D_pickF; rfl; rfl) | (apply D_int; rfl; rfl; rfl) | (apply D_len_str; rfl) | (apply D_str; rfl; rfl; rfl) | (apply D_not; rfl) | (apply D_loadW; rfl; rfl) | (apply D_loadA; rfl; rfl) | (apply D_box; rfl; rfl) | (apply D_idxSn; rfl; rfl; (first | omega | (simp; done))) | (apply D_idxS; rfl; rfl; omega; (first | omega | (simp; done) | (simp; omega))) | exact D_xcmp rfl rfl rfl | exact D_xidx rfl rfl rfl | exact D_mkfn rfl)
    | refine W_seq ?_
    | refine W_region ?_
    | (refine idC ?_; first | refine c1 rfl ?_ | refine c0 rfl ?_ | refine cs rfl (fun _ => ?_) (fun _ => ?_))
    | refine WL_nil ?_
    | (refine idG ?_; first | refine g0t rfl rfl rfl ?_ | refine g0f rfl rfl rfl ?_ | refine g0u rfl rfl rfl ?_ | refine gr rfl rfl ?_ | refine gs rfl rfl (fun _ => ?_) (fun _ => ?_) | refine grn rfl rfl ?_)
    | refine tn ?_
    | refine tr ?_
    | refine br ?_
    | refine bn ?_
    | refine te ?_
    | (refine idB ?_; first | refine bh rfl ?_ | refine bm rfl ?_)
    | refine W_skip ?_
    | refine W_block ?_
    | refine W_exit ?_
    | refine W_ret ?_
    | refine W_label ?_
    | refine W_scope ?_
    | refine sn ?_
    | refine sr ?_
    | refine se ?_
    | (refine idR ?_; first | refine ret1 rfl rfl rfl ?_ | refine rL1 rfl (by first | exact trivial | exact ⟨rfl, trivial⟩) (by first | exact ResO.tmp rfl | exact ResO.cellBA rfl rfl rfl | exact ResO.cellB1 rfl rfl rfl | exact ResO.cellEA rfl rfl | exact ResO.cellE1 rfl) ?_)
    | (refine idLd ?_; first | refine p1L (D_loadB1 rfl rfl rfl) rfl ?_ | refine p1L (D_loadBA rfl rfl rfl) rfl ?_ | refine p1L (D_loadB1 rfl (by (repeat first | assumption | exact get_last | (refine get_last2 ?_; focus (simp; done)) | apply get_set | apply get_app | (apply get_ne; focus omega) | (apply get_ne; focus (simp only [List.length_set, List.length_append, List.length_cons, List.length_nil]; omega))); done) (by rfl)) rfl ?_ | refine p1L (D_loadBA rfl (by (repeat first | assumption | exact get_last | (refine get_last2 ?_; focus (simp; done)) | apply get_set | apply get_app | (apply get_ne; focus omega) | (apply get_ne; focus (simp only [List.length_set, List.length_append, List.length_cons, List.length_nil]; omega))); done) (by rfl)) rfl ?_)
    | refine Le.bool ?_
    | refine Le.int ?_
    | refine Le.str ?_
  all_goals first
    | (exfalso; omega)
    | (refine ⟨rfl, i + 1, ⟨by omega, fun j h hj => ?_⟩, by omega, ⟨rfl, rfl, rfl, rfl, ieq (wsucc i (by omega)), trivial⟩, rfl⟩
       by_cases e : j = i
       · subst e
         first
           | exact .inr (.inl ⟨by omega, by omega⟩)
           | exact .inl ((digAt_nat s _ h).1 (by assumption))
           | exact .inr (.inr ((idx_mem _ _).1 (by assumption)))
       · exact hz j h (by omega))
    | (have hlt : i < s.length := by omega
       refine dP_F fun h => ?_
       have hk := (h.2.2.2.2 i hlt).1
       rcases hk with hk | hk | hk
       · exact absurd ((digAt_nat s i hlt).2 hk) (by assumption)
       · simp only [lowP] at hk; omega
       · have := (idx_mem _ _).2 hk; omega)
    | skip
  all_goals have hn := named_iff s (by omega) (by omega) h3 h4 fun j h => hz j h (by omega)
  all_goals have hm : s[0] ∈ ([43, 45, 33] : List UInt8) ↔ 0 ≤ Lib.indexByte [43, 45, 33] s[0] := (idx_mem _ _).symm
  all_goals simp only [Int.toNat_zero] at *
  · rename_i g0 g1
    refine dP_T (hn.2 ⟨g0, .inl fun h => ?_⟩)
    have := hm.1 h
    omega
  · rename_i g0 g1
    have hin : s[0] ∈ ([43, 45, 33] : List UInt8) := hm.2 g1
    by_cases g : digAt s 1
    · rw [(bNot_f _).mpr (dP_t.mpr g)]
      exact dP_F fun h => (hn.1 h).2.elim (fun e => e hin) fun e => e g
    · rw [(bNot_t _).mpr (dP_f.mpr g)]
      exact dP_T (hn.2 ⟨g0, .inr g⟩)
  · rename_i g
    exact dP_F fun h => (hn.1 h).1 g
end Go.Proofs
