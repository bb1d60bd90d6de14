/- The reference's Named: its contract. -/
import Derived.Test.YtnjnjbombcefcaaN1
namespace Go.Proofs
open Go.AL
attribute [local irreducible] Go.AL.W Go.AL.WL Go.AL.WD Go.AL.POp Go.AL.PC Go.AL.AC Go.AL.Ret Go.AL.Le Go.AL.thn Go.AL.inBlk

set_option maxHeartbeats 4000000 in
theorem named1_pc (s : List UInt8) (hl : s.length < 4611686018427387904) : PC Try.prog 5 [str s] (.sc (.bool (dP (NamedP s)))) := by
  refine PC.of_body Try.func5 Try.ntmps5 rfl rfl rfl ?_
  repeat' first
    | (apply p1 (hd := rfl); case hop => first | (apply D_move; rfl) | (apply D_assign; rfl) | (apply D_load1; rfl) | (apply D_fld; rfl) | (apply D_pickT; rfl; rfl) | (apply D_pickF; rfl; rfl) | (apply D_int; rfl; rfl; rfl) | (apply D_lenM; rfl) | (apply D_len_sl; rfl) | (apply D_len_str; rfl) | (apply D_str; rfl; rfl; rfl) | (apply D_ext; rfl; rfl) | (apply D_not; rfl) | (apply D_loadW; rfl; rfl) | (apply D_loadA; rfl; rfl) | (apply D_box; rfl; rfl) | (apply D_conv_int; rfl) | (apply D_conv_str; rfl) | (apply D_s2b; rfl) | (apply D_len_nil; rfl) | (apply D_beq; rfl; rfl) | (apply D_bne; rfl; rfl) | (apply D_idxAn; rfl; rfl; omega) | (apply D_idxSn; rfl; rfl; omega) | (apply D_idxA; rfl; rfl; omega; (first | omega | (simp; omega))) | (apply D_idxS; rfl; rfl; omega; (first | omega | (simp; omega))) | (apply D_lit; rfl; rfl; rfl; rfl) | exact D_xcmp rfl rfl rfl | exact D_xidx rfl rfl rfl | exact D_mkfn rfl | (apply D_conv_int; rfl) | (apply D_neg; rfl))
    | refine W_seq ?_
    | refine W_region ?_
    | refine c1 rfl ?_
    | refine c0 rfl ?_
    | refine cs rfl (fun _ => ?_) (fun _ => ?_)
    | refine WL_nil ?_
    | refine g0t rfl rfl rfl ?_
    | refine g0f rfl rfl rfl ?_
    | refine g0u rfl rfl rfl ?_
    | refine gr rfl rfl ?_
    | refine gs rfl rfl (fun _ => ?_) (fun _ => ?_)
    | refine tn ?_
    | refine tr ?_
    | refine br ?_
    | refine bn ?_
    | refine te ?_
    | refine bh rfl ?_
    | refine bm rfl ?_
    | refine W_skip ?_
    | refine W_block ?_
    | refine W_exit ?_
    | refine W_ret ?_
    | refine W_label ?_
    | refine ret1 rfl rfl rfl ?_
    | refine ret2 rfl rfl rfl rfl ?_ ?_
    | refine Le.bool ?_
    | refine Le.int ?_
    | refine Le.str ?_
    | refine W_draw (by decide +kernel) ?_
    | (apply d1 (hd := rfl); case hop => first | (apply D_move; rfl) | (apply D_assign; rfl) | (apply D_load1; rfl) | (apply D_fld; rfl) | (apply D_pickT; rfl; rfl) | (apply D_pickF; rfl; rfl) | (apply D_int; rfl; rfl; rfl) | (apply D_lenM; rfl) | (apply D_len_sl; rfl) | (apply D_len_str; rfl) | (apply D_str; rfl; rfl; rfl) | (apply D_ext; rfl; rfl) | (apply D_not; rfl) | (apply D_loadW; rfl; rfl) | (apply D_loadA; rfl; rfl) | (apply D_box; rfl; rfl) | (apply D_conv_int; rfl) | (apply D_conv_str; rfl) | (apply D_s2b; rfl) | (apply D_len_nil; rfl) | (apply D_beq; rfl; rfl) | (apply D_bne; rfl; rfl) | (apply D_idxAn; rfl; rfl; omega) | (apply D_idxSn; rfl; rfl; omega) | (apply D_idxA; rfl; rfl; omega; (first | omega | (simp; omega))) | (apply D_idxS; rfl; rfl; omega; (first | omega | (simp; omega))) | (apply D_lit; rfl; rfl; rfl; rfl) | exact D_xcmp rfl rfl rfl | exact D_xidx rfl rfl rfl | exact D_mkfn rfl | (apply D_conv_int; rfl) | (apply D_neg; rfl))
    | refine dg0t rfl rfl rfl ?_
    | refine dg0f rfl rfl rfl ?_
    | refine dg0u rfl rfl rfl ?_
    | refine dgr rfl rfl ?_
    | refine dgs rfl rfl (fun _ => ?_) (fun _ => ?_)
    | refine WD_nil ?_
  · exact dP_F fun h => by have := h.1; omega
  · exact dP_F fun h => by have := h.2.1; omega
  · exact dP_F fun h => by have := h.2.2.1; simp_all
  · exact dP_F fun h => by have := h.2.2.2.1; simp_all
  rename_i h1 h2 h3 h4
  refine W_loopL (X := Nat) (fun i => [(0, str s), (2, .sc (.bool false)), (3, .sc (.int .i64 (i : Int)))]) (fun _ => [])
    (fun i => i ≤ s.length ∧ ∀ (j : Nat) (h : j < s.length), j < i → okP s j h) (fun i => s.length - i) 0 ⟨by omega, fun j h h' => by omega⟩ ⟨rfl, rfl, rfl, trivial⟩ rfl ?_
  rintro i ⟨hi, hz⟩
  repeat' first
    | (apply p1 (hd := rfl); case hop => first | (apply D_move; rfl) | (apply D_assign; rfl) | (apply D_pc (in_pc sg _ (by decide)); rfl; exact .same rfl (.same rfl .nil)) | (apply D_load1; rfl) | (apply D_fld; rfl) | (apply D_pickT; rfl; rfl) | (apply D_pickF; rfl; rfl) | (apply D_int; rfl; rfl; rfl) | (apply D_lenM; rfl) | (apply D_len_sl; rfl) | (apply D_len_str; rfl) | (apply D_str; rfl; rfl; rfl) | (apply D_ext; rfl; rfl) | (apply D_not; rfl) | (apply D_loadW; rfl; rfl) | (apply D_loadA; rfl; rfl) | (apply D_box; rfl; rfl) | (apply D_conv_int; rfl) | (apply D_conv_str; rfl) | (apply D_s2b; rfl) | (apply D_len_nil; rfl) | (apply D_beq; rfl; rfl) | (apply D_bne; rfl; rfl) | (apply D_idxAn; rfl; rfl; omega) | (apply D_idxSn; rfl; rfl; omega) | (apply D_idxA; rfl; rfl; omega; (first | omega | (simp; omega))) | (apply D_idxS; rfl; rfl; omega; (first | omega | (simp; omega))) | (apply D_lit; rfl; rfl; rfl; rfl) | exact D_xcmp rfl rfl rfl | exact D_xidx rfl rfl rfl | exact D_mkfn rfl | (apply D_conv_int; rfl) | (apply D_neg; rfl))
    | refine W_seq ?_
    | refine W_region ?_
    | refine c1 rfl ?_
    | refine c0 rfl ?_
    | refine cs rfl (fun _ => ?_) (fun _ => ?_)
    | refine WL_nil ?_
    | refine g0t rfl rfl rfl ?_
    | refine g0f rfl rfl rfl ?_
    | refine g0u rfl rfl rfl ?_
    | refine gr rfl rfl ?_
    | refine gs rfl rfl (fun _ => ?_) (fun _ => ?_)
    | refine tn ?_
    | refine tr ?_
    | refine br ?_
    | refine bn ?_
    | refine te ?_
    | refine bh rfl ?_
    | refine bm rfl ?_
    | refine W_skip ?_
    | refine W_block ?_
    | refine W_exit ?_
    | refine W_ret ?_
    | refine W_label ?_
    | refine ret1 rfl rfl rfl ?_
    | refine ret2 rfl rfl rfl rfl ?_ ?_
    | refine Le.bool ?_
    | refine Le.int ?_
    | refine Le.str ?_
    | refine W_draw (by decide +kernel) ?_
    | (apply d1 (hd := rfl); case hop => first | (apply D_move; rfl) | (apply D_assign; rfl) | (apply D_pc (in_pc sg _ (by decide)); rfl; exact .same rfl (.same rfl .nil)) | (apply D_load1; rfl) | (apply D_fld; rfl) | (apply D_pickT; rfl; rfl) | (apply D_pickF; rfl; rfl) | (apply D_int; rfl; rfl; rfl) | (apply D_lenM; rfl) | (apply D_len_sl; rfl) | (apply D_len_str; rfl) | (apply D_str; rfl; rfl; rfl) | (apply D_ext; rfl; rfl) | (apply D_not; rfl) | (apply D_loadW; rfl; rfl) | (apply D_loadA; rfl; rfl) | (apply D_box; rfl; rfl) | (apply D_conv_int; rfl) | (apply D_conv_str; rfl) | (apply D_s2b; rfl) | (apply D_len_nil; rfl) | (apply D_beq; rfl; rfl) | (apply D_bne; rfl; rfl) | (apply D_idxAn; rfl; rfl; omega) | (apply D_idxSn; rfl; rfl; omega) | (apply D_idxA; rfl; rfl; omega; (first | omega | (simp; omega))) | (apply D_idxS; rfl; rfl; omega; (first | omega | (simp; omega))) | (apply D_lit; rfl; rfl; rfl; rfl) | exact D_xcmp rfl rfl rfl | exact D_xidx rfl rfl rfl | exact D_mkfn rfl | (apply D_conv_int; rfl) | (apply D_neg; rfl))
    | refine dg0t rfl rfl rfl ?_
    | refine dg0f rfl rfl rfl ?_
    | refine dg0u rfl rfl rfl ?_
    | refine dgr rfl rfl ?_
    | refine dgs rfl rfl (fun _ => ?_) (fun _ => ?_)
    | refine WD_nil ?_
  all_goals first
    | contradiction
    | (exfalso; omega)
    | (refine ⟨rfl, i + 1, ⟨by omega, fun j h hj => ?_⟩, by omega, ⟨rfl, rfl, ieq (wsucc i (by omega)), trivial⟩, rfl⟩
       by_cases e : j = i
       · subst e
         refine ⟨?_, ?_⟩
         · first
             | exact .inl ⟨by omega, by omega⟩
             | exact .inr (.inl ⟨by omega, by omega⟩)
             | exact .inr (.inr (by assumption))
         · clear hz
           try simp only [Int.toNat_zero] at *
           simp only [digP, leadP]
           omega
       · exact hz j h (by omega))
    | (refine dP_T ⟨by omega, by omega, h3, h4, fun j h => hz j h (by omega)⟩; done)
    | (refine dP_F fun h => ?_
       have hk := h.2.2.2.2 i (by omega)
       clear h hz
       obtain ⟨hk1, hk2⟩ := hk
       simp only [digP, lowP, leadP] at hk1 hk2
       try simp only [Int.toNat_zero] at *
       rcases hk1 with hk1 | hk1 | hk1 <;> first | omega | contradiction)
end Go.Proofs
