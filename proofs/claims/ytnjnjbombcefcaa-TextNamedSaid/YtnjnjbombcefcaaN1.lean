/- Contracts of the names' functions, program and reference. -/
import Derived.Test.YtnjnjbombcefcaaCInst
namespace Go.Proofs
open Go.AL
attribute [local irreducible] Go.AL.W Go.AL.WL Go.AL.WD Go.AL.POp Go.AL.PC Go.AL.AC Go.AL.Ret Go.AL.Le Go.AL.thn Go.AL.inBlk

open Classical in
noncomputable def dP (p : Prop) : Bool := decide p
theorem dP_t {p : Prop} : (dP p = true) = p := by unfold dP; simp
theorem dP_f {p : Prop} : (dP p = false) = ¬ p := by unfold dP; simp
instance (p : Prop) : BP (dP p) p (¬ p) := ⟨fun h => by rwa [dP_t] at h, fun h => by rwa [dP_f] at h⟩
theorem dP_eq {p : Prop} {b : Bool} (h : b = true ↔ p) : b = dP p := by
  cases b
  · exact (dP_f.mpr (fun hp => by simpa using h.2 hp)).symm
  · exact (dP_t.mpr (h.1 rfl)).symm
theorem dP_T {p : Prop} (h : p) : true = dP p := (dP_t.mpr h).symm
theorem dP_F {p : Prop} (h : ¬ p) : false = dP p := (dP_f.mpr h).symm

def lowP (c : UInt8) : Prop := 97 ≤ (c.toNat : Int) ∧ (c.toNat : Int) ≤ 122
def digP (c : UInt8) : Prop := 48 ≤ (c.toNat : Int) ∧ (c.toNat : Int) ≤ 57
def digAt (s : List UInt8) (i : Int) : Prop := ∃ h : i.toNat < s.length, digP (s[i.toNat]'h)

instance : Xt Try.prog 10 Extern.BytealgIndexByte.indexByte := ⟨run_callFunc_extern Try.func10 (by kernel_rfl) (by kernel_rfl) (by kernel_rfl) (by kernel_rfl)⟩

theorem u8n (c : UInt8) : (c.toNat : Int).toNat.toUInt8 = c := by simp

set_option maxHeartbeats 400000 in
theorem idx0_pc (l : List UInt8) (c : UInt8) : PC Try.prog 9 [str l, .sc (.int .u8 c.toNat)] (.sc (.int .i64 (Lib.indexByte l c))) := by
  refine PC.of_body Try.func9 Try.ntmps9 rfl rfl rfl ?_
  repeat' first
    | (apply p1 (hd := rfl); case hop => first | (apply D_move; rfl) | (apply D_assign; rfl) | (apply D_load1; rfl) | (apply D_fld; rfl) | (apply D_pickT; rfl; rfl) | (apply D_pickF; rfl; rfl) | (apply D_int; rfl; rfl; rfl) | (apply D_lenM; rfl) | (apply D_len_sl; rfl) | (apply D_len_str; rfl) | (apply D_str; rfl; rfl; rfl) | (apply D_ext; rfl; rfl) | (apply D_not; rfl) | (apply D_loadW; rfl; rfl) | (apply D_loadA; rfl; rfl) | (apply D_box; rfl; rfl) | (apply D_conv_int; rfl) | (apply D_conv_str; rfl) | (apply D_s2b; rfl) | (apply D_len_nil; rfl) | (apply D_beq; rfl; rfl) | (apply D_bne; rfl; rfl) | (apply D_idxAn; rfl; rfl; omega) | (apply D_idxSn; rfl; rfl; omega) | (apply D_idxA; rfl; rfl; omega; (first | omega | (simp; omega))) | (apply D_idxS; rfl; rfl; omega; (first | omega | (simp; omega))) | (apply D_lit; rfl; rfl; rfl; rfl) | exact D_xcmp rfl rfl rfl | exact D_xidx rfl rfl rfl | exact D_mkfn rfl | (apply D_conv_int; rfl) | (apply D_neg; rfl))
    | refine W_seq ?_
    | refine W_region ?_
    | refine c1 rfl ?_
    | refine c0 rfl ?_
    | refine cs rfl (fun _ => ?_) (fun _ => ?_)
    | refine WL_nil ?_
    | refine g0t rfl rfl rfl ?_
    | refine g0f rfl rfl rfl ?_
    | refine g0u rfl rfl rfl ?_
    | refine gr rfl rfl ?_
    | refine gs rfl rfl (fun _ => ?_) (fun _ => ?_)
    | refine tn ?_
    | refine tr ?_
    | refine br ?_
    | refine bn ?_
    | refine te ?_
    | refine bh rfl ?_
    | refine bm rfl ?_
    | refine W_skip ?_
    | refine W_block ?_
    | refine W_exit ?_
    | refine W_ret ?_
    | refine W_label ?_
    | refine ret1 rfl rfl rfl ?_
    | refine ret2 rfl rfl rfl rfl ?_ ?_
    | refine Le.bool ?_
    | refine Le.int ?_
    | refine Le.str ?_
    | refine W_draw (by decide +kernel) ?_
    | (apply d1 (hd := rfl); case hop => first | (apply D_move; rfl) | (apply D_assign; rfl) | (apply D_load1; rfl) | (apply D_fld; rfl) | (apply D_pickT; rfl; rfl) | (apply D_pickF; rfl; rfl) | (apply D_int; rfl; rfl; rfl) | (apply D_lenM; rfl) | (apply D_len_sl; rfl) | (apply D_len_str; rfl) | (apply D_str; rfl; rfl; rfl) | (apply D_ext; rfl; rfl) | (apply D_not; rfl) | (apply D_loadW; rfl; rfl) | (apply D_loadA; rfl; rfl) | (apply D_box; rfl; rfl) | (apply D_conv_int; rfl) | (apply D_conv_str; rfl) | (apply D_s2b; rfl) | (apply D_len_nil; rfl) | (apply D_beq; rfl; rfl) | (apply D_bne; rfl; rfl) | (apply D_idxAn; rfl; rfl; omega) | (apply D_idxSn; rfl; rfl; omega) | (apply D_idxA; rfl; rfl; omega; (first | omega | (simp; omega))) | (apply D_idxS; rfl; rfl; omega; (first | omega | (simp; omega))) | (apply D_lit; rfl; rfl; rfl; rfl) | exact D_xcmp rfl rfl rfl | exact D_xidx rfl rfl rfl | exact D_mkfn rfl | (apply D_conv_int; rfl) | (apply D_neg; rfl))
    | refine dg0t rfl rfl rfl ?_
    | refine dg0f rfl rfl rfl ?_
    | refine dg0u rfl rfl rfl ?_
    | refine dgr rfl rfl ?_
    | refine dgs rfl rfl (fun _ => ?_) (fun _ => ?_)
    | refine WD_nil ?_
  all_goals rw [u8n]
set_option maxHeartbeats 400000 in
theorem idx_pc (l : List UInt8) (c : UInt8) : PC Try.prog 7 [str l, .sc (.int .u8 c.toNat)] (.sc (.int .i64 (Lib.indexByte l c))) := by
  refine PC.of_body Try.func7 Try.ntmps7 rfl rfl rfl ?_
  repeat' first
    | (apply p1 (hd := rfl); case hop => first | (apply D_move; rfl) | (apply D_assign; rfl) | (apply D_pc (idx0_pc l c); rfl; exact .same rfl (.same rfl .nil)) | (apply D_load1; rfl) | (apply D_fld; rfl) | (apply D_pickT; rfl; rfl) | (apply D_pickF; rfl; rfl) | (apply D_int; rfl; rfl; rfl) | (apply D_lenM; rfl) | (apply D_len_sl; rfl) | (apply D_len_str; rfl) | (apply D_str; rfl; rfl; rfl) | (apply D_ext; rfl; rfl) | (apply D_not; rfl) | (apply D_loadW; rfl; rfl) | (apply D_loadA; rfl; rfl) | (apply D_box; rfl; rfl) | (apply D_conv_int; rfl) | (apply D_conv_str; rfl) | (apply D_s2b; rfl) | (apply D_len_nil; rfl) | (apply D_beq; rfl; rfl) | (apply D_bne; rfl; rfl) | (apply D_idxAn; rfl; rfl; omega) | (apply D_idxSn; rfl; rfl; omega) | (apply D_idxA; rfl; rfl; omega; (first | omega | (simp; omega))) | (apply D_idxS; rfl; rfl; omega; (first | omega | (simp; omega))) | (apply D_lit; rfl; rfl; rfl; rfl) | exact D_xcmp rfl rfl rfl | exact D_xidx rfl rfl rfl | exact D_mkfn rfl | (apply D_conv_int; rfl) | (apply D_neg; rfl))
    | refine W_seq ?_
    | refine W_region ?_
    | refine c1 rfl ?_
    | refine c0 rfl ?_
    | refine cs rfl (fun _ => ?_) (fun _ => ?_)
    | refine WL_nil ?_
    | refine g0t rfl rfl rfl ?_
    | refine g0f rfl rfl rfl ?_
    | refine g0u rfl rfl rfl ?_
    | refine gr rfl rfl ?_
    | refine gs rfl rfl (fun _ => ?_) (fun _ => ?_)
    | refine tn ?_
    | refine tr ?_
    | refine br ?_
    | refine bn ?_
    | refine te ?_
    | refine bh rfl ?_
    | refine bm rfl ?_
    | refine W_skip ?_
    | refine W_block ?_
    | refine W_exit ?_
    | refine W_ret ?_
    | refine W_label ?_
    | refine ret1 rfl rfl rfl ?_
    | refine ret2 rfl rfl rfl rfl ?_ ?_
    | refine Le.bool ?_
    | refine Le.int ?_
    | refine Le.str ?_
    | refine W_draw (by decide +kernel) ?_
    | (apply d1 (hd := rfl); case hop => first | (apply D_move; rfl) | (apply D_assign; rfl) | (apply D_pc (idx0_pc l c); rfl; exact .same rfl (.same rfl .nil)) | (apply D_load1; rfl) | (apply D_fld; rfl) | (apply D_pickT; rfl; rfl) | (apply D_pickF; rfl; rfl) | (apply D_int; rfl; rfl; rfl) | (apply D_lenM; rfl) | (apply D_len_sl; rfl) | (apply D_len_str; rfl) | (apply D_str; rfl; rfl; rfl) | (apply D_ext; rfl; rfl) | (apply D_not; rfl) | (apply D_loadW; rfl; rfl) | (apply D_loadA; rfl; rfl) | (apply D_box; rfl; rfl) | (apply D_conv_int; rfl) | (apply D_conv_str; rfl) | (apply D_s2b; rfl) | (apply D_len_nil; rfl) | (apply D_beq; rfl; rfl) | (apply D_bne; rfl; rfl) | (apply D_idxAn; rfl; rfl; omega) | (apply D_idxSn; rfl; rfl; omega) | (apply D_idxA; rfl; rfl; omega; (first | omega | (simp; omega))) | (apply D_idxS; rfl; rfl; omega; (first | omega | (simp; omega))) | (apply D_lit; rfl; rfl; rfl; rfl) | exact D_xcmp rfl rfl rfl | exact D_xidx rfl rfl rfl | exact D_mkfn rfl | (apply D_conv_int; rfl) | (apply D_neg; rfl))
    | refine dg0t rfl rfl rfl ?_
    | refine dg0f rfl rfl rfl ?_
    | refine dg0u rfl rfl rfl ?_
    | refine dgr rfl rfl ?_
    | refine dgs rfl rfl (fun _ => ?_) (fun _ => ?_)
    | refine WD_nil ?_
  all_goals rfl

set_option maxHeartbeats 400000 in
theorem dig_pc (s : List UInt8) (i : Int) (hi : 0 ≤ i) : PC Try.prog 6 [.sc (.int .i64 i), .ep [str s]] (.sc (.bool (dP (digAt s i)))) := by
  refine PC.of_body Try.func6 Try.ntmps6 rfl rfl rfl ?_
  repeat' first
    | (apply p1 (hd := rfl); case hop => first | (apply D_move; rfl) | (apply D_assign; rfl) | (apply D_load1; rfl) | (apply D_fld; rfl) | (apply D_pickT; rfl; rfl) | (apply D_pickF; rfl; rfl) | (apply D_int; rfl; rfl; rfl) | (apply D_lenM; rfl) | (apply D_len_sl; rfl) | (apply D_len_str; rfl) | (apply D_str; rfl; rfl; rfl) | (apply D_ext; rfl; rfl) | (apply D_not; rfl) | (apply D_loadW; rfl; rfl) | (apply D_loadA; rfl; rfl) | (apply D_box; rfl; rfl) | (apply D_conv_int; rfl) | (apply D_conv_str; rfl) | (apply D_s2b; rfl) | (apply D_len_nil; rfl) | (apply D_beq; rfl; rfl) | (apply D_bne; rfl; rfl) | (apply D_idxAn; rfl; rfl; omega) | (apply D_idxSn; rfl; rfl; omega) | (apply D_idxA; rfl; rfl; omega; (first | omega | (simp; omega))) | (apply D_idxS; rfl; rfl; omega; (first | omega | (simp; omega))) | (apply D_lit; rfl; rfl; rfl; rfl) | exact D_xcmp rfl rfl rfl | exact D_xidx rfl rfl rfl | exact D_mkfn rfl | (apply D_conv_int; rfl) | (apply D_neg; rfl))
    | refine W_seq ?_
    | refine W_region ?_
    | refine c1 rfl ?_
    | refine c0 rfl ?_
    | refine cs rfl (fun _ => ?_) (fun _ => ?_)
    | refine WL_nil ?_
    | refine g0t rfl rfl rfl ?_
    | refine g0f rfl rfl rfl ?_
    | refine g0u rfl rfl rfl ?_
    | refine gr rfl rfl ?_
    | refine gs rfl rfl (fun _ => ?_) (fun _ => ?_)
    | refine tn ?_
    | refine tr ?_
    | refine br ?_
    | refine bn ?_
    | refine te ?_
    | refine bh rfl ?_
    | refine bm rfl ?_
    | refine W_skip ?_
    | refine W_block ?_
    | refine W_exit ?_
    | refine W_ret ?_
    | refine W_label ?_
    | refine ret1 rfl rfl rfl ?_
    | refine ret2 rfl rfl rfl rfl ?_ ?_
    | refine Le.bool ?_
    | refine Le.int ?_
    | refine Le.str ?_
    | refine W_draw (by decide +kernel) ?_
    | (apply d1 (hd := rfl); case hop => first | (apply D_move; rfl) | (apply D_assign; rfl) | (apply D_load1; rfl) | (apply D_fld; rfl) | (apply D_pickT; rfl; rfl) | (apply D_pickF; rfl; rfl) | (apply D_int; rfl; rfl; rfl) | (apply D_lenM; rfl) | (apply D_len_sl; rfl) | (apply D_len_str; rfl) | (apply D_str; rfl; rfl; rfl) | (apply D_ext; rfl; rfl) | (apply D_not; rfl) | (apply D_loadW; rfl; rfl) | (apply D_loadA; rfl; rfl) | (apply D_box; rfl; rfl) | (apply D_conv_int; rfl) | (apply D_conv_str; rfl) | (apply D_s2b; rfl) | (apply D_len_nil; rfl) | (apply D_beq; rfl; rfl) | (apply D_bne; rfl; rfl) | (apply D_idxAn; rfl; rfl; omega) | (apply D_idxSn; rfl; rfl; omega) | (apply D_idxA; rfl; rfl; omega; (first | omega | (simp; omega))) | (apply D_idxS; rfl; rfl; omega; (first | omega | (simp; omega))) | (apply D_lit; rfl; rfl; rfl; rfl) | exact D_xcmp rfl rfl rfl | exact D_xidx rfl rfl rfl | exact D_mkfn rfl | (apply D_conv_int; rfl) | (apply D_neg; rfl))
    | refine dg0t rfl rfl rfl ?_
    | refine dg0f rfl rfl rfl ?_
    | refine dg0u rfl rfl rfl ?_
    | refine dgr rfl rfl ?_
    | refine dgs rfl rfl (fun _ => ?_) (fun _ => ?_)
    | refine WD_nil ?_
  · rename_i h1 h2
    refine dP_eq ⟨fun h => ⟨by omega, h2, by rwa [iLe_t] at h⟩, fun ⟨_, _, h⟩ => by rwa [iLe_t]⟩
  · rename_i h1 h2
    exact dP_F fun ⟨_, h, _⟩ => by omega
  · rename_i h1
    exact dP_F fun ⟨h, _⟩ => by omega

set_option maxHeartbeats 400000 in
theorem in_pc (l : List UInt8) (c : UInt8) (hl : l.length < 4611686018427387904) : PC Try.prog 8 [str l, .sc (.int .u8 c.toNat)] (.sc (.bool (dP (c ∈ l)))) := by
  refine PC.of_body Try.func8 Try.ntmps8 rfl rfl rfl ?_
  repeat' first
    | (apply p1 (hd := rfl); case hop => first | (apply D_move; rfl) | (apply D_assign; rfl) | (apply D_load1; rfl) | (apply D_fld; rfl) | (apply D_pickT; rfl; rfl) | (apply D_pickF; rfl; rfl) | (apply D_int; rfl; rfl; rfl) | (apply D_lenM; rfl) | (apply D_len_sl; rfl) | (apply D_len_str; rfl) | (apply D_str; rfl; rfl; rfl) | (apply D_ext; rfl; rfl) | (apply D_not; rfl) | (apply D_loadW; rfl; rfl) | (apply D_loadA; rfl; rfl) | (apply D_box; rfl; rfl) | (apply D_conv_int; rfl) | (apply D_conv_str; rfl) | (apply D_s2b; rfl) | (apply D_len_nil; rfl) | (apply D_beq; rfl; rfl) | (apply D_bne; rfl; rfl) | (apply D_idxAn; rfl; rfl; omega) | (apply D_idxSn; rfl; rfl; omega) | (apply D_idxA; rfl; rfl; omega; (first | omega | (simp; omega))) | (apply D_idxS; rfl; rfl; omega; (first | omega | (simp; omega))) | (apply D_lit; rfl; rfl; rfl; rfl) | exact D_xcmp rfl rfl rfl | exact D_xidx rfl rfl rfl | exact D_mkfn rfl | (apply D_conv_int; rfl) | (apply D_neg; rfl))
    | refine W_seq ?_
    | refine W_region ?_
    | refine c1 rfl ?_
    | refine c0 rfl ?_
    | refine cs rfl (fun _ => ?_) (fun _ => ?_)
    | refine WL_nil ?_
    | refine g0t rfl rfl rfl ?_
    | refine g0f rfl rfl rfl ?_
    | refine g0u rfl rfl rfl ?_
    | refine gr rfl rfl ?_
    | refine gs rfl rfl (fun _ => ?_) (fun _ => ?_)
    | refine tn ?_
    | refine tr ?_
    | refine br ?_
    | refine bn ?_
    | refine te ?_
    | refine bh rfl ?_
    | refine bm rfl ?_
    | refine W_skip ?_
    | refine W_block ?_
    | refine W_exit ?_
    | refine W_ret ?_
    | refine W_label ?_
    | refine ret1 rfl rfl rfl ?_
    | refine ret2 rfl rfl rfl rfl ?_ ?_
    | refine Le.bool ?_
    | refine Le.int ?_
    | refine Le.str ?_
    | refine W_draw (by decide +kernel) ?_
    | (apply d1 (hd := rfl); case hop => first | (apply D_move; rfl) | (apply D_assign; rfl) | (apply D_load1; rfl) | (apply D_fld; rfl) | (apply D_pickT; rfl; rfl) | (apply D_pickF; rfl; rfl) | (apply D_int; rfl; rfl; rfl) | (apply D_lenM; rfl) | (apply D_len_sl; rfl) | (apply D_len_str; rfl) | (apply D_str; rfl; rfl; rfl) | (apply D_ext; rfl; rfl) | (apply D_not; rfl) | (apply D_loadW; rfl; rfl) | (apply D_loadA; rfl; rfl) | (apply D_box; rfl; rfl) | (apply D_conv_int; rfl) | (apply D_conv_str; rfl) | (apply D_s2b; rfl) | (apply D_len_nil; rfl) | (apply D_beq; rfl; rfl) | (apply D_bne; rfl; rfl) | (apply D_idxAn; rfl; rfl; omega) | (apply D_idxSn; rfl; rfl; omega) | (apply D_idxA; rfl; rfl; omega; (first | omega | (simp; omega))) | (apply D_idxS; rfl; rfl; omega; (first | omega | (simp; omega))) | (apply D_lit; rfl; rfl; rfl; rfl) | exact D_xcmp rfl rfl rfl | exact D_xidx rfl rfl rfl | exact D_mkfn rfl | (apply D_conv_int; rfl) | (apply D_neg; rfl))
    | refine dg0t rfl rfl rfl ?_
    | refine dg0f rfl rfl rfl ?_
    | refine dg0u rfl rfl rfl ?_
    | refine dgr rfl rfl ?_
    | refine dgs rfl rfl (fun _ => ?_) (fun _ => ?_)
    | refine WD_nil ?_
  refine W_loopL (X := Nat) (fun i => [(0, str l), (1, .sc (.int .u8 c.toNat)), (4, .sc (.bool false)), (5, .sc (.int .i64 (i : Int)))]) (fun _ => [])
    (fun i => i ≤ l.length ∧ ∀ (j : Nat) (h : j < l.length), j < i → l[j] ≠ c) (fun i => l.length - i) 0 ⟨by omega, fun j h h' => by omega⟩ ⟨rfl, rfl, rfl, rfl, trivial⟩ rfl ?_
  rintro i ⟨hi, hz⟩
  repeat' first
    | (apply p1 (hd := rfl); case hop => first | (apply D_move; rfl) | (apply D_assign; rfl) | (apply D_load1; rfl) | (apply D_fld; rfl) | (apply D_pickT; rfl; rfl) | (apply D_pickF; rfl; rfl) | (apply D_int; rfl; rfl; rfl) | (apply D_lenM; rfl) | (apply D_len_sl; rfl) | (apply D_len_str; rfl) | (apply D_str; rfl; rfl; rfl) | (apply D_ext; rfl; rfl) | (apply D_not; rfl) | (apply D_loadW; rfl; rfl) | (apply D_loadA; rfl; rfl) | (apply D_box; rfl; rfl) | (apply D_conv_int; rfl) | (apply D_conv_str; rfl) | (apply D_s2b; rfl) | (apply D_len_nil; rfl) | (apply D_beq; rfl; rfl) | (apply D_bne; rfl; rfl) | (apply D_idxAn; rfl; rfl; omega) | (apply D_idxSn; rfl; rfl; omega) | (apply D_idxA; rfl; rfl; omega; (first | omega | (simp; omega))) | (apply D_idxS; rfl; rfl; omega; (first | omega | (simp; omega))) | (apply D_lit; rfl; rfl; rfl; rfl) | exact D_xcmp rfl rfl rfl | exact D_xidx rfl rfl rfl | exact D_mkfn rfl | (apply D_conv_int; rfl) | (apply D_neg; rfl))
    | refine W_seq ?_
    | refine W_region ?_
    | refine c1 rfl ?_
    | refine c0 rfl ?_
    | refine cs rfl (fun _ => ?_) (fun _ => ?_)
    | refine WL_nil ?_
    | refine g0t rfl rfl rfl ?_
    | refine g0f rfl rfl rfl ?_
    | refine g0u rfl rfl rfl ?_
    | refine gr rfl rfl ?_
    | refine gs rfl rfl (fun _ => ?_) (fun _ => ?_)
    | refine tn ?_
    | refine tr ?_
    | refine br ?_
    | refine bn ?_
    | refine te ?_
    | refine bh rfl ?_
    | refine bm rfl ?_
    | refine W_skip ?_
    | refine W_block ?_
    | refine W_exit ?_
    | refine W_ret ?_
    | refine W_label ?_
    | refine ret1 rfl rfl rfl ?_
    | refine ret2 rfl rfl rfl rfl ?_ ?_
    | refine Le.bool ?_
    | refine Le.int ?_
    | refine Le.str ?_
    | refine W_draw (by decide +kernel) ?_
    | (apply d1 (hd := rfl); case hop => first | (apply D_move; rfl) | (apply D_assign; rfl) | (apply D_load1; rfl) | (apply D_fld; rfl) | (apply D_pickT; rfl; rfl) | (apply D_pickF; rfl; rfl) | (apply D_int; rfl; rfl; rfl) | (apply D_lenM; rfl) | (apply D_len_sl; rfl) | (apply D_len_str; rfl) | (apply D_str; rfl; rfl; rfl) | (apply D_ext; rfl; rfl) | (apply D_not; rfl) | (apply D_loadW; rfl; rfl) | (apply D_loadA; rfl; rfl) | (apply D_box; rfl; rfl) | (apply D_conv_int; rfl) | (apply D_conv_str; rfl) | (apply D_s2b; rfl) | (apply D_len_nil; rfl) | (apply D_beq; rfl; rfl) | (apply D_bne; rfl; rfl) | (apply D_idxAn; rfl; rfl; omega) | (apply D_idxSn; rfl; rfl; omega) | (apply D_idxA; rfl; rfl; omega; (first | omega | (simp; omega))) | (apply D_idxS; rfl; rfl; omega; (first | omega | (simp; omega))) | (apply D_lit; rfl; rfl; rfl; rfl) | exact D_xcmp rfl rfl rfl | exact D_xidx rfl rfl rfl | exact D_mkfn rfl | (apply D_conv_int; rfl) | (apply D_neg; rfl))
    | refine dg0t rfl rfl rfl ?_
    | refine dg0f rfl rfl rfl ?_
    | refine dg0u rfl rfl rfl ?_
    | refine dgr rfl rfl ?_
    | refine dgs rfl rfl (fun _ => ?_) (fun _ => ?_)
    | refine WD_nil ?_
  · rename_i h1 h2
    have e : l[i] = c := UInt8.toNat_inj.1 (by omega)
    exact dP_T (e ▸ List.getElem_mem _)
  · rename_i h1 h2
    refine ⟨rfl, i + 1, ⟨by omega, fun j h hj => ?_⟩, by omega, ⟨rfl, rfl, rfl, ieq (wsucc i (by omega)), trivial⟩, rfl⟩
    by_cases e : j = i
    · subst e; exact fun e => h2 (by rw [e])
    · exact hz j h (by omega)
  · rename_i h1
    exact dP_F fun h => by
      obtain ⟨j, hj, e⟩ := List.getElem_of_mem h
      exact hz j hj (by omega) e

abbrev sg : List UInt8 := [63, 95, 43, 45, 42, 47, 60, 62, 61, 33, 46, 37, 38]
abbrev sT : List UInt8 := [116, 114, 117, 101]
abbrev sF : List UInt8 := [102, 97, 108, 115, 101]
def leadP (s : List UInt8) (h : 0 < s.length) : Prop := ((s[0].toNat : Int) = 43 ∨ (s[0].toNat : Int) = 45 ∨ (s[0].toNat : Int) = 33)
def okP (s : List UInt8) (j : Nat) (h : j < s.length) : Prop :=
  (digP s[j] ∨ lowP s[j] ∨ s[j] ∈ sg) ∧ ¬ (digP s[j] ∧ (j = 0 ∨ (j = 1 ∧ leadP s (by omega))))
def NamedP (s : List UInt8) : Prop := 1 ≤ s.length ∧ s.length ≤ 64 ∧ s ≠ sT ∧ s ≠ sF ∧ ∀ (j : Nat) (h : j < s.length), okP s j h

end Go.Proofs
