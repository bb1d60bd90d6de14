/- Contracts of the program's readers of values' texts: pairs of digits. -/
import Derived.Test.YtaphfieahcimcaaGreatDoorZQPT
import Derived.Test.YtaphfieahcimcaaGreatDoorOps7
namespace Go.Proofs
open Go.AL
attribute [local irreducible] Go.AL.W Go.AL.WL Go.AL.WD Go.AL.POp Go.AL.PPOp Go.AL.POpS Go.AL.PC Go.AL.AC Go.AL.YW Go.AL.Ret Go.AL.Le Go.AL.thn Go.AL.inBlk Go.AL.scp

instance : Xt Tryz.prog 102 Extern.BytealgIndexByte.indexByte := ⟨run_callFunc_extern Tryz.func102 (by kernel_rfl) (by kernel_rfl) (by kernel_rfl) (by kernel_rfl)⟩
set_option maxHeartbeats 4000000 in
theorem ixB0_pc [GlobF Tryz.prog] (s : List UInt8) (c : UInt8) : PC Tryz.prog 96 [str s, .sc (.int .u8 c.toNat)] (.sc (.int .i64 (Lib.indexByte s c))) := by
  refine PC.of_body Tryz.func96 Tryz.ntmps96 rfl rfl rfl ?_
  repeat' first
    | (apply p1 (hd := rfl); case hop => first | (apply D_move; rfl) | (apply D_assign; rfl) | exact D_xcmp rfl rfl rfl | exact D_xidx rfl rfl rfl)
    | refine W_seq ?_
    | refine W_region ?_
    | refine WL_nil ?_
    | refine tn ?_
    | refine tr ?_
    | refine br ?_
    | refine bn ?_
    | refine te ?_
    | (refine idB ?_; first | refine bh rfl ?_ | refine bm rfl ?_)
    | refine W_skip ?_
    | refine W_block ?_
    | refine W_exit ?_
    | refine W_ret ?_
    | refine W_label ?_
    | refine W_scope ?_
    | refine sn ?_
    | refine sr ?_
    | refine se ?_
    | (refine idR ?_; first | refine ret1 rfl rfl rfl ?_ | refine rL1 rfl (by first | exact trivial | exact ⟨rfl, trivial⟩) (by first | exact ResO.tmp rfl | exact ResO.cellBA rfl rfl rfl | exact ResO.cellB1 rfl rfl rfl | exact ResO.cellEA rfl rfl | exact ResO.cellE1 rfl) ?_)
    | refine Le.bool ?_
    | refine Le.int ?_
    | refine Le.str ?_
  all_goals (have e : ((c.toNat : Int)).toNat.toUInt8 = c := by simp); (rw [e])
set_option maxHeartbeats 4000000 in
theorem ixB_pc [GlobF Tryz.prog] (s : List UInt8) (c : UInt8) : PC Tryz.prog 87 [str s, .sc (.int .u8 c.toNat)] (.sc (.int .i64 (Lib.indexByte s c))) := by
  refine PC.of_body Tryz.func87 Tryz.ntmps87 rfl rfl rfl ?_
  repeat' first
    | (apply p1 (hd := rfl); case hop => first | (apply D_move; rfl) | (apply D_assign; rfl) | (apply D_pc (ixB0_pc s c); rfl; exact .same rfl (.same rfl .nil)))
    | refine W_seq ?_
    | refine W_region ?_
    | refine WL_nil ?_
    | refine tn ?_
    | refine tr ?_
    | refine br ?_
    | refine bn ?_
    | refine te ?_
    | (refine idB ?_; first | refine bh rfl ?_ | refine bm rfl ?_)
    | refine W_skip ?_
    | refine W_block ?_
    | refine W_exit ?_
    | refine W_ret ?_
    | refine W_label ?_
    | refine W_scope ?_
    | refine sn ?_
    | refine sr ?_
    | refine se ?_
    | (refine idR ?_; first | refine ret1 rfl rfl rfl ?_ | refine rL1 rfl (by first | exact trivial | exact ⟨rfl, trivial⟩) (by first | exact ResO.tmp rfl | exact ResO.cellBA rfl rfl rfl | exact ResO.cellB1 rfl rfl rfl | exact ResO.cellEA rfl rfl | exact ResO.cellE1 rfl) ?_)
    | refine Le.bool ?_
    | refine Le.int ?_
    | refine Le.str ?_
  all_goals rfl

/-- A digit's worth, or -1. -/
def nibI (c : UInt8) : Int := match nib c with
  | some k => k
  | none => -1
theorem ix_nib (c : UInt8) : Lib.indexByte digs c = nibI c := by
  have : ∀ q : Fin 256, Lib.indexByte digs (UInt8.ofNat q.val) = nibI (UInt8.ofNat q.val) := by decide +kernel
  have h := this ⟨c.toNat, c.toNat_lt⟩
  rwa [UInt8.ofNat_toNat] at h
theorem ixD_pc [GlobF Tryz.prog] (c : UInt8) : PC Tryz.prog 87 [str digs, .sc (.int .u8 c.toNat)] (.sc (.int .i64 (nibI c))) := by
  have := ixB_pc digs c
  rwa [ix_nib] at this
theorem nib_lt {c : UInt8} {k : Nat} (h : nib c = some k) : k < 16 := (nib_inv h).1
theorem nibI_some {c : UInt8} {k : Nat} (h : nib c = some k) : nibI c = k := by unfold nibI; rw [h]
theorem nibI_none {c : UInt8} (h : nib c = none) : nibI c = -1 := by unfold nibI; rw [h]
theorem u8_wrap (z : Int) : ∃ c : UInt8, IntKind.u8.wrap z = (c.toNat : Int) := by
  have h : 0 ≤ IntKind.u8.wrap z ∧ IntKind.u8.wrap z < 256 := by
    simp [IntKind.wrap, IntKind.signed, IntKind.bits]; omega
  refine ⟨UInt8.ofNat (IntKind.u8.wrap z).toNat, ?_⟩
  rw [UInt8.toNat_ofNat']; omega
theorem or_nib : ∀ x y : Fin 16, IntKind.u8.wrap (bits .or .i64 (IntKind.i64.wrap (((x.val : Nat) : Int) * 2 ^ 4)) ((y.val : Nat) : Int)) = ((UInt8.ofNat (x.val * 16 + y.val)).toNat : Int) := by decide +kernel

theorem pairO_n1 {a b : UInt8} (h : nib a = none) : pairO a b = none := by unfold pairO; rw [h]
def pairS : List UInt8 → Option UInt8
  | a :: b :: _ => pairO a b
  | _ => none
theorem pairS_short {s : List UInt8} (h : s.length < 2) : pairS s = none := by
  match s, h with
  | [], _ => rfl
  | [_], _ => rfl
  | _ :: _ :: _, h => simp at h; omega
theorem pairS_two {s : List UInt8} (h : 2 ≤ s.length) : pairS s = pairO (s[0]'(by omega)) (s[1]'(by omega)) := by
  match s, h with
  | _ :: _ :: _, _ => rfl
set_option maxHeartbeats 4000000 in
theorem pair_pc [GlobF Tryz.prog] (s : List UInt8) (hs : s.length < 281474976710656) : ∃ c : UInt8, PC Tryz.prog 77 [str s] (.tu [.sc (.int .u8 c.toNat), .sc (.bool (pairS s).isSome)]) ∧ ∀ d, pairS s = some d → c = d := by
  by_cases h2 : s.length < 2
  · refine ⟨0, ?_, fun d hd => by rw [pairS_short h2] at hd; cases hd⟩
    rw [pairS_short h2]
    refine PC.of_body Tryz.func77 Tryz.ntmps77 rfl rfl rfl ?_
    repeat' first
      | (apply p1 (hd := rfl); case hop => first | (apply D_move; rfl) | (apply D_assign; rfl) | (apply D_pickT; rfl; rfl) | (apply D_pickF; rfl; rfl) | (apply D_int; rfl; rfl; rfl) | (apply D_len_str; rfl) | (apply D_conv_int; rfl) | (apply D_idxSn; rfl; rfl; (first | omega | (simp; done))) | (apply D_idxS; rfl; rfl; omega; (first | omega | (simp; done) | (simp; omega))) | (apply D_shl; rfl; rfl; first | omega | ((repeat rw [w64 _ (by omega) (by omega)]); omega) | decide))
      | refine W_seq ?_
      | refine W_region ?_
      | (refine idC ?_; first | refine c1 rfl ?_ | refine c0 rfl ?_ | refine cs rfl (fun _ => ?_) (fun _ => ?_))
      | refine WL_nil ?_
      | (refine idG ?_; first | refine g0t rfl rfl rfl ?_ | refine g0f rfl rfl rfl ?_ | refine g0u rfl rfl rfl ?_ | refine gr rfl rfl ?_ | refine gs rfl rfl (fun _ => ?_) (fun _ => ?_) | refine grn rfl rfl ?_)
      | refine tn ?_
      | refine tr ?_
      | refine br ?_
      | refine bn ?_
      | refine te ?_
      | (refine idB ?_; first | refine bh rfl ?_ | refine bm rfl ?_)
      | refine W_skip ?_
      | refine W_block ?_
      | refine W_exit ?_
      | refine W_ret ?_
      | refine W_label ?_
      | refine W_scope ?_
      | refine sn ?_
      | refine sr ?_
      | refine se ?_
      | (refine idR ?_; first | refine ret2 rfl rfl rfl rfl ?_ ?_ | refine rL2 rfl (by first | exact trivial | exact ⟨rfl, trivial⟩) (by first | exact ResO.tmp rfl | exact ResO.cellBA rfl rfl rfl | exact ResO.cellB1 rfl rfl rfl | exact ResO.cellEA rfl rfl | exact ResO.cellE1 rfl) (by first | exact ResO.tmp rfl | exact ResO.cellBA rfl rfl rfl | exact ResO.cellB1 rfl rfl rfl | exact ResO.cellEA rfl rfl | exact ResO.cellE1 rfl) ?_ ?_)
      | refine Le.bool ?_
      | refine Le.int ?_
      | refine Le.str ?_
      | (refine idW ?_; first | refine W_draw0 rfl ?_ | refine W_draw1 rfl ?_ | refine W_draw2 rfl ?_ | refine W_draw3 rfl ?_)
      | (apply d1 (hd := rfl); case hop => first | (apply D_move; rfl) | (apply D_assign; rfl) | (apply D_pickT; rfl; rfl) | (apply D_pickF; rfl; rfl) | (apply D_int; rfl; rfl; rfl) | (apply D_len_str; rfl) | (apply D_conv_int; rfl) | (apply D_idxSn; rfl; rfl; (first | omega | (simp; done))) | (apply D_idxS; rfl; rfl; omega; (first | omega | (simp; done) | (simp; omega))) | (apply D_shl; rfl; rfl; first | omega | ((repeat rw [w64 _ (by omega) (by omega)]); omega) | decide))
      | (refine idDg ?_; first | refine dg0t rfl rfl rfl ?_ | refine dg0f rfl rfl rfl ?_ | refine dg0u rfl rfl rfl ?_ | refine dgr rfl rfl ?_ | refine dgs rfl rfl (fun _ => ?_) (fun _ => ?_))
      | (refine idDn ?_; first | refine dL _ (fun hp' hs => D_loadB1 rfl (hs.trans rfl) rfl) rfl ?_ | refine dL _ (fun hp' hs => D_loadBA rfl (hs.trans rfl) rfl) rfl ?_ | refine dS (S_store rfl rfl rfl rfl rfl rfl rfl) rfl ?_ | refine dV (S_alloc 0 rfl) rfl rfl ?_ | refine dV (S_alloc 1 rfl) rfl rfl ?_ | refine dV (S_alloc 2 rfl) rfl rfl ?_ | refine dV (S_alloc 3 rfl) rfl rfl ?_ | refine dV (S_alloc 4 rfl) rfl rfl ?_ | refine dV (S_alloc 5 rfl) rfl rfl ?_ | refine dV (S_alloc 6 rfl) rfl rfl ?_ | refine dV (S_alloc 7 rfl) rfl rfl ?_)
      | refine WD_nil (by first | decide +kernel | kernel_rfl | rfl) ?_
    all_goals first | rfl | (exfalso; omega)
  · have h0' : 0 < s.length := by omega
    have h1' : 1 < s.length := by omega
    have h0 : 0 < s.length := by omega
    have h1 : 1 < s.length := by omega
    obtain ⟨c, hc⟩ := u8_wrap (bits .or .i64 (IntKind.i64.wrap (nibI (s[0]'h0) * 2 ^ 4)) (nibI (s[1]'h1)))
    have hp : PC Tryz.prog 77 [str s] (.tu [.sc (.int .u8 c.toNat), .sc (.bool (iLe 0 (nibI (s[0]'h0)) && iLe 0 (nibI (s[1]'h1))))]) := by
      refine PC.of_body Tryz.func77 Tryz.ntmps77 rfl rfl rfl ?_
      repeat' first
        | (apply p1 (hd := rfl); case hop => first | (apply D_move; rfl) | (apply D_assign; rfl) | (apply D_pc (ixD_pc _); rfl; exact .same rfl (.same rfl .nil)) | exact D_or rfl rfl | (apply D_pickT; rfl; rfl) | (apply D_pickF; rfl; rfl) | (apply D_int; rfl; rfl; rfl) | (apply D_len_str; rfl) | (apply D_conv_int; rfl) | (apply D_idxSn; rfl; rfl; (first | omega | (simp; done))) | (apply D_idxS; rfl; rfl; omega; (first | omega | (simp; done) | (simp; omega))) | (apply D_shl; rfl; rfl; first | omega | ((repeat rw [w64 _ (by omega) (by omega)]); omega) | decide))
        | refine W_seq ?_
        | refine W_region ?_
        | (refine idC ?_; first | refine c1 rfl ?_ | refine c0 rfl ?_ | refine cs rfl (fun _ => ?_) (fun _ => ?_))
        | refine WL_nil ?_
        | (refine idG ?_; first | refine g0t rfl rfl rfl ?_ | refine g0f rfl rfl rfl ?_ | refine g0u rfl rfl rfl ?_ | refine gr rfl rfl ?_ | refine gs rfl rfl (fun _ => ?_) (fun _ => ?_) | refine grn rfl rfl ?_)
        | refine tn ?_
        | refine tr ?_
        | refine br ?_
        | refine bn ?_
        | refine te ?_
        | (refine idB ?_; first | refine bh rfl ?_ | refine bm rfl ?_)
        | refine W_skip ?_
        | refine W_block ?_
        | refine W_exit ?_
        | refine W_ret ?_
        | refine W_label ?_
        | refine W_scope ?_
        | refine sn ?_
        | refine sr ?_
        | refine se ?_
        | (refine idR ?_; first | refine ret2 rfl rfl rfl rfl ?_ ?_ | refine rL2 rfl (by first | exact trivial | exact ⟨rfl, trivial⟩) (by first | exact ResO.tmp rfl | exact ResO.cellBA rfl rfl rfl | exact ResO.cellB1 rfl rfl rfl | exact ResO.cellEA rfl rfl | exact ResO.cellE1 rfl) (by first | exact ResO.tmp rfl | exact ResO.cellBA rfl rfl rfl | exact ResO.cellB1 rfl rfl rfl | exact ResO.cellEA rfl rfl | exact ResO.cellE1 rfl) ?_ ?_)
        | refine Le.bool ?_
        | refine Le.int ?_
        | refine Le.str ?_
        | (refine idW ?_; first | refine W_draw0 rfl ?_ | refine W_draw1 rfl ?_ | refine W_draw2 rfl ?_ | refine W_draw3 rfl ?_)
        | (apply d1 (hd := rfl); case hop => first | (apply D_move; rfl) | (apply D_assign; rfl) | (apply D_pc (ixD_pc _); rfl; exact .same rfl (.same rfl .nil)) | exact D_or rfl rfl | (apply D_pickT; rfl; rfl) | (apply D_pickF; rfl; rfl) | (apply D_int; rfl; rfl; rfl) | (apply D_len_str; rfl) | (apply D_conv_int; rfl) | (apply D_idxSn; rfl; rfl; (first | omega | (simp; done))) | (apply D_idxS; rfl; rfl; omega; (first | omega | (simp; done) | (simp; omega))) | (apply D_shl; rfl; rfl; first | omega | ((repeat rw [w64 _ (by omega) (by omega)]); omega) | decide))
        | (refine idDg ?_; first | refine dg0t rfl rfl rfl ?_ | refine dg0f rfl rfl rfl ?_ | refine dg0u rfl rfl rfl ?_ | refine dgr rfl rfl ?_ | refine dgs rfl rfl (fun _ => ?_) (fun _ => ?_))
        | (refine idDn ?_; first | refine dL _ (fun hp' hs => D_loadB1 rfl (hs.trans rfl) rfl) rfl ?_ | refine dL _ (fun hp' hs => D_loadBA rfl (hs.trans rfl) rfl) rfl ?_ | refine dS (S_store rfl rfl rfl rfl rfl rfl rfl) rfl ?_ | refine dV (S_alloc 0 rfl) rfl rfl ?_ | refine dV (S_alloc 1 rfl) rfl rfl ?_ | refine dV (S_alloc 2 rfl) rfl rfl ?_ | refine dV (S_alloc 3 rfl) rfl rfl ?_ | refine dV (S_alloc 4 rfl) rfl rfl ?_ | refine dV (S_alloc 5 rfl) rfl rfl ?_ | refine dV (S_alloc 6 rfl) rfl rfl ?_ | refine dV (S_alloc 7 rfl) rfl rfl ?_)
        | refine WD_nil (by first | decide +kernel | kernel_rfl | rfl) ?_
      all_goals first
        | (exfalso; omega)
        | exact hc
        | (rename_i hh; rw [(iLe_t _ _).mpr hh]; rfl)
        | (rename_i hh; rw [(iLe_f _ _).mpr hh]; rfl)
    have hps := pairS_two (s := s) (by omega)
    refine ⟨c, ?_, ?_⟩
    · have e : (iLe 0 (nibI (s[0]'h0)) && iLe 0 (nibI (s[1]'h1))) = (pairS s).isSome := by
        rw [hps]
        rcases hx : nib (s[0]'h0) with _ | x
        · rw [nibI_none hx, pairO_n1 hx]; simp [iLe]
        · unfold pairO
          rw [hx]
          rcases hy : nib (s[1]'h1) with _ | y
          · rw [nibI_none hy]; simp [iLe]
          · rw [nibI_some hx, nibI_some hy]; simp [iLe]
      rw [← e]; exact hp
    · intro d hd
      rw [hps] at hd
      rcases hx : nib (s[0]'h0) with _ | x
      · rw [pairO_n1 hx] at hd; cases hd
      · unfold pairO at hd
        rcases hy : nib (s[1]'h1) with _ | y
        · rw [hx, hy] at hd; cases hd
        · rw [hx, hy] at hd
          cases hd
          rw [nibI_some hx, nibI_some hy, or_nib ⟨x, nib_lt hx⟩ ⟨y, nib_lt hy⟩] at hc
          exact (UInt8.toNat_inj.1 (Int.ofNat_inj.1 hc)).symm
end Go.Proofs

/- Contracts of the program's readers of values' texts: pairs of digits, one by one. -/
namespace Go.Proofs
open Go.AL
attribute [local irreducible] Go.AL.W Go.AL.WL Go.AL.WD Go.AL.POp Go.AL.PPOp Go.AL.POpS Go.AL.PC Go.AL.AC Go.AL.YW Go.AL.Ret Go.AL.Le Go.AL.thn Go.AL.inBlk Go.AL.scp

theorem pairS_len {s : List UInt8} (h : pairS s ≠ none) : 2 ≤ s.length := by
  match s, h with
  | [], h => exact absurd rfl h
  | [_], h => exact absurd rfl h
  | _ :: _ :: _, _ => simp
set_option maxHeartbeats 8000000 in
theorem pairs1_ac [GlobF Tryz.prog] (r l : Nat) (I : List UInt8 → List AObj → Prop) (Stop : List AObj → Prop) {s0 : List UInt8} {h0 : List AObj} (hl : s0.length < 281474976710656) (hI : I s0 h0)
    (hbox : ∀ s h, I s h → h[r]? = some (.cells [str s] none))
    (hy : ∀ s h c, I s h → s ≠ [] → (∀ d, pairS s = some d → c = d) → YW Tryz.prog l [.sc (.int .u8 c.toNat), .sc (.bool (pairS s).isSome)] h (fun b h' => (b = true ∧ pairS s ≠ none ∧ h'[r]? = some (.cells [str s] none) ∧ I (s.drop 2) (h'.set r (.cells [str (s.drop 2)] none))) ∨ ((b = false ∨ pairS s = none) ∧ Stop h'))) :
    AC Tryz.prog 76 [.sc (.func (.yield l) #[] #[]), .bp r 0] h0 (fun _ h' => I [] h' ∨ Stop h') := by
  refine AC.of_body Tryz.func76 Tryz.ntmps76 rfl rfl rfl ?_
  repeat' first
    | (apply p1 (hd := rfl); case hop => first | (apply D_move; rfl) | (apply D_assign; rfl) | (apply D_load1; rfl) | (apply D_pickT; rfl; rfl) | (apply D_pickF; rfl; rfl) | (apply D_str; rfl; rfl; rfl) | (apply D_ext; rfl; rfl) | (apply D_not; rfl) | (apply D_loadW; rfl; rfl) | (apply D_loadA; rfl; rfl) | exact D_xcmp rfl rfl rfl | exact D_xidx rfl rfl rfl | (apply D_slS; rfl; rfl; rfl; all_goals first | omega | ((repeat rw [w64 _ (by omega) (by omega)]); omega) | decide) | (apply D_slSh; rfl; rfl; all_goals first | omega | ((repeat rw [w64 _ (by omega) (by omega)]); omega) | decide) | (apply D_slSl; rfl; rfl; all_goals first | omega | ((repeat rw [w64 _ (by omega) (by omega)]); omega) | decide))
    | refine W_seq ?_
    | refine W_region ?_
    | (refine idC ?_; first | refine c1 rfl ?_ | refine c0 rfl ?_ | refine cs rfl (fun _ => ?_) (fun _ => ?_))
    | refine WL_nil ?_
    | (refine idG ?_; first | refine g0t rfl rfl rfl ?_ | refine g0f rfl rfl rfl ?_ | refine g0u rfl rfl rfl ?_ | refine gr rfl rfl ?_ | refine gs rfl rfl (fun _ => ?_) (fun _ => ?_) | refine grn rfl rfl ?_)
    | refine tn ?_
    | refine tr ?_
    | refine br ?_
    | refine bn ?_
    | refine te ?_
    | (refine idB ?_; first | refine bh rfl ?_ | refine bm rfl ?_)
    | refine W_skip ?_
    | refine W_block ?_
    | refine W_exit ?_
    | refine W_ret ?_
    | refine W_label ?_
    | refine W_scope ?_
    | refine sn ?_
    | refine sr ?_
    | refine se ?_
    | (refine idS ?_; first | refine pS (S_store rfl rfl rfl rfl rfl rfl rfl) ?_ | refine pS (S_store rfl rfl rfl (by (repeat first | assumption | exact get_last | (refine get_last2 ?_; focus (simp; done)) | apply get_set | apply get_app | (apply get_ne; focus omega) | (apply get_ne; focus (simp only [List.length_set, List.length_append, List.length_cons, List.length_nil]; omega))); done) (by rfl) (by rfl) (by rfl)) ?_)
    | refine Le.bool ?_
    | refine Le.int ?_
    | refine Le.str ?_
  refine W_loopL (X := List UInt8 × List AObj) (fun x => [(0, .sc (.func (.yield l) #[] #[])), (1, .bp r 0)]) (fun x => x.2)
    (fun x => x.1.length < 281474976710656 ∧ I x.1 x.2) (fun x => x.1.length) (s0, h0) ⟨hl, hI⟩ ⟨rfl, rfl, trivial⟩ rfl ?_
  rintro ⟨s, h⟩ ⟨hs, hIs⟩
  simp only at hs hIs ⊢
  have hb := hbox s h hIs
  obtain ⟨c, hpc, hcd⟩ := pair_pc s hs
  have hyi := fun hne => hy s h c hIs hne hcd
  repeat' first
    | (refine p1L (D_loadB1 rfl hb rfl) rfl ?_)
    | (refine p1L (D_loadB1 rfl hb2 rfl) rfl ?_)
    | (refine pS (S_store rfl rfl rfl hb2 rfl rfl rfl) ?_)
    | (apply p1 (hd := rfl); case hop => first | (apply D_move; rfl) | (apply D_assign; rfl) | (apply D_slSl; rfl; rfl; all_goals (have h2 := pairS_len hne; omega)) | (apply D_pc hpc; rfl; exact .same rfl .nil) | (apply D_load1; rfl) | (apply D_pickT; rfl; rfl) | (apply D_pickF; rfl; rfl) | (apply D_str; rfl; rfl; rfl) | (apply D_ext; rfl; rfl) | (apply D_not; rfl) | (apply D_loadW; rfl; rfl) | (apply D_loadA; rfl; rfl) | exact D_xcmp rfl rfl rfl | exact D_xidx rfl rfl rfl | (apply D_slS; rfl; rfl; rfl; all_goals first | omega | ((repeat rw [w64 _ (by omega) (by omega)]); omega) | decide) | (apply D_slSh; rfl; rfl; all_goals first | omega | ((repeat rw [w64 _ (by omega) (by omega)]); omega) | decide) | (apply D_slSl; rfl; rfl; all_goals first | omega | ((repeat rw [w64 _ (by omega) (by omega)]); omega) | decide))
    | refine W_seq ?_
    | refine W_region ?_
    | (refine idC ?_; first | refine c1 rfl ?_ | refine c0 rfl ?_ | refine cs rfl (fun _ => ?_) (fun _ => ?_))
    | refine WL_nil ?_
    | (refine idG ?_; first | refine g0t rfl rfl rfl ?_ | refine g0f rfl rfl rfl ?_ | refine g0u rfl rfl rfl ?_ | refine gr rfl rfl ?_ | refine gs rfl rfl (fun _ => ?_) (fun _ => ?_) | refine grn rfl rfl ?_)
    | refine tn ?_
    | refine tr ?_
    | refine br ?_
    | refine bn ?_
    | refine te ?_
    | (refine idB ?_; first | refine bh rfl ?_ | refine bm rfl ?_)
    | refine W_skip ?_
    | refine W_block ?_
    | refine W_exit ?_
    | refine W_ret ?_
    | refine W_label ?_
    | refine W_scope ?_
    | refine sn ?_
    | refine sr ?_
    | refine se ?_
    | (refine idS ?_; first | refine pS (S_store rfl rfl rfl rfl rfl rfl rfl) ?_ | refine pS (S_store rfl rfl rfl (by (repeat first | assumption | exact get_last | (refine get_last2 ?_; focus (simp; done)) | apply get_set | apply get_app | (apply get_ne; focus omega) | (apply get_ne; focus (simp only [List.length_set, List.length_append, List.length_cons, List.length_nil]; omega))); done) (by rfl) (by rfl) (by rfl)) ?_)
    | refine Le.bool ?_
    | refine Le.int ?_
    | refine Le.str ?_
    | (refine m_yield rfl rfl rfl (hyi (by assumption)) ?_; rintro b h' (⟨rfl, hne, hb2, hnx⟩ | ⟨rfl | hno, hst⟩))
  all_goals first
    | contradiction
    | (exfalso; rename_i hh; apply hne; cases hc : pairS s <;> simp_all; done)
    | (exfalso; rename_i hh; rw [hno] at hh; cases hh; done)
    | exact ret0 (.inl rfl) rfl rfl (.inr hst)
    | exact ret0 (.inr rfl) rfl rfl (.inl hIs)
    | skip
  · have h2 := pairS_len hne
    exact ⟨rfl, (s.drop 2, _), ⟨by show (s.drop 2).length < _; rw [List.length_drop]; omega, hnx⟩, by show (s.drop 2).length < _; rw [List.length_drop]; omega, ⟨rfl, rfl, trivial⟩, rfl⟩
  · rename_i hs0
    subst hs0
    exact ret0 (.inr rfl) rfl rfl (.inl hIs)
/-- .. box and all. -/
theorem pairs_ac [GlobF Tryz.prog] {h : List AObj} (s : List UInt8) : AC Tryz.prog 61 [str s] h (fun v h' => v = .fn (.func 76) [] [.bp h.length 0] ∧ h' = h ++ [.cells [str s] none]) := by
  refine AC.of_body Tryz.func61 Tryz.ntmps61 rfl rfl rfl ?_
  repeat' first
    | (refine m_box rfl rfl rfl ?_)
    | (apply p1 (hd := rfl); case hop => first | (apply D_assign; rfl) | (apply D_box; rfl; rfl) | exact D_mkfn rfl)
    | refine W_seq ?_
    | refine W_region ?_
    | refine WL_nil ?_
    | refine tn ?_
    | refine tr ?_
    | refine br ?_
    | refine bn ?_
    | refine te ?_
    | (refine idB ?_; first | refine bh rfl ?_ | refine bm rfl ?_)
    | refine W_skip ?_
    | refine W_block ?_
    | refine W_exit ?_
    | refine W_ret ?_
    | refine W_label ?_
    | refine W_scope ?_
    | refine sn ?_
    | refine sr ?_
    | refine se ?_
    | refine Le.bool ?_
    | refine Le.int ?_
    | refine Le.str ?_
  all_goals exact retK1 (.inl rfl) rfl rfl (ResO.tmp rfl) ⟨rfl, rfl⟩

/-- The digits told to whatever turns the heap by the bytes told. -/
theorem pairs1_acX [GlobF Tryz.prog] (r l : Nat) (Hs : List UInt8 → List UInt8 → List AObj) (Stop : List AObj → Prop) {s0 : List UInt8} {h0 : List AObj} (hl : s0.length < 281474976710656) (hH : Hs [] s0 = h0)
    (hr : ∀ acc s, (Hs acc s)[r]? = some (.cells [str s] none)) (hs : ∀ acc s s', (Hs acc s).set r (.cells [str s'] none) = Hs acc s')
    (hy : ∀ acc s c, acc.length + s.length ≤ s0.length → s ≠ [] → pairS s = some c → YW Tryz.prog l [.sc (.int .u8 c.toNat), .sc (.bool true)] (Hs acc s) (fun b h' => b = true ∧ h' = Hs (acc ++ [c]) s))
    (hn : ∀ acc s c, acc.length + s.length ≤ s0.length → s ≠ [] → pairS s = none → unhex s0 = none → YW Tryz.prog l [.sc (.int .u8 (c : UInt8).toNat), .sc (.bool false)] (Hs acc s) (fun b h' => Stop h')) :
    AC Tryz.prog 76 [.sc (.func (.yield l) #[] #[]), .bp r 0] h0 (fun _ h' => (∃ out, unhex s0 = some out ∧ h' = Hs out []) ∨ (unhex s0 = none ∧ Stop h')) := by
  have hun : ∀ {s c}, pairS s = some c → unhex s = (unhex (s.drop 2)).map (c :: ·) := fun {s c} h => by
    match s, h with
    | a :: b :: t, h => rw [unhex, show pairO a b = some c from h]; rfl
  have hun0 : ∀ {s}, s ≠ [] → pairS s = none → unhex s = none := fun {s} h0 h => by
    match s, h0, h with
    | [_], _, _ => rfl
    | a :: b :: t, _, h => rw [unhex, show pairO a b = none from h]
  refine AC.mono (pairs1_ac r l (fun s h => ∃ acc, acc.length + s.length ≤ s0.length ∧ h = Hs acc s ∧ unhex s0 = (unhex s).map (acc ++ ·)) (fun h => unhex s0 = none ∧ Stop h) hl ⟨[], by simp, hH.symm, by simp⟩ ?_ ?_) ?_
  · rintro s h ⟨acc, _, rfl, _⟩
    exact hr acc s
  · rintro s h c ⟨acc, hlen, rfl, hu⟩ hne hc
    rcases hp : pairS s with _ | d
    · have h0 : unhex s0 = none := by rw [hu, hun0 hne hp]; rfl
      refine (hn acc s c hlen hne hp h0).mono ?_
      intro b h' hst
      exact .inr ⟨.inr rfl, h0, hst⟩
    · obtain rfl := hc d hp
      refine (hy acc s c hlen hne hp).mono ?_
      rintro b h' ⟨rfl, rfl⟩
      have h2 := pairS_len (s := s) (by rw [hp]; simp)
      refine .inl ⟨rfl, by simp, hr _ _, acc ++ [c], ?_, hs _ _ _, ?_⟩
      · rw [List.length_append, List.length_drop]; simp only [List.length_cons, List.length_nil]; omega
      · rw [hu, hun hp]; cases unhex (s.drop 2) <;> simp
  · rintro _ h' (⟨acc, _, rfl, hu⟩ | h1)
    · exact .inl ⟨acc, by rw [hu]; simp [unhex], rfl⟩
    · exact .inr h1
/-- .. and one end for all. -/
theorem pairs1_acE [GlobF Tryz.prog] (r l : Nat) (Hs : List UInt8 → List UInt8 → List AObj) {Stop : List AObj → Prop} {s0 : List UInt8} {h0 : List AObj} (hl : s0.length < 281474976710656) (hH : Hs [] s0 = h0)
    (hr : ∀ acc s, (Hs acc s)[r]? = some (.cells [str s] none)) (hs : ∀ acc s s', (Hs acc s).set r (.cells [str s'] none) = Hs acc s')
    (hy : ∀ acc s c, acc.length + s.length ≤ s0.length → s ≠ [] → pairS s = some c → YW Tryz.prog l [.sc (.int .u8 c.toNat), .sc (.bool true)] (Hs acc s) (fun b h' => b = true ∧ h' = Hs (acc ++ [c]) s))
    (hn : ∀ acc s c, acc.length + s.length ≤ s0.length → s ≠ [] → pairS s = none → unhex s0 = none → YW Tryz.prog l [.sc (.int .u8 (c : UInt8).toNat), .sc (.bool false)] (Hs acc s) (fun _ h' => Stop h'))
    (hend : ∀ out, unhex s0 = some out → Stop (Hs out [])) :
    AC Tryz.prog 76 [.sc (.func (.yield l) #[] #[]), .bp r 0] h0 (fun _ h' => Stop h') :=
  AC.mono (pairs1_acX r l Hs Stop hl hH hr hs hy hn) fun _ h' h => by
    rcases h with ⟨out, h1, rfl⟩ | ⟨_, h1⟩
    · exact hend out h1
    · exact h1
end Go.Proofs
