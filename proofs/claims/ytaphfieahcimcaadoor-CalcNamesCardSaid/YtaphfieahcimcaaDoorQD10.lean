/- Contracts of the statements: CalcTexts. -/
import Derived.Test.YtaphfieahcimcaaDoorQD9
namespace Go.Proofs
open Go.AL
attribute [local irreducible] Go.AL.W Go.AL.WL Go.AL.WD Go.AL.POp Go.AL.PPOp Go.AL.POpS Go.AL.PC Go.AL.AC Go.AL.YW Go.AL.Ret Go.AL.Le Go.AL.thn Go.AL.inBlk Go.AL.scp

abbrev txL : List UInt8 := [116, 101, 120, 116]
abbrev vaL : List UInt8 := [118, 97, 108, 117, 101]
abbrev leL : List UInt8 := [108, 101, 110]
theorem oneP_tx (v : Val) : oneP txL v = MayP v := by unfold oneP; rw [if_neg (by decide), if_neg (by decide), if_neg (by decide), if_pos rfl]
theorem oneV_tx (v : Val) : oneV txL v = ⟨3, 0, tL v⟩ := by unfold oneV; rw [if_neg (by decide), if_neg (by decide), if_neg (by decide), if_pos rfl]
theorem oneP_va (v : Val) : oneP vaL v = (v.kind = 3 ∧ parseE v.s = 0) := by unfold oneP; rw [if_neg (by decide), if_neg (by decide), if_neg (by decide), if_neg (by decide), if_pos rfl]
theorem oneV_va (v : Val) : oneV vaL v = parseV v.s := by unfold oneV; rw [if_neg (by decide), if_neg (by decide), if_neg (by decide), if_neg (by decide), if_pos rfl]
theorem oneP_le (v : Val) : oneP leL v = (v.kind = 3 ∨ v.kind = 4 ∨ v.kind = 7) := by unfold oneP; rw [if_neg (by decide), if_neg (by decide), if_pos rfl]
theorem oneV_le (v : Val) : oneV leL v = ⟨1, v.s.length, []⟩ := by unfold oneV; rw [if_neg (by decide), if_neg (by decide), if_pos rfl]
theorem in1 {a : Val} (ha : a.s.length < 134217728) (h1 : inR a.n) : ∀ v, v ∈ [a] → v.s.length < 134217728 ∧ inR v.n := fun v hv => by
  simp only [List.mem_cons, List.not_mem_nil, or_false] at hv; subst hv; exact ⟨ha, h1⟩
theorem in3 {a b c : Val} (ha : a.s.length < 134217728) (hb : b.s.length < 134217728) (hc : c.s.length < 134217728) (h1 : inR a.n) (h2 : inR b.n) (h3 : inR c.n) : ∀ v, v ∈ [a, b, c] → v.s.length < 134217728 ∧ inR v.n := fun v hv => by
  simp only [List.mem_cons, List.not_mem_nil, or_false] at hv; rcases hv with rfl | rfl | rfl <;> exact ⟨by assumption, by assumption⟩
theorem do1_d {s : List UInt8} {a w : Val} (hs : s ∈ ones) (ma : MayP a) (h : oneP s a) (hv : oneV s a = w) (mw : MayP w) : doP s [a] ∧ doV s [a] = w := by
  have hd : doP s [a] := ⟨right_one1 hs ma, h, by show MayP (oneV s a); rw [hv]; exact mw⟩
  exact ⟨hd, by unfold doV; rw [if_pos hd]; exact hv⟩
theorem do1_y [GlobF Tryd.prog] (hp : PowOK) (he : ErrsOK) {s : List UInt8} {a w : Val} (hs : s ∈ ones) (ma : MayP a) (ra : inR a.n) (h : oneP s a) (hv : oneV s a = w) (mw : MayP w) :
    PC Tryd.prog 18 [str s, .sl none 3 ([a].map vC)] (.tu [eV w, .sc (.bool true), .sc (.int .i64 0)]) := by
  have g := do_pc hp he s [a] (by show 1 < _; decide) (in1 (by have := may_len ma; omega) ra)
  obtain ⟨d1, d2⟩ := do1_d hs ma h hv mw
  rwa [← dP_T d1, right_one1 hs ma, d2] at g
theorem do1_n [GlobF Tryd.prog] (hp : PowOK) (he : ErrsOK) {s : List UInt8} {a : Val} (hs : s ∈ ones) (ma : MayP a) (ra : inR a.n) (h : oneP s a → ¬ MayP (oneV s a)) :
    PC Tryd.prog 18 [str s, .sl none 3 ([a].map vC)] (.tu [eV zV, .sc (.bool false), .sc (.int .i64 0)]) := by
  have g := do_pc hp he s [a] (by show 1 < _; decide) (in1 (by have := may_len ma; omega) ra)
  have d1 : ¬ doP s [a] := fun e => h e.2.1 e.2.2
  rwa [← dP_F d1, right_one1 hs ma, doV_z d1] at g
theorem does1_y [GlobF Tryd.prog] (hp : PowOK) (he : ErrsOK) {s : List UInt8} {a w : Val} (hs : s ∈ ones) (ma : MayP a) (ra : inR a.n) (h : oneP s a) (hv : oneV s a = w) (mw : MayP w) :
    PC Tryd.prog 17 [eV w, str s, .sl none 3 ([a].map vC)] (.sc (.bool true)) := by
  have g := does_pc hp he w s [a] (by show 1 < _; decide) (in1 (by have := may_len ma; omega) ra)
  rwa [← dP_T (show doesP w s [a] from do1_d hs ma h hv mw)] at g
theorem do3_d {a b c w : Val} (ma : MayP a) (mb : MayP b) (mc : MayP c) (h : cutP a b c) (hv : cutV a b c = w) (mw : MayP w) : doP subL [a, b, c] ∧ doV subL [a, b, c] = w := by
  have hd : doP subL [a, b, c] := ⟨right_sub ma mb mc, h, by show MayP (cutV a b c); rw [hv]; exact mw⟩
  exact ⟨hd, by unfold doV; rw [if_pos hd]; exact hv⟩
theorem do3_y [GlobF Tryd.prog] (hp : PowOK) (he : ErrsOK) {a b c w : Val} (ma : MayP a) (mb : MayP b) (mc : MayP c) (ra : inR a.n) (rb : inR b.n) (rc : inR c.n) (h : cutP a b c) (hv : cutV a b c = w) (mw : MayP w) :
    PC Tryd.prog 18 [str subL, .sl none 3 ([a, b, c].map vC)] (.tu [eV w, .sc (.bool true), .sc (.int .i64 0)]) := by
  have g := do_pc hp he subL [a, b, c] (by show 3 < _; decide) (in3 (by have := may_len ma; omega) (by have := may_len mb; omega) (by have := may_len mc; omega) ra rb rc)
  obtain ⟨d1, d2⟩ := do3_d ma mb mc h hv mw
  rwa [← dP_T d1, right_sub ma mb mc, d2] at g
theorem does2_y [GlobF Tryd.prog] (hp : PowOK) (he : ErrsOK) {s : List UInt8} {a b w : Val} (hs : s ∈ twos) (ma : MayP a) (mb : MayP b) (ra : inR a.n) (rb : inR b.n) (h : twoP s a b) (hv : twoV s a b = w) (mw : MayP w) :
    PC Tryd.prog 17 [eV w, str s, .sl none 3 ([a, b].map vC)] (.sc (.bool true)) := by
  have g := does_pc hp he w s [a, b] (by show 2 < _; decide) (inD2 (by have := may_len ma; omega) (by have := may_len mb; omega) ra rb)
  rwa [← dP_T ((does_two hs ma mb).2 ⟨h, by rw [hv]; exact mw, hv⟩)] at g
theorem tP_beg (a b : Val) : testP [98, 101, 103, 105, 110, 115] a b = (alikeP a b ∧ atP a.s b.s 0) := by
  unfold testP; rw [if_neg (by decide), if_neg (by decide), if_neg (by decide), if_neg (by decide), if_neg (by decide), if_neg (by decide), if_pos rfl]
theorem tP_end (a b : Val) : testP [101, 110, 100, 115] a b = (alikeP a b ∧ atP a.s b.s ((a.s.length : Int) - b.s.length)) := by
  unfold testP; rw [if_neg (by decide), if_neg (by decide), if_neg (by decide), if_neg (by decide), if_neg (by decide), if_neg (by decide), if_neg (by decide), if_pos rfl]
theorem tP_has (a b : Val) : testP [104, 97, 115] a b = (alikeP a b ∧ ∃ k, atP a.s b.s k) := by
  unfold testP; rw [if_neg (by decide), if_neg (by decide), if_neg (by decide), if_neg (by decide), if_neg (by decide), if_neg (by decide), if_neg (by decide), if_neg (by decide), if_pos rfl]
theorem parse_text {v : Val} (hm : MayP v) (r : inR v.n) : parseV (tL v) = v ∧ parseE (tL v) = 0 := by
  have e : tL v = textL v := by unfold tL; rw [if_pos ((mayB_t v).mpr hm)]
  rw [e]; exact parse_ok (read_text hm r.1 r.2) hm
theorem at_beg (s : List UInt8) (k : Nat) (hk : k ≤ s.length) : atP s (s.take k) 0 := by
  have e : (s.take k).length = k := by rw [List.length_take]; omega
  refine ⟨by omega, by rw [e]; omega, ?_⟩
  rw [e]
  show List.drop 0 (s.take (0 + (k : Int)).toNat) = _
  rw [show (0 + (k : Int)).toNat = k by omega]; rfl
theorem at_end (s : List UInt8) (k : Nat) (hk : k ≤ s.length) : atP s (s.drop k) ((s.length : Int) - (s.drop k).length) := by
  have e : (s.drop k).length = s.length - k := List.length_drop
  refine ⟨by rw [e]; omega, by rw [e]; omega, ?_⟩
  rw [e, show ((s.length : Int) - ((s.length - k : Nat) : Int) + ((s.length - k : Nat) : Int)).toNat = s.length by omega, show ((s.length : Int) - ((s.length - k : Nat) : Int)).toNat = k by omega, List.take_length]
theorem kmod {a : Int} {n : Nat} (h0 : 0 ≤ a) : ∃ k : Nat, k ≤ n ∧ a.tmod ((n : Int) + 1) = k := by
  refine ⟨(a.tmod ((n : Int) + 1)).toNat, ?_, ?_⟩
  · have := Int.tmod_lt_of_pos a (show (0 : Int) < (n : Int) + 1 by omega); omega
  · have := Int.tmod_nonneg ((n : Int) + 1) h0; omega
theorem u16_of {n : Int} (h : (Lit.int .u16 n).wf = true) : 0 ≤ n ∧ n < 65536 := by
  simp [Lit.wf, IntKind.min, IntKind.max, IntKind.signed, IntKind.bits] at h
  omega
set_option maxHeartbeats 32000000 in
set_option maxRecDepth 100000 in
theorem calcTexts_pc [GlobF Tryd.prog] (hg : MaxLenOK) (hp : PowOK) (he : ErrsOK) (v : Val) (a : Int) (rv : inR v.n) (lv : v.s.length < 9223372036854775808) (ha : 0 ≤ a ∧ a < 65536) : PC Tryd.prog 7 [eV v, .sc (.int .u16 a)] (.sc (.bool true)) := by
  have hal := alive_pc hg hp he
  by_cases mv : MayP v
  · have kv := check_y mv
    have hlen := may_len mv
    have tx : (∃ w, PC Tryd.prog 18 [str txL, .sl none 3 ([v].map vC)] (.tu [eV w, .sc (.bool true), .sc (.int .i64 0)]) ∧ PC Tryd.prog 17 [eV v, str vaL, .sl none 3 ([w].map vC)] (.sc (.bool true)))
        ∨ PC Tryd.prog 18 [str txL, .sl none 3 ([v].map vC)] (.tu [eV zV, .sc (.bool false), .sc (.int .i64 0)]) := by
      by_cases mt : MayP ⟨3, 0, tL v⟩
      · obtain ⟨e1, e2⟩ := parse_text mv rv
        exact .inl ⟨⟨3, 0, tL v⟩, do1_y hp he (by decide) mv rv (by rw [oneP_tx]; exact mv) (oneV_tx v) mt,
          does1_y hp he (by decide) mt (show inR 0 by unfold inR; decide) (by rw [oneP_va]; exact ⟨rfl, e2⟩) (by rw [oneV_va]; exact e1) mv⟩
      · exact .inr (do1_n hp he (by decide) mv rv fun _ => by rw [oneV_tx]; exact mt)
    by_cases hk : v.kind = 3 ∨ v.kind = 4
    · obtain ⟨k, hk1, hkk⟩ := kmod (n := v.s.length) ha.1
      have hne : IntKind.i64.wrap ((v.s.length : Int) + 1) ≠ 0 := by rw [w64 _ (by omega) (by omega)]; omega
      have hkk2 : (IntKind.i64.wrap a).tmod (IntKind.i64.wrap ((v.s.length : Int) + 1)) = k := by rw [w64 _ (by omega) (by omega), w64 _ (by omega) (by omega)]; exact hkk
      have r0 : inR 0 := by unfold inR; decide
      have rk : inR (k : Int) := by unfold inR; omega
      have rl : inR (v.s.length : Int) := by unfold inR; omega
      have ma : MayP ⟨v.kind, 0, v.s.take k⟩ := .inr (.inr (.inr (.inl ⟨hk, rfl, by show (v.s.take k).length ≤ _; rw [List.length_take]; omega⟩)))
      have mb : MayP ⟨v.kind, 0, v.s.drop k⟩ := .inr (.inr (.inr (.inl ⟨hk, rfl, by show (v.s.drop k).length ≤ _; rw [List.length_drop]; omega⟩)))
      have ev : (⟨v.kind, 0, v.s⟩ : Val) = v := by
        obtain ⟨vk, vn, vs⟩ := v
        unfold MayP at mv
        simp only at mv hk ⊢
        rw [show vn = 0 by omega]
      have q1 := do3_y hp he (a := v) (b := nV 0) (c := nV k) (w := ⟨v.kind, 0, v.s.take k⟩) mv (may_n _) (may_n _) rv r0 rk ⟨hk, rfl, rfl, by show (0 : Int) ≤ 0; omega, by show (0 : Int) ≤ k; omega, by show (k : Int) ≤ _; omega⟩
        (by unfold cutV; rw [if_pos ⟨hk, rfl, rfl, by show (0 : Int) ≤ 0; omega, by show (0 : Int) ≤ k; omega, by show (k : Int) ≤ _; omega⟩]; rfl) ma
      have q2 := do3_y hp he (a := v) (b := nV k) (c := nV v.s.length) (w := ⟨v.kind, 0, v.s.drop k⟩) mv (may_n _) (may_n _) rv rk rl ⟨hk, rfl, rfl, by show (0 : Int) ≤ k; omega, by show (k : Int) ≤ v.s.length; omega, Int.le_refl _⟩
        (by unfold cutV; rw [if_pos ⟨hk, rfl, rfl, by show (0 : Int) ≤ k; omega, by show (k : Int) ≤ v.s.length; omega, Int.le_refl _⟩]; show (⟨v.kind, 0, (v.s.take v.s.length).drop k⟩ : Val) = _; rw [List.take_length]) mb
      have q3 := does2_y hp he (s := ctL) (a := ⟨v.kind, 0, v.s.take k⟩) (b := ⟨v.kind, 0, v.s.drop k⟩) (w := v) (by decide) ma mb r0 r0 (by rw [tcP (by decide) (by decide) rfl]; exact ⟨rfl, hk⟩)
        (by rw [tc (by decide) (by decide) rfl]; show (⟨v.kind, 0, v.s.take k ++ v.s.drop k⟩ : Val) = _; rw [List.take_append_drop]; exact ev) mv
      have al : alikeP v ⟨v.kind, 0, v.s.take k⟩ := ⟨rfl, hk.imp id .inl⟩
      have al2 : alikeP v ⟨v.kind, 0, v.s.drop k⟩ := ⟨rfl, hk.imp id .inl⟩
      have q4 := say_of hg true (s := [98, 101, 103, 105, 110, 115]) (by decide) mv ma (by rw [tP_beg]; exact ⟨fun _ => ⟨al, at_beg _ _ hk1⟩, fun _ => rfl⟩)
      have q5 := say_of hg true (s := [101, 110, 100, 115]) (by decide) mv mb (by rw [tP_end]; exact ⟨fun _ => ⟨al2, at_end _ _ hk1⟩, fun _ => rfl⟩)
      have q6 := say_of hg true (s := [104, 97, 115]) (by decide) mv mb (by rw [tP_has]; exact ⟨fun _ => ⟨al2, _, at_end _ _ hk1⟩, fun _ => rfl⟩)
      have q7 := does1_y hp he (s := leL) (a := v) (w := nV v.s.length) (by decide) mv rv (by rw [oneP_le]; exact hk.imp id .inl) (oneV_le v) (may_n _)
      rcases tx with ⟨w, tx1, tx2⟩ | tx1
      · refine PC.of_body Tryd.func7 Tryd.ntmps7 rfl rfl rfl ?_
        repeat' first
          | (apply p1 (hd := rfl); case hop => first | (apply D_move; rfl) | (apply D_assign; rfl) | (apply D_pc hal; rfl; exact .nil) | (apply D_pc kv; rfl; exact .same rfl .nil) | (apply D_pc tx1; rfl; exact .same rfl (.same rfl .nil)) | (apply D_pc tx2; rfl; exact .same rfl (.same rfl (.same rfl .nil))) | (apply D_pc (lnum_pc _); rfl; exact .same rfl .nil) | exact D_sc (D_rem rfl rfl hne) (congrArg _ hkk2) | (apply D_pc q1; rfl; exact .same rfl (.same rfl .nil)) | (apply D_pc q2; rfl; exact .same rfl (.same rfl .nil)) | (apply D_pc q3; rfl; exact .same rfl (.same rfl (.same rfl .nil))) | (apply D_pc q4; rfl; exact .same rfl (.same rfl .nil)) | (apply D_pc q5; rfl; exact .same rfl (.same rfl .nil)) | (apply D_pc q6; rfl; exact .same rfl (.same rfl .nil)) | (apply D_pc q7; rfl; exact .same rfl (.same rfl (.same rfl .nil))) | (apply D_load1; rfl) | (apply D_fld; rfl) | (apply D_pickT; rfl; rfl) | (apply D_pickF; rfl; rfl) | (apply D_int; rfl; rfl; rfl) | (apply D_len_str; rfl) | (apply D_ext; rfl; rfl) | (apply D_not; rfl) | (apply D_loadW; rfl; rfl) | (apply D_loadA; rfl; rfl) | (apply D_box; rfl; rfl) | (apply D_conv_int; rfl) | (apply D_lit; rfl; rfl; rfl; rfl) | exact D_fldB rfl | (apply D_rem; rfl; rfl; first | omega | ((repeat rw [w64 _ (by omega) (by omega)]); omega) | decide))
          | refine W_seq ?_
          | refine W_region ?_
          | (refine idC ?_; first | refine c1 rfl ?_ | refine c0 rfl ?_ | refine cs rfl (fun _ => ?_) (fun _ => ?_))
          | refine WL_nil ?_
          | (refine idG ?_; first | refine g0t rfl rfl rfl ?_ | refine g0f rfl rfl rfl ?_ | refine g0u rfl rfl rfl ?_ | refine gr rfl rfl ?_ | refine gs rfl rfl (fun _ => ?_) (fun _ => ?_) | refine grn rfl rfl ?_)
          | refine tn ?_
          | refine tr ?_
          | refine br ?_
          | refine bn ?_
          | refine te ?_
          | (refine idB ?_; first | refine bh rfl ?_ | refine bm rfl ?_)
          | refine W_skip ?_
          | refine W_block ?_
          | refine W_exit ?_
          | refine W_ret ?_
          | refine W_label ?_
          | refine W_scope ?_
          | refine sn ?_
          | refine sr ?_
          | refine se ?_
          | (refine idR ?_; first | refine ret1 rfl rfl rfl ?_ | refine rL1 rfl (by first | exact trivial | exact ⟨rfl, trivial⟩) (by first | exact ResO.tmp rfl | exact ResO.cellBA rfl rfl rfl | exact ResO.cellB1 rfl rfl rfl | exact ResO.cellEA rfl rfl | exact ResO.cellE1 rfl) ?_)
          | (refine idLd ?_; first | refine p1L (D_loadB1 rfl rfl rfl) rfl ?_ | refine p1L (D_loadBA rfl rfl rfl) rfl ?_ | refine p1L (D_loadB1 rfl (by (repeat first | assumption | exact get_last | (refine get_last2 ?_; focus (simp; done)) | apply get_set | apply get_app | (apply get_ne; focus omega) | (apply get_ne; focus (simp only [List.length_set, List.length_append, List.length_cons, List.length_nil]; omega))); done) (by rfl)) rfl ?_ | refine p1L (D_loadBA rfl (by (repeat first | assumption | exact get_last | (refine get_last2 ?_; focus (simp; done)) | apply get_set | apply get_app | (apply get_ne; focus omega) | (apply get_ne; focus (simp only [List.length_set, List.length_append, List.length_cons, List.length_nil]; omega))); done) (by rfl)) rfl ?_)
          | (refine idA ?_; first | refine m_var rfl rfl rfl rfl rfl rfl rfl ?_ | refine m_alloc rfl ?_)
          | (refine idS ?_; first | refine pS (S_store rfl rfl rfl rfl rfl rfl rfl) ?_ | refine pS (S_store rfl rfl rfl (by (repeat first | assumption | exact get_last | (refine get_last2 ?_; focus (simp; done)) | apply get_set | apply get_app | (apply get_ne; focus omega) | (apply get_ne; focus (simp only [List.length_set, List.length_append, List.length_cons, List.length_nil]; omega))); done) (by rfl) (by rfl) (by rfl)) ?_)
          | refine Le.bool ?_
          | refine Le.int ?_
          | refine Le.str ?_
          | (refine idW ?_; first | refine W_draw0 rfl ?_ | refine W_draw1 rfl ?_ | refine W_draw2 rfl ?_ | refine W_draw3 rfl ?_)
          | (apply d1 (hd := rfl); case hop => first | (apply D_move; rfl) | (apply D_assign; rfl) | (apply D_pc hal; rfl; exact .nil) | (apply D_pc kv; rfl; exact .same rfl .nil) | (apply D_pc tx1; rfl; exact .same rfl (.same rfl .nil)) | (apply D_pc tx2; rfl; exact .same rfl (.same rfl (.same rfl .nil))) | (apply D_pc (lnum_pc _); rfl; exact .same rfl .nil) | exact D_sc (D_rem rfl rfl hne) (congrArg _ hkk2) | (apply D_pc q1; rfl; exact .same rfl (.same rfl .nil)) | (apply D_pc q2; rfl; exact .same rfl (.same rfl .nil)) | (apply D_pc q3; rfl; exact .same rfl (.same rfl (.same rfl .nil))) | (apply D_pc q4; rfl; exact .same rfl (.same rfl .nil)) | (apply D_pc q5; rfl; exact .same rfl (.same rfl .nil)) | (apply D_pc q6; rfl; exact .same rfl (.same rfl .nil)) | (apply D_pc q7; rfl; exact .same rfl (.same rfl (.same rfl .nil))) | (apply D_load1; rfl) | (apply D_fld; rfl) | (apply D_pickT; rfl; rfl) | (apply D_pickF; rfl; rfl) | (apply D_int; rfl; rfl; rfl) | (apply D_len_str; rfl) | (apply D_ext; rfl; rfl) | (apply D_not; rfl) | (apply D_loadW; rfl; rfl) | (apply D_loadA; rfl; rfl) | (apply D_box; rfl; rfl) | (apply D_conv_int; rfl) | (apply D_lit; rfl; rfl; rfl; rfl) | exact D_fldB rfl | (apply D_rem; rfl; rfl; first | omega | ((repeat rw [w64 _ (by omega) (by omega)]); omega) | decide))
          | (refine idDg ?_; first | refine dg0t rfl rfl rfl ?_ | refine dg0f rfl rfl rfl ?_ | refine dg0u rfl rfl rfl ?_ | refine dgr rfl rfl ?_ | refine dgs rfl rfl (fun _ => ?_) (fun _ => ?_))
          | (refine idDn ?_; first | refine dL _ (fun hp' hs => D_loadB1 rfl (hs.trans rfl) rfl) rfl ?_ | refine dL _ (fun hp' hs => D_loadBA rfl (hs.trans rfl) rfl) rfl ?_ | refine dS (S_store rfl rfl rfl rfl rfl rfl rfl) rfl ?_ | refine dV (S_alloc 0 rfl) rfl rfl ?_ | refine dV (S_alloc 1 rfl) rfl rfl ?_ | refine dV (S_alloc 2 rfl) rfl rfl ?_ | refine dV (S_alloc 3 rfl) rfl rfl ?_ | refine dV (S_alloc 4 rfl) rfl rfl ?_ | refine dV (S_alloc 5 rfl) rfl rfl ?_ | refine dV (S_alloc 6 rfl) rfl rfl ?_ | refine dV (S_alloc 7 rfl) rfl rfl ?_)
          | refine WD_nil (by first | decide +kernel | kernel_rfl | rfl) ?_
        all_goals first | rfl | contradiction | (exfalso; omega) | skip
        all_goals trace_state
      · refine PC.of_body Tryd.func7 Tryd.ntmps7 rfl rfl rfl ?_
        repeat' first
          | (apply p1 (hd := rfl); case hop => first | (apply D_move; rfl) | (apply D_assign; rfl) | (apply D_pc hal; rfl; exact .nil) | (apply D_pc kv; rfl; exact .same rfl .nil) | (apply D_pc tx1; rfl; exact .same rfl (.same rfl .nil)) | (apply D_pc (lnum_pc _); rfl; exact .same rfl .nil) | exact D_sc (D_rem rfl rfl hne) (congrArg _ hkk2) | (apply D_pc q1; rfl; exact .same rfl (.same rfl .nil)) | (apply D_pc q2; rfl; exact .same rfl (.same rfl .nil)) | (apply D_pc q3; rfl; exact .same rfl (.same rfl (.same rfl .nil))) | (apply D_pc q4; rfl; exact .same rfl (.same rfl .nil)) | (apply D_pc q5; rfl; exact .same rfl (.same rfl .nil)) | (apply D_pc q6; rfl; exact .same rfl (.same rfl .nil)) | (apply D_pc q7; rfl; exact .same rfl (.same rfl (.same rfl .nil))) | (apply D_load1; rfl) | (apply D_fld; rfl) | (apply D_pickT; rfl; rfl) | (apply D_pickF; rfl; rfl) | (apply D_int; rfl; rfl; rfl) | (apply D_len_str; rfl) | (apply D_ext; rfl; rfl) | (apply D_not; rfl) | (apply D_loadW; rfl; rfl) | (apply D_loadA; rfl; rfl) | (apply D_box; rfl; rfl) | (apply D_conv_int; rfl) | (apply D_lit; rfl; rfl; rfl; rfl) | exact D_fldB rfl | (apply D_rem; rfl; rfl; first | omega | ((repeat rw [w64 _ (by omega) (by omega)]); omega) | decide))
          | refine W_seq ?_
          | refine W_region ?_
          | (refine idC ?_; first | refine c1 rfl ?_ | refine c0 rfl ?_ | refine cs rfl (fun _ => ?_) (fun _ => ?_))
          | refine WL_nil ?_
          | (refine idG ?_; first | refine g0t rfl rfl rfl ?_ | refine g0f rfl rfl rfl ?_ | refine g0u rfl rfl rfl ?_ | refine gr rfl rfl ?_ | refine gs rfl rfl (fun _ => ?_) (fun _ => ?_) | refine grn rfl rfl ?_)
          | refine tn ?_
          | refine tr ?_
          | refine br ?_
          | refine bn ?_
          | refine te ?_
          | (refine idB ?_; first | refine bh rfl ?_ | refine bm rfl ?_)
          | refine W_skip ?_
          | refine W_block ?_
          | refine W_exit ?_
          | refine W_ret ?_
          | refine W_label ?_
          | refine W_scope ?_
          | refine sn ?_
          | refine sr ?_
          | refine se ?_
          | (refine idR ?_; first | refine ret1 rfl rfl rfl ?_ | refine rL1 rfl (by first | exact trivial | exact ⟨rfl, trivial⟩) (by first | exact ResO.tmp rfl | exact ResO.cellBA rfl rfl rfl | exact ResO.cellB1 rfl rfl rfl | exact ResO.cellEA rfl rfl | exact ResO.cellE1 rfl) ?_)
          | (refine idLd ?_; first | refine p1L (D_loadB1 rfl rfl rfl) rfl ?_ | refine p1L (D_loadBA rfl rfl rfl) rfl ?_ | refine p1L (D_loadB1 rfl (by (repeat first | assumption | exact get_last | (refine get_last2 ?_; focus (simp; done)) | apply get_set | apply get_app | (apply get_ne; focus omega) | (apply get_ne; focus (simp only [List.length_set, List.length_append, List.length_cons, List.length_nil]; omega))); done) (by rfl)) rfl ?_ | refine p1L (D_loadBA rfl (by (repeat first | assumption | exact get_last | (refine get_last2 ?_; focus (simp; done)) | apply get_set | apply get_app | (apply get_ne; focus omega) | (apply get_ne; focus (simp only [List.length_set, List.length_append, List.length_cons, List.length_nil]; omega))); done) (by rfl)) rfl ?_)
          | (refine idA ?_; first | refine m_var rfl rfl rfl rfl rfl rfl rfl ?_ | refine m_alloc rfl ?_)
          | (refine idS ?_; first | refine pS (S_store rfl rfl rfl rfl rfl rfl rfl) ?_ | refine pS (S_store rfl rfl rfl (by (repeat first | assumption | exact get_last | (refine get_last2 ?_; focus (simp; done)) | apply get_set | apply get_app | (apply get_ne; focus omega) | (apply get_ne; focus (simp only [List.length_set, List.length_append, List.length_cons, List.length_nil]; omega))); done) (by rfl) (by rfl) (by rfl)) ?_)
          | refine Le.bool ?_
          | refine Le.int ?_
          | refine Le.str ?_
          | (refine idW ?_; first | refine W_draw0 rfl ?_ | refine W_draw1 rfl ?_ | refine W_draw2 rfl ?_ | refine W_draw3 rfl ?_)
          | (apply d1 (hd := rfl); case hop => first | (apply D_move; rfl) | (apply D_assign; rfl) | (apply D_pc hal; rfl; exact .nil) | (apply D_pc kv; rfl; exact .same rfl .nil) | (apply D_pc tx1; rfl; exact .same rfl (.same rfl .nil)) | (apply D_pc (lnum_pc _); rfl; exact .same rfl .nil) | exact D_sc (D_rem rfl rfl hne) (congrArg _ hkk2) | (apply D_pc q1; rfl; exact .same rfl (.same rfl .nil)) | (apply D_pc q2; rfl; exact .same rfl (.same rfl .nil)) | (apply D_pc q3; rfl; exact .same rfl (.same rfl (.same rfl .nil))) | (apply D_pc q4; rfl; exact .same rfl (.same rfl .nil)) | (apply D_pc q5; rfl; exact .same rfl (.same rfl .nil)) | (apply D_pc q6; rfl; exact .same rfl (.same rfl .nil)) | (apply D_pc q7; rfl; exact .same rfl (.same rfl (.same rfl .nil))) | (apply D_load1; rfl) | (apply D_fld; rfl) | (apply D_pickT; rfl; rfl) | (apply D_pickF; rfl; rfl) | (apply D_int; rfl; rfl; rfl) | (apply D_len_str; rfl) | (apply D_ext; rfl; rfl) | (apply D_not; rfl) | (apply D_loadW; rfl; rfl) | (apply D_loadA; rfl; rfl) | (apply D_box; rfl; rfl) | (apply D_conv_int; rfl) | (apply D_lit; rfl; rfl; rfl; rfl) | exact D_fldB rfl | (apply D_rem; rfl; rfl; first | omega | ((repeat rw [w64 _ (by omega) (by omega)]); omega) | decide))
          | (refine idDg ?_; first | refine dg0t rfl rfl rfl ?_ | refine dg0f rfl rfl rfl ?_ | refine dg0u rfl rfl rfl ?_ | refine dgr rfl rfl ?_ | refine dgs rfl rfl (fun _ => ?_) (fun _ => ?_))
          | (refine idDn ?_; first | refine dL _ (fun hp' hs => D_loadB1 rfl (hs.trans rfl) rfl) rfl ?_ | refine dL _ (fun hp' hs => D_loadBA rfl (hs.trans rfl) rfl) rfl ?_ | refine dS (S_store rfl rfl rfl rfl rfl rfl rfl) rfl ?_ | refine dV (S_alloc 0 rfl) rfl rfl ?_ | refine dV (S_alloc 1 rfl) rfl rfl ?_ | refine dV (S_alloc 2 rfl) rfl rfl ?_ | refine dV (S_alloc 3 rfl) rfl rfl ?_ | refine dV (S_alloc 4 rfl) rfl rfl ?_ | refine dV (S_alloc 5 rfl) rfl rfl ?_ | refine dV (S_alloc 6 rfl) rfl rfl ?_ | refine dV (S_alloc 7 rfl) rfl rfl ?_)
          | refine WD_nil (by first | decide +kernel | kernel_rfl | rfl) ?_
        all_goals first | rfl | contradiction | (exfalso; omega) | skip
        all_goals trace_state
    · rcases tx with ⟨w, tx1, tx2⟩ | tx1
      · refine PC.of_body Tryd.func7 Tryd.ntmps7 rfl rfl rfl ?_
        repeat' first
          | (apply p1 (hd := rfl); case hop => first | (apply D_move; rfl) | (apply D_assign; rfl) | (apply D_pc hal; rfl; exact .nil) | (apply D_pc kv; rfl; exact .same rfl .nil) | (apply D_pc tx1; rfl; exact .same rfl (.same rfl .nil)) | (apply D_pc tx2; rfl; exact .same rfl (.same rfl (.same rfl .nil))) | (apply D_load1; rfl) | (apply D_fld; rfl) | (apply D_pickT; rfl; rfl) | (apply D_pickF; rfl; rfl) | (apply D_int; rfl; rfl; rfl) | (apply D_len_str; rfl) | (apply D_ext; rfl; rfl) | (apply D_not; rfl) | (apply D_loadW; rfl; rfl) | (apply D_loadA; rfl; rfl) | (apply D_box; rfl; rfl) | (apply D_conv_int; rfl) | (apply D_lit; rfl; rfl; rfl; rfl) | exact D_fldB rfl | (apply D_rem; rfl; rfl; first | omega | ((repeat rw [w64 _ (by omega) (by omega)]); omega) | decide))
          | refine W_seq ?_
          | refine W_region ?_
          | (refine idC ?_; first | refine c1 rfl ?_ | refine c0 rfl ?_ | refine cs rfl (fun _ => ?_) (fun _ => ?_))
          | refine WL_nil ?_
          | (refine idG ?_; first | refine g0t rfl rfl rfl ?_ | refine g0f rfl rfl rfl ?_ | refine g0u rfl rfl rfl ?_ | refine gr rfl rfl ?_ | refine gs rfl rfl (fun _ => ?_) (fun _ => ?_) | refine grn rfl rfl ?_)
          | refine tn ?_
          | refine tr ?_
          | refine br ?_
          | refine bn ?_
          | refine te ?_
          | (refine idB ?_; first | refine bh rfl ?_ | refine bm rfl ?_)
          | refine W_skip ?_
          | refine W_block ?_
          | refine W_exit ?_
          | refine W_ret ?_
          | refine W_label ?_
          | refine W_scope ?_
          | refine sn ?_
          | refine sr ?_
          | refine se ?_
          | (refine idR ?_; first | refine ret1 rfl rfl rfl ?_ | refine rL1 rfl (by first | exact trivial | exact ⟨rfl, trivial⟩) (by first | exact ResO.tmp rfl | exact ResO.cellBA rfl rfl rfl | exact ResO.cellB1 rfl rfl rfl | exact ResO.cellEA rfl rfl | exact ResO.cellE1 rfl) ?_)
          | (refine idLd ?_; first | refine p1L (D_loadB1 rfl rfl rfl) rfl ?_ | refine p1L (D_loadBA rfl rfl rfl) rfl ?_ | refine p1L (D_loadB1 rfl (by (repeat first | assumption | exact get_last | (refine get_last2 ?_; focus (simp; done)) | apply get_set | apply get_app | (apply get_ne; focus omega) | (apply get_ne; focus (simp only [List.length_set, List.length_append, List.length_cons, List.length_nil]; omega))); done) (by rfl)) rfl ?_ | refine p1L (D_loadBA rfl (by (repeat first | assumption | exact get_last | (refine get_last2 ?_; focus (simp; done)) | apply get_set | apply get_app | (apply get_ne; focus omega) | (apply get_ne; focus (simp only [List.length_set, List.length_append, List.length_cons, List.length_nil]; omega))); done) (by rfl)) rfl ?_)
          | (refine idA ?_; first | refine m_var rfl rfl rfl rfl rfl rfl rfl ?_ | refine m_alloc rfl ?_)
          | (refine idS ?_; first | refine pS (S_store rfl rfl rfl rfl rfl rfl rfl) ?_ | refine pS (S_store rfl rfl rfl (by (repeat first | assumption | exact get_last | (refine get_last2 ?_; focus (simp; done)) | apply get_set | apply get_app | (apply get_ne; focus omega) | (apply get_ne; focus (simp only [List.length_set, List.length_append, List.length_cons, List.length_nil]; omega))); done) (by rfl) (by rfl) (by rfl)) ?_)
          | refine Le.bool ?_
          | refine Le.int ?_
          | refine Le.str ?_
          | (refine idW ?_; first | refine W_draw0 rfl ?_ | refine W_draw1 rfl ?_ | refine W_draw2 rfl ?_ | refine W_draw3 rfl ?_)
          | (apply d1 (hd := rfl); case hop => first | (apply D_move; rfl) | (apply D_assign; rfl) | (apply D_pc hal; rfl; exact .nil) | (apply D_pc kv; rfl; exact .same rfl .nil) | (apply D_pc tx1; rfl; exact .same rfl (.same rfl .nil)) | (apply D_pc tx2; rfl; exact .same rfl (.same rfl (.same rfl .nil))) | (apply D_load1; rfl) | (apply D_fld; rfl) | (apply D_pickT; rfl; rfl) | (apply D_pickF; rfl; rfl) | (apply D_int; rfl; rfl; rfl) | (apply D_len_str; rfl) | (apply D_ext; rfl; rfl) | (apply D_not; rfl) | (apply D_loadW; rfl; rfl) | (apply D_loadA; rfl; rfl) | (apply D_box; rfl; rfl) | (apply D_conv_int; rfl) | (apply D_lit; rfl; rfl; rfl; rfl) | exact D_fldB rfl | (apply D_rem; rfl; rfl; first | omega | ((repeat rw [w64 _ (by omega) (by omega)]); omega) | decide))
          | (refine idDg ?_; first | refine dg0t rfl rfl rfl ?_ | refine dg0f rfl rfl rfl ?_ | refine dg0u rfl rfl rfl ?_ | refine dgr rfl rfl ?_ | refine dgs rfl rfl (fun _ => ?_) (fun _ => ?_))
          | (refine idDn ?_; first | refine dL _ (fun hp' hs => D_loadB1 rfl (hs.trans rfl) rfl) rfl ?_ | refine dL _ (fun hp' hs => D_loadBA rfl (hs.trans rfl) rfl) rfl ?_ | refine dS (S_store rfl rfl rfl rfl rfl rfl rfl) rfl ?_ | refine dV (S_alloc 0 rfl) rfl rfl ?_ | refine dV (S_alloc 1 rfl) rfl rfl ?_ | refine dV (S_alloc 2 rfl) rfl rfl ?_ | refine dV (S_alloc 3 rfl) rfl rfl ?_ | refine dV (S_alloc 4 rfl) rfl rfl ?_ | refine dV (S_alloc 5 rfl) rfl rfl ?_ | refine dV (S_alloc 6 rfl) rfl rfl ?_ | refine dV (S_alloc 7 rfl) rfl rfl ?_)
          | refine WD_nil (by first | decide +kernel | kernel_rfl | rfl) ?_
        all_goals first | rfl | contradiction | (exfalso; omega) | skip
        all_goals trace_state
      · refine PC.of_body Tryd.func7 Tryd.ntmps7 rfl rfl rfl ?_
        repeat' first
          | (apply p1 (hd := rfl); case hop => first | (apply D_move; rfl) | (apply D_assign; rfl) | (apply D_pc hal; rfl; exact .nil) | (apply D_pc kv; rfl; exact .same rfl .nil) | (apply D_pc tx1; rfl; exact .same rfl (.same rfl .nil)) | (apply D_load1; rfl) | (apply D_fld; rfl) | (apply D_pickT; rfl; rfl) | (apply D_pickF; rfl; rfl) | (apply D_int; rfl; rfl; rfl) | (apply D_len_str; rfl) | (apply D_ext; rfl; rfl) | (apply D_not; rfl) | (apply D_loadW; rfl; rfl) | (apply D_loadA; rfl; rfl) | (apply D_box; rfl; rfl) | (apply D_conv_int; rfl) | (apply D_lit; rfl; rfl; rfl; rfl) | exact D_fldB rfl | (apply D_rem; rfl; rfl; first | omega | ((repeat rw [w64 _ (by omega) (by omega)]); omega) | decide))
          | refine W_seq ?_
          | refine W_region ?_
          | (refine idC ?_; first | refine c1 rfl ?_ | refine c0 rfl ?_ | refine cs rfl (fun _ => ?_) (fun _ => ?_))
          | refine WL_nil ?_
          | (refine idG ?_; first | refine g0t rfl rfl rfl ?_ | refine g0f rfl rfl rfl ?_ | refine g0u rfl rfl rfl ?_ | refine gr rfl rfl ?_ | refine gs rfl rfl (fun _ => ?_) (fun _ => ?_) | refine grn rfl rfl ?_)
          | refine tn ?_
          | refine tr ?_
          | refine br ?_
          | refine bn ?_
          | refine te ?_
          | (refine idB ?_; first | refine bh rfl ?_ | refine bm rfl ?_)
          | refine W_skip ?_
          | refine W_block ?_
          | refine W_exit ?_
          | refine W_ret ?_
          | refine W_label ?_
          | refine W_scope ?_
          | refine sn ?_
          | refine sr ?_
          | refine se ?_
          | (refine idR ?_; first | refine ret1 rfl rfl rfl ?_ | refine rL1 rfl (by first | exact trivial | exact ⟨rfl, trivial⟩) (by first | exact ResO.tmp rfl | exact ResO.cellBA rfl rfl rfl | exact ResO.cellB1 rfl rfl rfl | exact ResO.cellEA rfl rfl | exact ResO.cellE1 rfl) ?_)
          | (refine idLd ?_; first | refine p1L (D_loadB1 rfl rfl rfl) rfl ?_ | refine p1L (D_loadBA rfl rfl rfl) rfl ?_ | refine p1L (D_loadB1 rfl (by (repeat first | assumption | exact get_last | (refine get_last2 ?_; focus (simp; done)) | apply get_set | apply get_app | (apply get_ne; focus omega) | (apply get_ne; focus (simp only [List.length_set, List.length_append, List.length_cons, List.length_nil]; omega))); done) (by rfl)) rfl ?_ | refine p1L (D_loadBA rfl (by (repeat first | assumption | exact get_last | (refine get_last2 ?_; focus (simp; done)) | apply get_set | apply get_app | (apply get_ne; focus omega) | (apply get_ne; focus (simp only [List.length_set, List.length_append, List.length_cons, List.length_nil]; omega))); done) (by rfl)) rfl ?_)
          | (refine idA ?_; first | refine m_var rfl rfl rfl rfl rfl rfl rfl ?_ | refine m_alloc rfl ?_)
          | (refine idS ?_; first | refine pS (S_store rfl rfl rfl rfl rfl rfl rfl) ?_ | refine pS (S_store rfl rfl rfl (by (repeat first | assumption | exact get_last | (refine get_last2 ?_; focus (simp; done)) | apply get_set | apply get_app | (apply get_ne; focus omega) | (apply get_ne; focus (simp only [List.length_set, List.length_append, List.length_cons, List.length_nil]; omega))); done) (by rfl) (by rfl) (by rfl)) ?_)
          | refine Le.bool ?_
          | refine Le.int ?_
          | refine Le.str ?_
          | (refine idW ?_; first | refine W_draw0 rfl ?_ | refine W_draw1 rfl ?_ | refine W_draw2 rfl ?_ | refine W_draw3 rfl ?_)
          | (apply d1 (hd := rfl); case hop => first | (apply D_move; rfl) | (apply D_assign; rfl) | (apply D_pc hal; rfl; exact .nil) | (apply D_pc kv; rfl; exact .same rfl .nil) | (apply D_pc tx1; rfl; exact .same rfl (.same rfl .nil)) | (apply D_load1; rfl) | (apply D_fld; rfl) | (apply D_pickT; rfl; rfl) | (apply D_pickF; rfl; rfl) | (apply D_int; rfl; rfl; rfl) | (apply D_len_str; rfl) | (apply D_ext; rfl; rfl) | (apply D_not; rfl) | (apply D_loadW; rfl; rfl) | (apply D_loadA; rfl; rfl) | (apply D_box; rfl; rfl) | (apply D_conv_int; rfl) | (apply D_lit; rfl; rfl; rfl; rfl) | exact D_fldB rfl | (apply D_rem; rfl; rfl; first | omega | ((repeat rw [w64 _ (by omega) (by omega)]); omega) | decide))
          | (refine idDg ?_; first | refine dg0t rfl rfl rfl ?_ | refine dg0f rfl rfl rfl ?_ | refine dg0u rfl rfl rfl ?_ | refine dgr rfl rfl ?_ | refine dgs rfl rfl (fun _ => ?_) (fun _ => ?_))
          | (refine idDn ?_; first | refine dL _ (fun hp' hs => D_loadB1 rfl (hs.trans rfl) rfl) rfl ?_ | refine dL _ (fun hp' hs => D_loadBA rfl (hs.trans rfl) rfl) rfl ?_ | refine dS (S_store rfl rfl rfl rfl rfl rfl rfl) rfl ?_ | refine dV (S_alloc 0 rfl) rfl rfl ?_ | refine dV (S_alloc 1 rfl) rfl rfl ?_ | refine dV (S_alloc 2 rfl) rfl rfl ?_ | refine dV (S_alloc 3 rfl) rfl rfl ?_ | refine dV (S_alloc 4 rfl) rfl rfl ?_ | refine dV (S_alloc 5 rfl) rfl rfl ?_ | refine dV (S_alloc 6 rfl) rfl rfl ?_ | refine dV (S_alloc 7 rfl) rfl rfl ?_)
          | refine WD_nil (by first | decide +kernel | kernel_rfl | rfl) ?_
        all_goals first | rfl | contradiction | (exfalso; omega) | skip
        all_goals trace_state
  · have kv := check_n lv mv
    refine PC.of_body Tryd.func7 Tryd.ntmps7 rfl rfl rfl ?_
    repeat' first
      | (apply p1 (hd := rfl); case hop => first | (apply D_move; rfl) | (apply D_assign; rfl) | (apply D_pc hal; rfl; exact .nil) | (apply D_pc kv; rfl; exact .same rfl .nil) | (apply D_load1; rfl) | (apply D_fld; rfl) | (apply D_pickT; rfl; rfl) | (apply D_pickF; rfl; rfl) | (apply D_int; rfl; rfl; rfl) | (apply D_len_str; rfl) | (apply D_ext; rfl; rfl) | (apply D_not; rfl) | (apply D_loadW; rfl; rfl) | (apply D_loadA; rfl; rfl) | (apply D_box; rfl; rfl) | (apply D_conv_int; rfl) | (apply D_lit; rfl; rfl; rfl; rfl) | exact D_fldB rfl | (apply D_rem; rfl; rfl; first | omega | ((repeat rw [w64 _ (by omega) (by omega)]); omega) | decide))
      | refine W_seq ?_
      | refine W_region ?_
      | (refine idC ?_; first | refine c1 rfl ?_ | refine c0 rfl ?_ | refine cs rfl (fun _ => ?_) (fun _ => ?_))
      | refine WL_nil ?_
      | (refine idG ?_; first | refine g0t rfl rfl rfl ?_ | refine g0f rfl rfl rfl ?_ | refine g0u rfl rfl rfl ?_ | refine gr rfl rfl ?_ | refine gs rfl rfl (fun _ => ?_) (fun _ => ?_) | refine grn rfl rfl ?_)
      | refine tn ?_
      | refine tr ?_
      | refine br ?_
      | refine bn ?_
      | refine te ?_
      | (refine idB ?_; first | refine bh rfl ?_ | refine bm rfl ?_)
      | refine W_skip ?_
      | refine W_block ?_
      | refine W_exit ?_
      | refine W_ret ?_
      | refine W_label ?_
      | refine W_scope ?_
      | refine sn ?_
      | refine sr ?_
      | refine se ?_
      | (refine idR ?_; first | refine ret1 rfl rfl rfl ?_ | refine rL1 rfl (by first | exact trivial | exact ⟨rfl, trivial⟩) (by first | exact ResO.tmp rfl | exact ResO.cellBA rfl rfl rfl | exact ResO.cellB1 rfl rfl rfl | exact ResO.cellEA rfl rfl | exact ResO.cellE1 rfl) ?_)
      | (refine idLd ?_; first | refine p1L (D_loadB1 rfl rfl rfl) rfl ?_ | refine p1L (D_loadBA rfl rfl rfl) rfl ?_ | refine p1L (D_loadB1 rfl (by (repeat first | assumption | exact get_last | (refine get_last2 ?_; focus (simp; done)) | apply get_set | apply get_app | (apply get_ne; focus omega) | (apply get_ne; focus (simp only [List.length_set, List.length_append, List.length_cons, List.length_nil]; omega))); done) (by rfl)) rfl ?_ | refine p1L (D_loadBA rfl (by (repeat first | assumption | exact get_last | (refine get_last2 ?_; focus (simp; done)) | apply get_set | apply get_app | (apply get_ne; focus omega) | (apply get_ne; focus (simp only [List.length_set, List.length_append, List.length_cons, List.length_nil]; omega))); done) (by rfl)) rfl ?_)
      | (refine idA ?_; first | refine m_var rfl rfl rfl rfl rfl rfl rfl ?_ | refine m_alloc rfl ?_)
      | (refine idS ?_; first | refine pS (S_store rfl rfl rfl rfl rfl rfl rfl) ?_ | refine pS (S_store rfl rfl rfl (by (repeat first | assumption | exact get_last | (refine get_last2 ?_; focus (simp; done)) | apply get_set | apply get_app | (apply get_ne; focus omega) | (apply get_ne; focus (simp only [List.length_set, List.length_append, List.length_cons, List.length_nil]; omega))); done) (by rfl) (by rfl) (by rfl)) ?_)
      | refine Le.bool ?_
      | refine Le.int ?_
      | refine Le.str ?_
      | (refine idW ?_; first | refine W_draw0 rfl ?_ | refine W_draw1 rfl ?_ | refine W_draw2 rfl ?_ | refine W_draw3 rfl ?_)
      | (apply d1 (hd := rfl); case hop => first | (apply D_move; rfl) | (apply D_assign; rfl) | (apply D_pc hal; rfl; exact .nil) | (apply D_pc kv; rfl; exact .same rfl .nil) | (apply D_load1; rfl) | (apply D_fld; rfl) | (apply D_pickT; rfl; rfl) | (apply D_pickF; rfl; rfl) | (apply D_int; rfl; rfl; rfl) | (apply D_len_str; rfl) | (apply D_ext; rfl; rfl) | (apply D_not; rfl) | (apply D_loadW; rfl; rfl) | (apply D_loadA; rfl; rfl) | (apply D_box; rfl; rfl) | (apply D_conv_int; rfl) | (apply D_lit; rfl; rfl; rfl; rfl) | exact D_fldB rfl | (apply D_rem; rfl; rfl; first | omega | ((repeat rw [w64 _ (by omega) (by omega)]); omega) | decide))
      | (refine idDg ?_; first | refine dg0t rfl rfl rfl ?_ | refine dg0f rfl rfl rfl ?_ | refine dg0u rfl rfl rfl ?_ | refine dgr rfl rfl ?_ | refine dgs rfl rfl (fun _ => ?_) (fun _ => ?_))
      | (refine idDn ?_; first | refine dL _ (fun hp' hs => D_loadB1 rfl (hs.trans rfl) rfl) rfl ?_ | refine dL _ (fun hp' hs => D_loadBA rfl (hs.trans rfl) rfl) rfl ?_ | refine dS (S_store rfl rfl rfl rfl rfl rfl rfl) rfl ?_ | refine dV (S_alloc 0 rfl) rfl rfl ?_ | refine dV (S_alloc 1 rfl) rfl rfl ?_ | refine dV (S_alloc 2 rfl) rfl rfl ?_ | refine dV (S_alloc 3 rfl) rfl rfl ?_ | refine dV (S_alloc 4 rfl) rfl rfl ?_ | refine dV (S_alloc 5 rfl) rfl rfl ?_ | refine dV (S_alloc 6 rfl) rfl rfl ?_ | refine dV (S_alloc 7 rfl) rfl rfl ?_)
      | refine WD_nil (by first | decide +kernel | kernel_rfl | rfl) ?_
    all_goals first | rfl | contradiction | (exfalso; omega)
end Go.Proofs
