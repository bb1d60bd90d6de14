/- Contracts of the statements: CalcNames. -/
import Derived.Test.YtaphfieahcimcaaDoorQD10
namespace Go.Proofs
open Go.AL
attribute [local irreducible] Go.AL.W Go.AL.WL Go.AL.WD Go.AL.POp Go.AL.PPOp Go.AL.POpS Go.AL.PC Go.AL.AC Go.AL.YW Go.AL.Ret Go.AL.Le Go.AL.thn Go.AL.inBlk Go.AL.scp

abbrev loN : Int := -9223372036854775808
abbrev hiN : Int := 9223372036854775807
abbrev neL : List UInt8 := [110, 101, 103]
abbrev abL : List UInt8 := [97, 98, 115]
abbrev moL : List UInt8 := [109, 111, 100]
abbrev kiL : List UInt8 := [107, 105, 110, 100]
abbrev beL : List UInt8 := [98, 101, 103, 105, 110, 115]
abbrev enL : List UInt8 := [101, 110, 100, 115]
abbrev haL : List UInt8 := [104, 97, 115]
abbrev naL : List UInt8 := [110, 97, 109, 101]
abbrev usL : List UInt8 := [117, 115, 101, 114]
abbrev unL : List UInt8 := [117, 115, 101, 114, 47, 110, 97, 109, 101]
abbrev tV (s : List UInt8) : Val := ⟨3, 0, s⟩
abbrev wV : Val := ⟨7, 0, unL⟩
abbrev uV : Val := ⟨7, 0, usL⟩
theorem may_t {s : List UInt8} (h : s.length ≤ 1000) : MayP (tV s) := .inr (.inr (.inr (.inl ⟨.inl rfl, rfl, h⟩)))
theorem may_b {s : List UInt8} (h : s.length ≤ 1000) : MayP ⟨4, 0, s⟩ := .inr (.inr (.inr (.inl ⟨.inr rfl, rfl, h⟩)))
theorem may_m (n : Int) : MayP ⟨6, n, []⟩ := .inr (.inl ⟨.inr rfl, rfl⟩)
theorem may_r {n : Int} (h0 : 0 ≤ n) (h1 : n < 9007199254740992) : MayP ⟨5, n, []⟩ := .inr (.inr (.inl ⟨rfl, rfl, h0, h1⟩))
theorem may_w : MayP wV := by
  unfold MayP
  refine .inr (.inr (.inr (.inr ⟨rfl, rfl, ?_⟩)))
  refine ⟨by decide, by decide, ?_⟩
  have : ∀ j : Fin 9, lowP ((unL : List UInt8)[j.val]'(by show _ < 9; exact j.isLt)) ∨ (0 < j.val ∧ tailP ((unL : List UInt8)[j.val]'(by show _ < 9; exact j.isLt))) := by unfold lowP tailP digP; decide
  intro j h
  exact this ⟨j, h⟩
theorem may_u : MayP uV := by
  unfold MayP
  refine .inr (.inr (.inr (.inr ⟨rfl, rfl, ?_⟩)))
  refine ⟨by decide, by decide, ?_⟩
  have : ∀ j : Fin 4, lowP ((usL : List UInt8)[j.val]'(by show _ < 4; exact j.isLt)) ∨ (0 < j.val ∧ tailP ((usL : List UInt8)[j.val]'(by show _ < 4; exact j.isLt))) := by unfold lowP tailP digP; decide
  intro j h
  exact this ⟨j, h⟩
theorem tP_kind (a b : Val) : testP kiL a b = (b.kind = 1 ∧ a.kind = b.n) := by
  unfold testP; rw [if_neg (by decide), if_neg (by decide), if_neg (by decide), if_neg (by decide), if_neg (by decide), if_neg (by decide), if_neg (by decide), if_neg (by decide), if_neg (by decide)]
theorem r0 : inR 0 := by unfold inR; decide
theorem say_t [GlobF Tryd.prog] (hg : MaxLenOK) {s : List UInt8} {x y : Val} (h : s ∈ preds) (hx : MayP x) (hy : MayP y) (hb : testP s x y) : PC Tryd.prog 13 [str s, .sl none 3 ([x, y].map vC)] (.sc (.bool true)) :=
  say_of hg true h hx hy ⟨fun _ => hb, fun _ => rfl⟩
theorem say_f [GlobF Tryd.prog] (hg : MaxLenOK) {s : List UInt8} {x y : Val} (h : s ∈ preds) (hx : MayP x) (hy : MayP y) (hb : ¬ testP s x y) : PC Tryd.prog 13 [str s, .sl none 3 ([x, y].map vC)] (.sc (.bool false)) :=
  say_of hg false h hx hy ⟨fun e => (by cases e), fun e => absurd e hb⟩
theorem none2_y [GlobF Tryd.prog] (hp : PowOK) (he : ErrsOK) {s : List UInt8} {a b : Val} (hs : s ∈ twos) (ma : MayP a) (mb : MayP b) (ra : inR a.n) (rb : inR b.n) (h : ¬ twoP s a b) :
    PC Tryd.prog 16 [str s, .sl none 3 ([a, b].map vC)] (.sc (.bool true)) := by
  have g := none_pc hp he s [a, b] (by show 2 < _; decide) (inD2 (by have := may_len ma; omega) (by have := may_len mb; omega) ra rb)
  rwa [← dP_T (show noneP s [a, b] from ⟨fun e => h e.2.1, right_two2 hs ma mb⟩)] at g
theorem none1_y [GlobF Tryd.prog] (hp : PowOK) (he : ErrsOK) {s : List UInt8} {a : Val} (hs : s ∈ ones) (ma : MayP a) (ra : inR a.n) (h : ¬ oneP s a) :
    PC Tryd.prog 16 [str s, .sl none 3 ([a].map vC)] (.sc (.bool true)) := by
  have g := none_pc hp he s [a] (by show 1 < _; decide) (in1 (by have := may_len ma; omega) ra)
  rwa [← dP_T (show noneP s [a] from ⟨fun e => h e.2.1, right_one1 hs ma⟩)] at g
theorem none3_y [GlobF Tryd.prog] (hp : PowOK) (he : ErrsOK) {a b c : Val} (ma : MayP a) (mb : MayP b) (mc : MayP c) (ra : inR a.n) (rb : inR b.n) (rc : inR c.n) (h : ¬ cutP a b c) :
    PC Tryd.prog 16 [str subL, .sl none 3 ([a, b, c].map vC)] (.sc (.bool true)) := by
  have g := none_pc hp he subL [a, b, c] (by show 3 < _; decide) (in3 (by have := may_len ma; omega) (by have := may_len mb; omega) (by have := may_len mc; omega) ra rb rc)
  rwa [← dP_T (show noneP subL [a, b, c] from ⟨fun e => h e.2.1, right_sub ma mb mc⟩)] at g
theorem does3_y [GlobF Tryd.prog] (hp : PowOK) (he : ErrsOK) {a b c w : Val} (ma : MayP a) (mb : MayP b) (mc : MayP c) (ra : inR a.n) (rb : inR b.n) (rc : inR c.n) (h : cutP a b c) (hv : cutV a b c = w) (mw : MayP w) :
    PC Tryd.prog 17 [eV w, str subL, .sl none 3 ([a, b, c].map vC)] (.sc (.bool true)) := by
  have g := does_pc hp he w subL [a, b, c] (by show 3 < _; decide) (in3 (by have := may_len ma; omega) (by have := may_len mb; omega) (by have := may_len mc; omega) ra rb rc)
  rwa [← dP_T (show doesP w subL [a, b, c] from do3_d ma mb mc h hv mw)] at g
theorem do_e [GlobF Tryd.prog] (hp : PowOK) (he : ErrsOK) {s : List UInt8} {l : List Val} {e : Int} (hl : l.length < 4611686018427387904) (hs : ∀ v, v ∈ l → v.s.length < 134217728 ∧ inR v.n) (h : rightI s l false = e) (h0 : e ≠ 0) :
    PC Tryd.prog 18 [str s, .sl none 3 (l.map vC)] (.tu [eV zV, .sc (.bool false), .sc (.int .i64 e)]) := by
  have g := do_pc hp he s l hl hs
  have d1 : ¬ doP s l := fun e1 => h0 (h.symm.trans e1.1)
  rwa [← dP_F d1, doV_z d1, h] at g
theorem test_e [GlobF Tryd.prog] (hg : MaxLenOK) {s : List UInt8} {l : List Val} {e : Int} (hl : l.length < 4611686018427387904) (hs : ∀ v, v ∈ l → v.s.length < 4294967281) (h : rightI s l true = e) (h0 : e ≠ 0) :
    PC Tryd.prog 19 [str s, .sl none 3 (l.map vC)] (.tu [.sc (.bool false), .sc (.int .i64 e)]) := by
  have g := test_pc hg s l hl hs
  rwa [← testB_f (fun e1 => h0 (h.symm.trans e1)), h] at g
theorem knP_t {s : List UInt8} (h : s ∈ preds) : knownP s = true := by unfold knownP; rw [dP_t]; exact h
theorem knP_f {s : List UInt8} (h : ¬ s ∈ preds) : knownP s = false := by unfold knownP; rw [dP_f]; exact h
theorem right_np {s : List UInt8} {l : List Val} (h : s ∈ preds) : rightI s l false = 150 := right_150.2 (.inr (.inl (knP_t h)))
theorem right_nt {s : List UInt8} {l : List Val} (h : ¬ s ∈ preds) : rightI s l true = 150 := by unfold rightI; rw [if_pos (.inr (.inl (by rw [knP_f h]; decide)))]
theorem right_n1 {s : List UInt8} {l : List Val} (h : s ∈ twos) (hl : l.length ≠ 2) : rightI s l false = 150 :=
  right_150.2 (.inr (.inr (by unfold knownI; rw [if_pos (.inr h)]; exact fun e => hl (by omega))))
theorem right_k {s : List UInt8} (h : knownK s = false) (l : List Val) : rightI s l false = 150 := right_150.2 (.inl h)
theorem kn_empty : knownK [] = false := by unfold knownK; rw [dP_f]; decide
theorem right_10 {s : List UInt8} {a b : Val} (h : s ∈ twos) (hb : ¬ MayP b) : rightI s [a, b] false = 10 := by
  unfold rightI
  have h1 : knownK s = true := by unfold knownK; rw [dP_t]; exact .inr (.inl h)
  have h2 : knownP s = false := knP_f (twos_not s h)
  have h3 : knownI s = 2 := by unfold knownI; rw [if_pos (.inr h)]
  rw [if_neg (by simp [h1, h2, h3]), if_neg (fun e => hb (e b (by simp)))]
theorem rq_bad {s : List UInt8} {a b : Int} (h1 : s ≠ [43]) (h2 : s ≠ [45]) (h3 : s ≠ [42]) (h : badP a b) : ¬ recP s a b := by rw [recP_d h1 h2 h3]; exact fun e => e h
theorem read5 : readL [33, 53] = some ⟨6, 5, []⟩ := by
  have h : numO [53] = some 5 := numO_iff.2 ⟨by decide, by decide, by decide +kernel⟩
  simp [readL, h]
theorem no05 : ∀ v, readL [33, 48, 53] = some v → ¬ MayP v := fun v h => by
  rw [readL, if_neg (by decide), if_neg (by decide), if_pos rfl] at h
  unfold numO at h; rw [show pB [48, 53] = false by decide +kernel] at h; cases h
theorem tL7 : tL ⟨5, 7, []⟩ = [64, 55] := by
  rw [tL, if_pos ((mayB_t _).mpr (may_r (by decide) (by decide)))]; simp [textL]; decide +kernel
theorem oneP_na (v : Val) : oneP naL v = (v.kind = 7) := by unfold oneP; rw [if_neg (by decide), if_neg (by decide), if_neg (by decide), if_neg (by decide), if_neg (by decide), if_neg (by decide), if_neg (by decide)]
theorem oneV_na (v : Val) : oneV naL v = ⟨3, 0, v.s⟩ := by unfold oneV; rw [if_neg (by decide), if_neg (by decide), if_neg (by decide), if_neg (by decide), if_neg (by decide), if_neg (by decide), if_neg (by decide)]
theorem oneP_ne (v : Val) : oneP neL v = (v.kind = 1 ∧ v.n ≠ -9223372036854775808) := by unfold oneP; rw [if_pos rfl]
theorem oneP_ab (v : Val) : oneP abL v = (v.kind = 1 ∧ v.n ≠ -9223372036854775808) := by unfold oneP; rw [if_neg (by decide), if_pos rfl]

set_option maxHeartbeats 64000000 in
set_option maxRecDepth 100000 in
theorem calcNames_pc [GlobF Tryd.prog] (hg : MaxLenOK) (hp : PowOK) (he : ErrsOK) : PC Tryd.prog 4 [] (.sc (.bool true)) := by
  have hal := alive_pc hg hp he
  have rlo : inR loN := by unfold inR; decide
  have rhi : inR hiN := by unfold inR; decide
  have r1 : inR 1 := by unfold inR; decide
  have r2 : inR 2 := by unfold inR; decide
  have r3 : inR 3 := by unfold inR; decide
  have r4 : inR 4 := by unfold inR; decide
  have rm : inR (-1) := by unfold inR; decide
  have ta : MayP (tV [97]) := may_t (by decide)
  have tabc : MayP (tV [97, 98, 99]) := may_t (by decide)
  have tbc : MayP (tV [98, 99]) := may_t (by decide)
  have tc1 : MayP (tV [99]) := may_t (by decide)
  have tus : MayP (tV usL) := may_t (by decide)
  have t0 : MayP (tV []) := may_t (by decide)
  have ss1 := say_t hg (s := beL) (by decide) may_w may_u (by rw [tP_beg]; exact ⟨⟨rfl, .inr (.inr rfl)⟩, by unfold atP; decide⟩)
  have ss2 := say_f hg (s := beL) (by decide) may_w tus (by rw [tP_beg]; exact fun e => absurd e.1.1 (by decide))
  have ss3 := say_t hg (s := kiL) (by decide) may_w (may_n 7) (by rw [tP_kind]; exact ⟨rfl, rfl⟩)
  have ss4 := say_f hg (s := kiL) (by decide) may_w (may_m 7) (by rw [tP_kind]; exact fun e => absurd e.1 (by decide))
  have ss5 := say_t hg (s := haL) (by decide) tabc t0 (by rw [tP_has]; exact ⟨⟨rfl, .inl rfl⟩, 0, by unfold atP; decide⟩)
  have ss6 := say_t hg (s := enL) (by decide) tabc tbc (by rw [tP_end]; exact ⟨⟨rfl, .inl rfl⟩, by unfold atP; decide⟩)
  have ss7 := say_f hg (s := enL) (by decide) tc1 tbc (by rw [tP_end]; exact fun e => absurd e.2 (by unfold atP; decide))
  have nn1 := none2_y hp he (s := [43]) (a := nV hiN) (b := nV 1) (by decide) (may_n _) (may_n _) rhi r1 (by rw [rq_p (by decide) (by decide) (by decide), recP_add]; unfold inR; decide)
  have nn2 := none2_y hp he (s := [45]) (a := nV loN) (b := nV 1) (by decide) (may_n _) (may_n _) rlo r1 (by rw [rq_p (by decide) (by decide) (by decide), recP_sub]; unfold inR; decide)
  have nn3 := none2_y hp he (s := [42]) (a := nV loN) (b := nV (-1)) (by decide) (may_n _) (may_n _) rlo rm (by rw [rq_p (by decide) (by decide) (by decide), recP_mul]; unfold inR; decide)
  have nn4 := none2_y hp he (s := [42]) (a := nV (-1)) (b := nV loN) (by decide) (may_n _) (may_n _) rm rlo (by rw [rq_p (by decide) (by decide) (by decide), recP_mul]; unfold inR; decide)
  have nn5 := none2_y hp he (s := [47]) (a := nV loN) (b := nV (-1)) (by decide) (may_n _) (may_n _) rlo rm (by rw [rq_p (by decide) (by decide) (by decide)]; exact rq_bad (by decide) (by decide) (by decide) (.inr ⟨rfl, rfl⟩))
  have nn6 := none2_y hp he (s := moL) (a := nV loN) (b := nV (-1)) (by decide) (may_n _) (may_n _) rlo rm (by rw [rq_p (by decide) (by decide) (by decide)]; exact rq_bad (by decide) (by decide) (by decide) (.inr ⟨rfl, rfl⟩))
  have nn7 := none2_y hp he (s := [47]) (a := nV 1) (b := nV 0) (by decide) (may_n _) (may_n _) r1 r0 (by rw [rq_p (by decide) (by decide) (by decide)]; exact rq_bad (by decide) (by decide) (by decide) (.inl rfl))
  have nn8 := none1_y hp he (s := neL) (a := nV loN) (by decide) (may_n _) rlo (by rw [oneP_ne]; exact fun e => e.2 rfl)
  have nn9 := none1_y hp he (s := abL) (a := nV loN) (by decide) (may_n _) rlo (by rw [oneP_ab]; exact fun e => e.2 rfl)
  have dd1 := ds_y hp he (s := [45]) (a := -1) (b := hiN) (n := loN) rm rhi (by decide) (by decide) (by decide) (by decide) (by rw [recP_sub]; unfold inR; decide) ((recN_sub (by unfold inR; decide)).trans (by decide))
  have dd2 := ds_y hp he (s := [42]) (a := loN) (b := 1) (n := loN) rlo r1 (by decide) (by decide) (by decide) (by decide) (by rw [recP_mul]; unfold inR; decide) ((recN_mul (by unfold inR; decide)).trans (by decide))
  have dd3 := does3_y hp he (a := tV [97, 98, 99]) (b := nV 1) (c := nV 3) (w := tV [98, 99]) tabc (may_n _) (may_n _) r0 r1 r3 ⟨.inl rfl, rfl, rfl, by decide, by decide, by decide⟩ (by unfold cutV; rw [if_pos ⟨.inl rfl, rfl, rfl, by decide, by decide, by decide⟩]; rfl) tbc
  have nn10 := none3_y hp he (a := tV [97, 98, 99]) (b := nV 2) (c := nV 1) tabc (may_n _) (may_n _) r0 r2 r1 (fun e => absurd e.2.2.2.2.1 (by decide))
  have nn11 := none3_y hp he (a := tV [97, 98, 99]) (b := nV 0) (c := nV 4) tabc (may_n _) (may_n _) r0 r0 r4 (fun e => absurd e.2.2.2.2.2 (by decide))
  have nn12 := none2_y hp he (s := ctL) (a := tV [97]) (b := ⟨4, 0, [98]⟩) (by decide) ta (may_b (by decide)) r0 r0 (by rw [tcP (by decide) (by decide) rfl]; exact fun e => absurd e.1 (by decide))
  have dd4 := does1_y hp he (s := txL) (a := ⟨5, 7, []⟩) (w := tV [64, 55]) (by decide) (may_r (by decide) (by decide)) (by show inR 7; unfold inR; decide) (by rw [oneP_tx]; exact may_r (by decide) (by decide)) (by rw [oneV_tx, tL7]) (may_t (by decide))
  have dd5 := does1_y hp he (s := vaL) (a := tV [33, 53]) (w := ⟨6, 5, []⟩) (by decide) (may_t (by decide)) r0 (by rw [oneP_va]; exact ⟨rfl, (parse_ok read5 (may_m 5)).2⟩) (by rw [oneV_va]; exact (parse_ok read5 (may_m 5)).1) (may_m _)
  have nn13 := none1_y hp he (s := vaL) (a := tV [33, 48, 53]) (by decide) (may_t (by decide)) r0 (by rw [oneP_va]; exact fun e => absurd ((parse_no no05).2.symm.trans e.2) (by decide))
  have dd6 := does1_y hp he (s := naL) (a := wV) (w := tV unL) (by decide) may_w r0 (by rw [oneP_na]) (by rw [oneV_na]) (may_t (by decide))
  have dd7 := does1_y hp he (s := leL) (a := wV) (w := nV 9) (by decide) may_w r0 (by rw [oneP_le]; exact .inr (.inr rfl)) (oneV_le wV) (may_n _)
  have ee1 := do_e hp he (s := [60]) (l := [nV 1, nV 2]) (by decide) (inN r1 r2) (right_np (by decide)) (by decide)
  have ee2 := test_e hg (s := [43]) (l := [nV 1, nV 2]) (by decide) (len2 (by decide) (by decide)) (right_nt (by decide)) (by decide)
  have ee3 := do_e hp he (s := [43]) (l := [nV 1]) (by decide) (in1 (by decide) r1) (right_n1 (by decide) (by decide)) (by decide)
  have ee4 := do_e hp he (s := [43]) (l := [nV 1, ⟨9, 0, []⟩]) (by decide) (inD2 (by decide) (by decide) r1 r0) (right_10 (by decide) (by simp [MayP])) (by decide)
  have ee5 := do_e hp he (s := []) (l := []) (by decide) (fun v h => absurd h (by simp)) (right_k kn_empty _) (by decide)
  refine PC.of_body Tryd.func4 Tryd.ntmps4 rfl rfl rfl ?_
  repeat' first
    | (apply p1 (hd := rfl); case hop => first | (apply D_move; rfl) | (apply D_assign; rfl) | (apply D_pc hal; rfl; exact .nil) | (apply D_pc (lnum_pc _); rfl; exact .same rfl .nil) | (apply D_pc (ltext_pc _); rfl; exact .same rfl .nil) | (apply D_pc ss1; rfl; exact .same rfl (.same rfl .nil)) | (apply D_pc ss2; rfl; exact .same rfl (.same rfl .nil)) | (apply D_pc ss3; rfl; exact .same rfl (.same rfl .nil)) | (apply D_pc ss4; rfl; exact .same rfl (.same rfl .nil)) | (apply D_pc ss5; rfl; exact .same rfl (.same rfl .nil)) | (apply D_pc ss6; rfl; exact .same rfl (.same rfl .nil)) | (apply D_pc ss7; rfl; exact .same rfl (.same rfl .nil)) | (apply D_pc nn1; rfl; exact .same rfl (.same rfl .nil)) | (apply D_pc nn2; rfl; exact .same rfl (.same rfl .nil)) | (apply D_pc nn3; rfl; exact .same rfl (.same rfl .nil)) | (apply D_pc nn4; rfl; exact .same rfl (.same rfl .nil)) | (apply D_pc nn5; rfl; exact .same rfl (.same rfl .nil)) | (apply D_pc nn6; rfl; exact .same rfl (.same rfl .nil)) | (apply D_pc nn7; rfl; exact .same rfl (.same rfl .nil)) | (apply D_pc nn8; rfl; exact .same rfl (.same rfl .nil)) | (apply D_pc nn9; rfl; exact .same rfl (.same rfl .nil)) | (apply D_pc nn10; rfl; exact .same rfl (.same rfl .nil)) | (apply D_pc nn11; rfl; exact .same rfl (.same rfl .nil)) | (apply D_pc nn12; rfl; exact .same rfl (.same rfl .nil)) | (apply D_pc nn13; rfl; exact .same rfl (.same rfl .nil)) | (apply D_pc ee1; rfl; exact .same rfl (.same rfl .nil)) | (apply D_pc ee2; rfl; exact .same rfl (.same rfl .nil)) | (apply D_pc ee3; rfl; exact .same rfl (.same rfl .nil)) | (apply D_pc ee4; rfl; exact .same rfl (.same rfl .nil)) | (apply D_pc ee5; rfl; exact .same rfl (.niln rfl .nil)) | (apply D_pc dd1; rfl; exact .same rfl (.same rfl (.same rfl .nil))) | (apply D_pc dd2; rfl; exact .same rfl (.same rfl (.same rfl .nil))) | (apply D_pc dd3; rfl; exact .same rfl (.same rfl (.same rfl .nil))) | (apply D_pc dd4; rfl; exact .same rfl (.same rfl (.same rfl .nil))) | (apply D_pc dd5; rfl; exact .same rfl (.same rfl (.same rfl .nil))) | (apply D_pc dd6; rfl; exact .same rfl (.same rfl (.same rfl .nil))) | (apply D_pc dd7; rfl; exact .same rfl (.same rfl (.same rfl .nil))) | (apply D_load1; rfl) | (apply D_pickT; rfl; rfl) | (apply D_pickF; rfl; rfl) | (apply D_int; rfl; rfl; rfl) | (apply D_ext; rfl; rfl) | (apply D_not; rfl) | (apply D_loadW; rfl; rfl) | (apply D_loadA; rfl; rfl) | (apply D_lit; rfl; rfl; rfl; rfl) | exact D_build rfl | exact D_buildA rfl)
    | refine W_seq ?_
    | refine W_region ?_
    | refine WL_nil ?_
    | (refine idG ?_; first | refine g0t rfl rfl rfl ?_ | refine g0f rfl rfl rfl ?_ | refine g0u rfl rfl rfl ?_ | refine gr rfl rfl ?_ | refine gs rfl rfl (fun _ => ?_) (fun _ => ?_) | refine grn rfl rfl ?_)
    | refine tn ?_
    | refine tr ?_
    | refine br ?_
    | refine bn ?_
    | refine te ?_
    | (refine idB ?_; first | refine bh rfl ?_ | refine bm rfl ?_)
    | refine W_skip ?_
    | refine W_block ?_
    | refine W_exit ?_
    | refine W_ret ?_
    | refine W_label ?_
    | refine W_scope ?_
    | refine sn ?_
    | refine sr ?_
    | refine se ?_
    | (refine idR ?_; first | refine ret1 rfl rfl rfl ?_ | refine rL1 rfl (by first | exact trivial | exact ⟨rfl, trivial⟩) (by first | exact ResO.tmp rfl | exact ResO.cellBA rfl rfl rfl | exact ResO.cellB1 rfl rfl rfl | exact ResO.cellEA rfl rfl | exact ResO.cellE1 rfl) ?_)
    | (refine idLd ?_; first | refine p1L (D_loadB1 rfl rfl rfl) rfl ?_ | refine p1L (D_loadBA rfl rfl rfl) rfl ?_ | refine p1L (D_loadB1 rfl (by (repeat first | assumption | exact get_last | (refine get_last2 ?_; focus (simp; done)) | apply get_set | apply get_app | (apply get_ne; focus omega) | (apply get_ne; focus (simp only [List.length_set, List.length_append, List.length_cons, List.length_nil]; omega))); done) (by rfl)) rfl ?_ | refine p1L (D_loadBA rfl (by (repeat first | assumption | exact get_last | (refine get_last2 ?_; focus (simp; done)) | apply get_set | apply get_app | (apply get_ne; focus omega) | (apply get_ne; focus (simp only [List.length_set, List.length_append, List.length_cons, List.length_nil]; omega))); done) (by rfl)) rfl ?_)
    | (refine idA ?_; first | refine m_var rfl rfl rfl rfl rfl rfl rfl ?_ | refine m_alloc rfl ?_)
    | (refine idS ?_; first | refine pS (S_store rfl rfl rfl rfl rfl rfl rfl) ?_ | refine pS (S_store rfl rfl rfl (by (repeat first | assumption | exact get_last | (refine get_last2 ?_; focus (simp; done)) | apply get_set | apply get_app | (apply get_ne; focus omega) | (apply get_ne; focus (simp only [List.length_set, List.length_append, List.length_cons, List.length_nil]; omega))); done) (by rfl) (by rfl) (by rfl)) ?_)
    | refine Le.bool ?_
    | refine Le.int ?_
    | refine Le.str ?_
    | (refine idW ?_; first | refine W_draw0 rfl ?_ | refine W_draw1 rfl ?_ | refine W_draw2 rfl ?_ | refine W_draw3 rfl ?_)
    | (apply d1 (hd := rfl); case hop => first | (apply D_move; rfl) | (apply D_assign; rfl) | (apply D_pc hal; rfl; exact .nil) | (apply D_pc (lnum_pc _); rfl; exact .same rfl .nil) | (apply D_pc (ltext_pc _); rfl; exact .same rfl .nil) | (apply D_pc ss1; rfl; exact .same rfl (.same rfl .nil)) | (apply D_pc ss2; rfl; exact .same rfl (.same rfl .nil)) | (apply D_pc ss3; rfl; exact .same rfl (.same rfl .nil)) | (apply D_pc ss4; rfl; exact .same rfl (.same rfl .nil)) | (apply D_pc ss5; rfl; exact .same rfl (.same rfl .nil)) | (apply D_pc ss6; rfl; exact .same rfl (.same rfl .nil)) | (apply D_pc ss7; rfl; exact .same rfl (.same rfl .nil)) | (apply D_pc nn1; rfl; exact .same rfl (.same rfl .nil)) | (apply D_pc nn2; rfl; exact .same rfl (.same rfl .nil)) | (apply D_pc nn3; rfl; exact .same rfl (.same rfl .nil)) | (apply D_pc nn4; rfl; exact .same rfl (.same rfl .nil)) | (apply D_pc nn5; rfl; exact .same rfl (.same rfl .nil)) | (apply D_pc nn6; rfl; exact .same rfl (.same rfl .nil)) | (apply D_pc nn7; rfl; exact .same rfl (.same rfl .nil)) | (apply D_pc nn8; rfl; exact .same rfl (.same rfl .nil)) | (apply D_pc nn9; rfl; exact .same rfl (.same rfl .nil)) | (apply D_pc nn10; rfl; exact .same rfl (.same rfl .nil)) | (apply D_pc nn11; rfl; exact .same rfl (.same rfl .nil)) | (apply D_pc nn12; rfl; exact .same rfl (.same rfl .nil)) | (apply D_pc nn13; rfl; exact .same rfl (.same rfl .nil)) | (apply D_pc ee1; rfl; exact .same rfl (.same rfl .nil)) | (apply D_pc ee2; rfl; exact .same rfl (.same rfl .nil)) | (apply D_pc ee3; rfl; exact .same rfl (.same rfl .nil)) | (apply D_pc ee4; rfl; exact .same rfl (.same rfl .nil)) | (apply D_pc ee5; rfl; exact .same rfl (.niln rfl .nil)) | (apply D_pc dd1; rfl; exact .same rfl (.same rfl (.same rfl .nil))) | (apply D_pc dd2; rfl; exact .same rfl (.same rfl (.same rfl .nil))) | (apply D_pc dd3; rfl; exact .same rfl (.same rfl (.same rfl .nil))) | (apply D_pc dd4; rfl; exact .same rfl (.same rfl (.same rfl .nil))) | (apply D_pc dd5; rfl; exact .same rfl (.same rfl (.same rfl .nil))) | (apply D_pc dd6; rfl; exact .same rfl (.same rfl (.same rfl .nil))) | (apply D_pc dd7; rfl; exact .same rfl (.same rfl (.same rfl .nil))) | (apply D_load1; rfl) | (apply D_pickT; rfl; rfl) | (apply D_pickF; rfl; rfl) | (apply D_int; rfl; rfl; rfl) | (apply D_ext; rfl; rfl) | (apply D_not; rfl) | (apply D_loadW; rfl; rfl) | (apply D_loadA; rfl; rfl) | (apply D_lit; rfl; rfl; rfl; rfl) | exact D_build rfl | exact D_buildA rfl)
    | (refine idDg ?_; first | refine dg0t rfl rfl rfl ?_ | refine dg0f rfl rfl rfl ?_ | refine dg0u rfl rfl rfl ?_ | refine dgr rfl rfl ?_ | refine dgs rfl rfl (fun _ => ?_) (fun _ => ?_))
    | (refine idDn ?_; first | refine dL _ (fun hp' hs => D_loadB1 rfl (hs.trans rfl) rfl) rfl ?_ | refine dL _ (fun hp' hs => D_loadBA rfl (hs.trans rfl) rfl) rfl ?_ | refine dS (S_store rfl rfl rfl rfl rfl rfl rfl) rfl ?_ | refine dV (S_alloc 0 rfl) rfl rfl ?_ | refine dV (S_alloc 1 rfl) rfl rfl ?_ | refine dV (S_alloc 2 rfl) rfl rfl ?_ | refine dV (S_alloc 3 rfl) rfl rfl ?_ | refine dV (S_alloc 4 rfl) rfl rfl ?_ | refine dV (S_alloc 5 rfl) rfl rfl ?_ | refine dV (S_alloc 6 rfl) rfl rfl ?_ | refine dV (S_alloc 7 rfl) rfl rfl ?_)
    | refine WD_nil (by first | decide +kernel | kernel_rfl | rfl) ?_
  all_goals first | rfl | contradiction | (rw [iEq_t]; done) | (exfalso; omega) | skip
  all_goals trace_state
end Go.Proofs
