/- The statements SpanTexts and SpanBack. -/
import Derived.Test.YtfnmipagllofiaaDoorUT8
import Derived.Test.YtfnmipagllofiaaDoorOpen
import Derived.SizedLaws
import Derived.Test.YtfnmipagllofiaaDoorUS1
import Derived.Lib.LaidTab
import Derived.MakeChecks
import Derived.LaidSub
namespace Go.Proofs
open Go.AL
attribute [local irreducible] Go.AL.W Go.AL.WL Go.AL.WD Go.AL.POp Go.AL.PPOp Go.AL.POpS Go.AL.PC Go.AL.AC Go.AL.YW Go.AL.Ret Go.AL.Le Go.AL.thn Go.AL.inBlk Go.AL.scp
theorem readL_len (s : List UInt8) : (readL s).length ≤ s.length + 1 := by
  cases h : readS s with
  | none => rw [(read_no h).1]; simp
  | some l =>
    rw [(read_yes h).1]
    have hs := readS_iff.1 h
    by_cases hn : s = noneT
    · have := readS_iff.2 says_none
      rw [← hn, h] at this
      cases this; simp
    · have := (says_of hs hn).2
      have h2 := splS_len s
      rw [this, List.length_map] at h2; exact h2
set_option maxHeartbeats 64000000 in
theorem spanTexts_core [GlobF Tryd.prog] (l : List Sp) (s T : List UInt8) (M : List Sp) (e f : Int) (hl : l.length ≤ 100) (hs : s.length ≤ 3000)
    (f1 : PC Tryd.prog 5 [sl2 l] (.tu [str T, .sc (.int .i64 e)])) (g1 : PC Tryd.prog 6 [sl2 l] (.tu [str T, .sc (.int .i64 e)]))
    (f2 : PC Tryd.prog 7 [str s] (.tu [sl2 M, .sc (.int .i64 f)])) (g2 : PC Tryd.prog 8 [str s] (.tu [sl2 M, .sc (.int .i64 f)]))
    (sm : PC Tryd.prog 9 [sl2 M, sl2 M] (.sc (.bool true))) : PC Tryd.prog 3 [sl2 l, str s] (.sc (.bool true)) := by
  have la : Value.bool (iLt 100 (l.length : Int)) = .bool false := by rw [(iLt_f _ _).mpr (by omega)]
  have lb : Value.bool (iLt 3000 (s.length : Int)) = .bool false := by rw [(iLt_f _ _).mpr (by omega)]
  have e0 : Value.bool (sEq T T) = .bool true := by rw [(sEq_t _ _).mpr rfl]
  have e1 : Value.bool (iEq e e) = .bool true := by rw [(iEq_t _ _).mpr rfl]
  have e2 : Value.bool (iEq f f) = .bool true := by rw [(iEq_t _ _).mpr rfl]
  refine PC.of_body Tryd.func3 Tryd.ntmps3 rfl rfl rfl ?_
  repeat' first
    | (apply p1 (hd := rfl); case hop => first | (apply D_move; rfl) | (apply D_assign; rfl) | exact D_sc (D_int rfl rfl rfl) la | exact D_sc (D_int rfl rfl rfl) lb | exact D_sc (D_int rfl rfl rfl) e1 | exact D_sc (D_int rfl rfl rfl) e2 | exact D_sc (D_str rfl rfl rfl) e0 | (apply D_pc f1; rfl; exact .same rfl .nil) | (apply D_pc g1; rfl; exact .same rfl .nil) | (apply D_pc f2; rfl; exact .same rfl .nil) | (apply D_pc g2; rfl; exact .same rfl .nil) | (apply D_pc sm; rfl; exact .same rfl (.same rfl .nil)) | (apply D_pickT; rfl; rfl) | (apply D_pickF; rfl; rfl) | (apply D_int; rfl; rfl; rfl) | (apply D_lenM; rfl) | (apply D_len_sl; rfl) | (apply D_len_str; rfl) | (apply D_str; rfl; rfl; rfl) | (apply D_ext; rfl; rfl) | (apply D_len_nil; rfl) | (apply D_lenR; rfl))
    | refine W_seq ?_
    | refine W_region ?_
    | (refine idC ?_; first | refine c1 rfl ?_ | refine c0 rfl ?_ | refine cs rfl (fun _ => ?_) (fun _ => ?_))
    | refine WL_nil ?_
    | (refine idG ?_; first | refine g0t rfl rfl rfl ?_ | refine g0f rfl rfl rfl ?_ | refine g0u rfl rfl rfl ?_ | refine gr rfl rfl ?_ | refine gs rfl rfl (fun _ => ?_) (fun _ => ?_) | refine grn rfl rfl ?_)
    | refine tn ?_
    | refine tr ?_
    | refine br ?_
    | refine bn ?_
    | refine te ?_
    | (refine idB ?_; first | refine bh rfl ?_ | refine bm rfl ?_)
    | refine W_skip ?_
    | refine W_block ?_
    | refine W_exit ?_
    | refine W_ret ?_
    | refine W_label ?_
    | refine W_scope ?_
    | refine sn ?_
    | refine sr ?_
    | refine se ?_
    | (refine idR ?_; first | refine ret1 rfl rfl rfl ?_ | refine rL1 rfl (by first | exact trivial | exact ⟨rfl, trivial⟩) (by first | exact ResO.tmp rfl | exact ResO.cellBA rfl rfl rfl | exact ResO.cellB1 rfl rfl rfl | exact ResO.cellEA rfl rfl | exact ResO.cellE1 rfl) ?_)
    | refine Le.bool ?_
    | refine Le.int ?_
    | refine Le.str ?_
  all_goals first | rfl | contradiction | (exfalso; omega) | skip
  all_goals trace_state
theorem rng_of {l : List Sp} (h : rngS l) : rngL l := fun s hs => h s hs
set_option maxHeartbeats 64000000 in
theorem spanTexts_pc [GlobF Tryd.prog] (hp : PowOK) (he : ErrsOK) (hg : MaxLenOK) (l : List Sp) (s : List UInt8) (hr : rngL l) (hll : l.length < 9223372036854775808) : PC Tryd.prog 3 [sl2 l, str s] (.sc (.bool true)) := by
  by_cases hgd : l.length ≤ 100 ∧ s.length ≤ 3000
  · obtain ⟨hl, hs⟩ := hgd
    have f2 := sparse_pc hp he hg s (by omega)
    have g2 := rparse_pc s (by omega)
    have sm := ssame_pc (readL s) (readL s) (by have := readL_len s; omega)
    rw [← dP_T rfl] at sm
    by_cases hset : SetP l
    · have f1 : PC Tryd.prog 5 [sl2 l] (.tu [str (textS l), .sc (.int .i64 0)]) := by
        by_cases h0 : l = []
        · subst h0; exact stext0_pc
        · exact stext_pc hp l (by omega) hr hset h0
      exact spanTexts_core l s _ _ _ _ hl hs f1 (rtext_pc l (by omega) hr hset) f2 g2 sm
    · exact spanTexts_core l s _ _ _ _ hl hs (stextN_pc l (by omega) hset) (rtextN_pc l (by omega) hset) f2 g2 sm
  · refine PC.of_body Tryd.func3 Tryd.ntmps3 rfl rfl rfl ?_
    repeat' first
      | (exfalso; exact hgd ⟨Int.ofNat_le.1 (by assumption), Int.ofNat_le.1 (by assumption)⟩)
      | (apply p1 (hd := rfl); case hop => first | (apply D_move; rfl) | (apply D_assign; rfl) | (apply D_pickT; rfl; rfl) | (apply D_pickF; rfl; rfl) | (apply D_int; rfl; rfl; rfl) | (apply D_lenM; rfl) | (apply D_len_sl; rfl) | (apply D_len_str; rfl) | (apply D_str; rfl; rfl; rfl) | (apply D_ext; rfl; rfl) | (apply D_len_nil; rfl) | (apply D_lenR; rfl))
      | refine W_seq ?_
      | refine W_region ?_
      | (refine idC ?_; first | refine c1 rfl ?_ | refine c0 rfl ?_ | refine cs rfl (fun _ => ?_) (fun _ => ?_))
      | refine WL_nil ?_
      | (refine idG ?_; first | refine g0t rfl rfl rfl ?_ | refine g0f rfl rfl rfl ?_ | refine g0u rfl rfl rfl ?_ | refine gr rfl rfl ?_ | refine gs rfl rfl (fun _ => ?_) (fun _ => ?_) | refine grn rfl rfl ?_)
      | refine tn ?_
      | refine tr ?_
      | refine br ?_
      | refine bn ?_
      | refine te ?_
      | (refine idB ?_; first | refine bh rfl ?_ | refine bm rfl ?_)
      | refine W_skip ?_
      | refine W_block ?_
      | refine W_exit ?_
      | refine W_ret ?_
      | refine W_label ?_
      | refine W_scope ?_
      | refine sn ?_
      | refine sr ?_
      | refine se ?_
      | (refine idR ?_; first | refine ret1 rfl rfl rfl ?_ | refine rL1 rfl (by first | exact trivial | exact ⟨rfl, trivial⟩) (by first | exact ResO.tmp rfl | exact ResO.cellBA rfl rfl rfl | exact ResO.cellB1 rfl rfl rfl | exact ResO.cellEA rfl rfl | exact ResO.cellE1 rfl) ?_)
      | refine Le.bool ?_
      | refine Le.int ?_
      | refine Le.str ?_
    all_goals first | rfl | contradiction | (exfalso; omega) | skip
    all_goals trace_state
end Go.Proofs

namespace Go.AL
end Go.AL

namespace Go.Proofs
open Go.AL
def spOk (s : Sp) : Prop := (Lit.int .i64 s.f).wf = true ∧ (Lit.int .i64 s.t).wf = true
theorem i64_wf0 {n : Int} (h : (Lit.int .i64 n).wf = true) : -9223372036854775808 ≤ n ∧ n ≤ 9223372036854775807 := by
  simp [Lit.wf, IntKind.min, IntKind.max, IntKind.signed, IntKind.bits] at h
  omega
theorem spOk.rng {s : Sp} (h : spOk s) : (loT ≤ s.f ∧ s.f ≤ hiT) ∧ loT ≤ s.t ∧ s.t ≤ hiT := ⟨i64_wf0 h.1, i64_wf0 h.2⟩
instance : Opn Tryd.prog 2 (fun n : Int => [.sc (.int .i64 n)]) (fun n : Int => (Lit.int .i64 n).wf = true) := opn_int Tryd.underlying2
instance : Opn Tryd.prog 3 (fun n : Int => [.sc (.int .i64 n)]) (fun n : Int => (Lit.int .i64 n).wf = true) := opn_int Tryd.underlying3
instance : Opn Tryd.prog 4 (fun b : Bool => [.sc (.bool b)]) (fun _ : Bool => True) := opn_bool Tryd.underlying4
instance : Opn Tryd.prog 5 (fun n : Int => [.sc (.int .u8 n)]) (fun n : Int => (Lit.int .u8 n).wf = true) := opn_int Tryd.underlying5
instance : Opn Tryd.prog 6 (fun n : Int => [.sc (.int .u8 n)]) (fun n : Int => (Lit.int .u8 n).wf = true) := opn_int Tryd.underlying6
instance : Opn Tryd.prog 9 (fun l : List UInt8 => [str l]) (fun l : List UInt8 => l.length ≤ maxLen) := opn_str Tryd.underlying9
instance : Opn Tryd.prog 10 (fun l : List UInt8 => [str l]) (fun l : List UInt8 => l.length ≤ maxLen) := opn_str Tryd.underlying10
instance : Opn Tryd.prog 11 (fun l : List UInt8 => [str l]) (fun l : List UInt8 => l.length ≤ maxLen) := opn_str Tryd.underlying11
instance : Opn Tryd.prog 12 (fun n : Int => [.sc (.int .u64 n)]) (fun n : Int => (Lit.int .u64 n).wf = true) := opn_int Tryd.underlying12
instance : Opn Tryd.prog 21 (fun n : Int => [.sc (.int .i32 n)]) (fun n : Int => (Lit.int .i32 n).wf = true) := opn_int Tryd.underlying21
instance : Opn Tryd.prog 23 (fun n : Int => [.sc (.int .i64 n)]) (fun n : Int => (Lit.int .i64 n).wf = true) := opn_int Tryd.underlying23
instance : Opn Tryd.prog 80 (fun n : Int => [.sc (.int .u64 n)]) (fun n : Int => (Lit.int .u64 n).wf = true) := opn_int Tryd.underlying80
instance : Opn Tryd.prog 93 (fun n : Int => [.sc (.int .u64 n)]) (fun n : Int => (Lit.int .u64 n).wf = true) := opn_int Tryd.underlying93
instance : Opn Tryd.prog 94 (fun n : Int => [.sc (.int .i64 n)]) (fun n : Int => (Lit.int .i64 n).wf = true) := opn_int Tryd.underlying94
instance : Opn Tryd.prog 105 (fun n : Int => [.sc (.int .u32 n)]) (fun n : Int => (Lit.int .u32 n).wf = true) := opn_int Tryd.underlying105
instance : Opn Tryd.prog 117 (fun n : Int => [.sc (.int .i64 n)]) (fun n : Int => (Lit.int .i64 n).wf = true) := opn_int Tryd.underlying117
instance : Opn Tryd.prog 132 (fun n : Int => [.sc (.int .u64 n)]) (fun n : Int => (Lit.int .u64 n).wf = true) := opn_int Tryd.underlying132
instance : Opn Tryd.prog 149 (fun n : Int => [.sc (.int .u8 n)]) (fun n : Int => (Lit.int .u8 n).wf = true) := opn_int Tryd.underlying149
instance : Opn Tryd.prog 150 (fun n : Int => [.sc (.int .u8 n)]) (fun n : Int => (Lit.int .u8 n).wf = true) := opn_int Tryd.underlying150
instance : Opn Tryd.prog 152 (fun n : Int => [.sc (.int .i32 n)]) (fun n : Int => (Lit.int .i32 n).wf = true) := opn_int Tryd.underlying152
instance : Opn Tryd.prog 153 (fun n : Int => [.sc (.int .i32 n)]) (fun n : Int => (Lit.int .i32 n).wf = true) := opn_int Tryd.underlying153
instance : Opn Tryd.prog 38 sC spOk := ⟨fun {H en w base spare held fuel cs x} hsp h => by
  obtain ⟨xs, n, rfl, rfl, hl, hn, hf⟩ := DataW.trod_struct Tryd.underlying38 h
  have hn' : xs.length = 2 := hn
  obtain ⟨a0, c0, k0⟩ := fld_open (ft := 2) (o := 0) hsp (hf 0 _ rfl) (by omega)
  obtain ⟨a1, c1, k1⟩ := fld_open (ft := 2) (o := 1) hsp (hf 1 _ rfl) (by omega)
  exact ⟨Sp.mk a0 a1, (fl_cons c0 (fl_cons c1 (fl_nil (by rw [hl, Cel.h (P := Tryd.prog) (t := 38)]; exact Nat.le_refl _)))), ⟨k0, k1⟩⟩⟩
instance : Opn Tryd.prog 22 (fun l : List Sp => [.sl none 2 (l.map sC)]) (fun l : List Sp => l.length ≤ maxLen ∧ ∀ a, a ∈ l → spOk a) := opn_slice Tryd.underlying22 (fun _ => rfl) (by decide)
end Go.Proofs

namespace Go.AL
open Go.Lib
end Go.AL

namespace Go.AL
open Go.Lib
theorem laid_one {P : Program} {l : List (String × DataW Unit)} {w : World} (keep : String × DataW Unit → Bool) {name : String} {d : DataW Unit} (h : laidMetH P l w) (hf : l.filter keep = [(name, d)]) (hn : d.handleName?.isNone = true) : laidMet P [(name, d)] w := by
  have h1 := h.filter keep
  rw [hf, Go.MakeChecks.laidMetH_plain _ _ _ (by simp [hn])] at h1
  exact h1
theorem obj_of_tab {P : Program} {W : World} {name : String} {k : IntKind} {zs : List Int} {g : Nat} (hg : P.globalNamed name = some g) (h : TabIs P W name k zs) : ∃ t fz, W.heap[g]? = some (.cells (zs.map (Value.int k)).toArray t fz) := by
  unfold TabIs World.var? at h
  rw [hg] at h
  simp only [Option.bind_some] at h
  split at h
  · rename_i cs t fz hh
    cases h
    exact ⟨t, fz, hh⟩
  · cases h
theorem cell_of_iface {P : Program} {W : World} {name tn : String} {d : DataW Unit} {rest : List (String × DataW Unit)} {g : Nat} {t : TypeId} {ms : Array (String × TypeId)}
    (hg : P.globalNamed name = some g) (hty : (P.globals[g]?).map (·.type) = some t) (ht : P.underlying t = some (.interface ms))
    (h : laidMet P ((name, .iface tn d) :: rest) W) : ∃ u v, W.cell? ⟨g, 0, none⟩ = some (.iface u v) := by
  obtain ⟨ps, ⟨g', t', cs, fuel, p, q, hg', ht', hvar, hd, _, _⟩, _⟩ := h
  obtain rfl := Option.some.inj (hg.symm.trans hg')
  obtain rfl := Option.some.inj (hty.symm.trans ht')
  cases fuel with
  | zero => simp [DataW.trod] at hd
  | succ fuel =>
    have hcs : ∃ u v, cs = #[.iface u v] := by
      obtain ⟨l⟩ := cs
      simp only at hd
      unfold DataW.trod at hd
      rw [ht] at hd
      split at hd <;> simp_all
    obtain ⟨u, v, rfl⟩ := hcs
    exact ⟨u, v, by have := World.var?_cell hg hvar 0; simpa using this⟩
end Go.AL
