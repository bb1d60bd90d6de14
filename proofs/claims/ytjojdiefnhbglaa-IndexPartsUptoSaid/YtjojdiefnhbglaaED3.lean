
/- Contracts of the document's datoms: keys, prefixes, sorted; how two stand. -/
import Derived.Test.YtjojdiefnhbglaaED2
namespace Go.Proofs
open Go.AL Go.Sort
attribute [local irreducible] Go.AL.W Go.AL.WL Go.AL.WD Go.AL.POp Go.AL.PPOp Go.AL.POpS Go.AL.PC Go.AL.AC Go.AL.YW Go.AL.Ret Go.AL.Le Go.AL.thn Go.AL.inBlk Go.AL.scp
instance : Xt Try.prog 173 Extern.BytealgCompare.compare := ⟨run_callFunc_extern Try.func173 (by kernel_rfl) (by kernel_rfl) (by kernel_rfl) (by kernel_rfl)⟩
instance (p : Prop) : BP (dP p) p (¬ p) := ⟨fun h => by rwa [dP_t] at h, fun h => by rwa [dP_f] at h⟩
instance (s : List UInt8) : BP (wordB s) (WordP s) (¬ WordP s) := ⟨fun h => by unfold wordB at h; simpa using h, fun h => by unfold wordB at h; simpa using h⟩
instance (v : Val) : BP (mayB v) (MayP v) (¬ MayP v) := ⟨fun h => by unfold mayB at h; rwa [dP_t] at h, fun h => by unfold mayB at h; rwa [dP_f] at h⟩
theorem preE_P {o : Int} {l : List Prt} (h : preE o l = 0) : preP o l := by
  unfold preE at h
  split at h
  · assumption
  · cases h
noncomputable instance : DecidableEq Val := fun _ _ => Classical.propDecidable _
instance : Inhabited Val := ⟨val0⟩
def encD (d : Dat) : List Value := [.int .i64 d.e, .int .i64 d.a, .int .i64 d.v.kind, .int .i64 d.v.n, .string ⟨d.v.s.toArray⟩, .int .i64 d.t, .bool d.add, .int .i64 d.fr, .int .i64 d.to]
instance : Inhabited Dat := ⟨dat0⟩
theorem encD_inj {a b : Dat} (h : encD a = encD b) : a = b := by
  obtain ⟨e, c, ⟨k, n, s⟩, t, ad, fr, to⟩ := a
  obtain ⟨e', c', ⟨k', n', s'⟩, t', ad', fr', to'⟩ := b
  simp [encD] at h
  obtain ⟨h1, h2, h3, h4, h5, h6, h7, h8, h9⟩ := h
  subst h1; subst h2; subst h3; subst h4; subst h5; subst h6; subst h7; subst h8; subst h9; rfl
noncomputable def hasB (o : Int) (d : Dat) : Bool := dP (hasP o d)
open Classical in
noncomputable def dsortL (o : Int) (l : List Dat) : List Dat := if 1 ≤ o ∧ o ≤ 4 then sortC (cmpD o) (l.filter (hasB o)) else []
theorem dsortL_len (o : Int) (l : List Dat) : (dsortL o l).length ≤ l.length := by
  unfold dsortL
  split
  · exact Nat.le_trans (sortC_len _ _) (List.length_filter_le _ _)
  · exact Nat.zero_le _
noncomputable instance : DecidableEq Dat := fun _ _ => Classical.propDecidable _
set_option maxHeartbeats 4000000 in
theorem dsame_pc [GlobF Try.prog] (a b : List Dat) (ha : a.length < 4611686018427387904) : PC Try.prog 11 [.sl none 9 (a.map dC), .sl none 9 (b.map dC)] (.sc (.bool (decide (a = b)))) := by
  refine PC.of_body Try.func11 Try.ntmps11 rfl rfl rfl ?_
  repeat' first
    | (apply p1 (hd := rfl); case hop => first | (apply D_move; rfl) | (apply D_assign; rfl) | (apply D_int; rfl; rfl; rfl) | (apply D_lenM; rfl))
    | refine W_seq ?_
    | refine W_region ?_
    | (refine idC ?_; first | refine cs rfl (fun _ => ?_) (fun _ => ?_))
    | refine WL_nil ?_
    | refine tn ?_
    | refine tr ?_
    | refine W_skip ?_
    | refine W_block ?_
    | refine W_ret ?_
    | (refine idR ?_; first | refine ret1 rfl rfl rfl ?_)
    | refine Le.bool ?_
  · rename_i h1
    have hn : ¬ a = b := fun e => h1 (by rw [e])
    exact (decide_eq_false hn).symm
  rename_i h1
  have hl : a.length = b.length := by omega
  refine W_loopL (X := Nat) (fun i => [(0, .sl none 9 (a.map dC)), (1, .sl none 9 (b.map dC)), (5, .sc (.int .i64 (i : Int)))]) (fun _ => [])
    (fun i => i ≤ a.length ∧ ∀ (j : Nat) (h : j < a.length) (h' : j < b.length), j < i → a[j] = b[j]) (fun i => a.length - i) 0 ⟨Nat.zero_le _, fun j h h' hj => absurd hj (Nat.not_lt_zero j)⟩ ⟨rfl, rfl, rfl, trivial⟩ rfl ?_
  rintro i ⟨hi, hz⟩
  repeat' first
    | (apply p1 (hd := rfl); case hop => first | (apply D_move; rfl) | (apply D_assign; rfl) | (apply D_int; rfl; rfl; rfl) | (apply D_lenM; rfl))
    | refine W_seq ?_
    | refine W_region ?_
    | (refine idC ?_; first | refine cs rfl (fun _ => ?_) (fun _ => ?_))
    | refine WL_nil ?_
    | refine tn ?_
    | refine tr ?_
    | refine br ?_
    | refine bn ?_
    | refine te ?_
    | (refine idB ?_; first | refine bh rfl ?_)
    | refine W_skip ?_
    | refine W_block ?_
    | refine W_exit ?_
    | refine W_ret ?_
    | (refine idR ?_; first | refine ret1 rfl rfl rfl ?_)
    | refine Le.bool ?_
    | (refine idW ?_; first | refine W_draw0 rfl ?_)
    | (apply d1 (hd := rfl); case hop => first | (apply D_move; rfl) | (apply D_loadW; rfl; rfl) | (apply D_idxAn; rfl; rfl; (first | omega | (simp; done))) | exact D_neA rfl rfl rfl rfl rfl rfl rfl)
    | refine WD_nil (by first | decide +kernel | kernel_rfl | rfl) ?_
  · rename_i hx
    have hn : ¬ a = b := fun e => hx (by subst e; rfl)
    exact (decide_eq_false hn).symm
  · rename_i hx
    refine ⟨rfl, i + 1, ⟨by omega, fun j h h' hj => ?_⟩, by omega, ⟨rfl, rfl, ieq (wsucc i (by omega)), trivial⟩, rfl⟩
    by_cases e : j = i
    · subst e; exact encD_inj hx
    · exact hz j h h' (by omega)
  · have he : a = b := List.ext_getElem hl fun j h h' => hz j h h' (by omega)
    exact (decide_eq_true he).symm
def grS : Int → List Dat → Int
  | n, [] => n
  | n, d :: t => grS (IntKind.i64.wrap (IntKind.i64.wrap (n + 20) + d.v.s.length)) t
theorem grS_snoc (n : Int) (l : List Dat) (d : Dat) : grS n (l ++ [d]) = IntKind.i64.wrap (IntKind.i64.wrap (grS n l + 20) + d.v.s.length) := by
  induction l generalizing n with
  | nil => rfl
  | cons x t ih => rw [List.cons_append]; simp only [grS]; exact ih _
set_option maxHeartbeats 4000000 in
theorem great_pc [GlobF Try.prog] (l : List Dat) (hl : l.length < 4611686018427387904) : PC Try.prog 8 [.sl none 9 (l.map dC)] (.sc (.int .i64 (if 4000 < grS 0 l then 1 else 0))) := by
  refine PC.of_body Try.func8 Try.ntmps8 rfl rfl rfl ?_
  repeat' first
    | (apply p1 (hd := rfl); case hop => first | (apply D_assign; rfl))
    | refine W_seq ?_
    | refine W_region ?_
    | refine WL_nil ?_
    | refine tn ?_
    | refine W_block ?_
  refine W_loopL (X := Nat) (fun i => [(0, .sl none 9 (l.map dC)), (3, .sc (.int .i64 (grS 0 (l.take i)))), (4, .sc (.int .i64 (i : Int)))]) (fun _ => [])
    (fun i => i ≤ l.length) (fun i => l.length - i) 0 (Nat.zero_le _) ⟨rfl, rfl, rfl, trivial⟩ rfl ?_
  intro i hi
  repeat' first
    | (apply p1 (hd := rfl); case hop => first | (apply D_move; rfl) | (apply D_assign; rfl) | (apply D_load1; rfl) | (apply D_fld; rfl) | (apply D_int; rfl; rfl; rfl) | (apply D_lenM; rfl) | (apply D_len_str; rfl) | (apply D_idxAn; rfl; rfl; (first | omega | (simp; done))))
    | refine W_seq ?_
    | refine W_region ?_
    | (refine idC ?_; first | refine cs rfl (fun _ => ?_) (fun _ => ?_))
    | refine WL_nil ?_
    | refine tn ?_
    | refine tr ?_
    | refine bn ?_
    | refine te ?_
    | (refine idB ?_; first | refine bh rfl ?_)
    | refine W_skip ?_
    | refine W_block ?_
    | refine W_exit ?_
    | refine W_ret ?_
    | (refine idR ?_; first | refine ret1 rfl rfl rfl ?_)
    | refine Le.int ?_
  · have hi1 : i < l.length := by omega
    refine ⟨rfl, i + 1, by omega, by omega, ⟨rfl, ieq ?_, ieq (wsucc i (by omega)), trivial⟩, rfl⟩
    rw [List.take_succ_eq_append_getElem hi1, grS_snoc]
  · rename_i h1 h2
    have e : i = l.length := by omega
    subst e
    rw [List.take_length] at h2
    rw [if_pos (by omega)]
  · rename_i h1 h2
    have e : i = l.length := by omega
    subst e
    rw [List.take_length] at h2
    rw [if_neg (by omega)]
end Go.Proofs
