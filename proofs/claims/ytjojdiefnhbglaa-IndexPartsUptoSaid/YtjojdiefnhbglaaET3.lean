/- Contracts of tree's functions: a pair put, a key found; how a tree stays in its depths. -/
import Derived.Test.YtjojdiefnhbglaaOps30
import Derived.Test.YtjojdiefnhbglaaOps12
namespace Go.Proofs
open Go.AL Go.Sort
attribute [local irreducible] Go.AL.W Go.AL.WL Go.AL.WD Go.AL.POp Go.AL.PPOp Go.AL.POpS Go.AL.PC Go.AL.AC Go.AL.YW Go.AL.Ret Go.AL.Le Go.AL.thn Go.AL.inBlk Go.AL.scp
instance : Xt Try.prog 133 Extern.BytealgCompare.compare := ⟨run_callFunc_extern Try.func133 (by kernel_rfl) (by kernel_rfl) (by kernel_rfl) (by kernel_rfl)⟩
abbrev cbB (a b : List UInt8) : Int := Lib.compareBytes a b
set_option maxHeartbeats 4000000 in
theorem bcmp_pc [GlobF Try.prog] (a b : List UInt8) : PC Try.prog 96 [bsA a, bsA b] (.sc (.int .i64 (cbB a b))) := by
  refine PC.of_body Try.func96 Try.ntmps96 rfl rfl rfl ?_
  repeat' first
    | (apply p1 (hd := rfl); case hop => first | (apply D_move; rfl) | (apply D_assign; rfl) | exact D_xcmpB rfl rfl rfl)
    | refine W_seq ?_
    | refine W_region ?_
    | refine WL_nil ?_
    | refine tn ?_
    | refine W_ret ?_
    | (refine idR ?_; first | refine ret1 rfl rfl rfl ?_)
    | refine Le.int ?_
  all_goals first | rfl | contradiction | skip
def ht : Tr → Nat
  | .no => 0
  | .nd _ _ l r _ _ => 1 + max (ht l) (ht r)
def sz : Tr → Nat
  | .no => 0
  | .nd _ _ l r _ _ => 1 + sz l + sz r
def okT : Tr → Prop
  | .no => True
  | .nd _ _ l r d m => d = ((1 + max (ht l) (ht r) : Nat) : Int) ∧ m = ((1 + sz l + sz r : Nat) : Int) ∧ okT l ∧ okT r
theorem ht_sz : ∀ t : Tr, ht t ≤ sz t
  | .no => Nat.le_refl _
  | .nd _ _ l r _ _ => by
    have h1 := ht_sz l
    have h2 := ht_sz r
    simp only [ht, sz]; omega
theorem okT_deep {t : Tr} (h : okT t) : deepT t = (ht t : Int) ∧ manyT t = (sz t : Int) := by
  cases t with
  | no => exact ⟨rfl, rfl⟩
  | nd k v l r d m => unfold okT at h; exact ⟨h.1, h.2.1⟩
theorem okT_d : ∀ {t : Tr}, okT t → sz t ≤ 1152921504606846976 → dOk t
  | .no, _, _ => trivial
  | .nd k v l r d m, h, hs => by
    unfold okT at h
    simp only [sz] at hs
    have h1 := ht_sz l
    have h2 := ht_sz r
    unfold dOk
    exact ⟨by omega, by omega, okT_d h.2.2.1 (by omega), okT_d h.2.2.2 (by omega)⟩
def toL : Tr → List (List UInt8 × List UInt8)
  | .no => []
  | .nd k v l r _ _ => toL l ++ (k, v) :: toL r
theorem join_ok {k v : List UInt8} {l r : Tr} (hl : okT l) (hr : okT r) (hs : 1 + sz l + sz r ≤ 1152921504606846976) : okT (joinT k v l r) ∧ sz (joinT k v l r) = 1 + sz l + sz r ∧ toL (joinT k v l r) = toL l ++ (k, v) :: toL r ∧ ht (joinT k v l r) = 1 + max (ht l) (ht r) := by
  obtain ⟨l1, l2⟩ := okT_deep hl
  obtain ⟨r1, r2⟩ := okT_deep hr
  have h1 := ht_sz l
  have h2 := ht_sz r
  have e1 : IntKind.i64.wrap (1 + max (deepT l) (deepT r)) = ((1 + max (ht l) (ht r) : Nat) : Int) := by rw [w64 _ (by omega) (by omega)]; omega
  have e2 : IntKind.i64.wrap (IntKind.i64.wrap (1 + manyT l) + manyT r) = ((1 + sz l + sz r : Nat) : Int) := by rw [w64 (1 + manyT l) (by omega) (by omega), w64 _ (by omega) (by omega)]; omega
  refine ⟨?_, rfl, rfl, rfl⟩
  unfold joinT
  rw [e1, e2]
  exact ⟨rfl, rfl, hl, hr⟩
theorem level_ok {k v : List UInt8} {l r : Tr} (hl : okT l) (hr : okT r) (hs : 1 + sz l + sz r ≤ 1152921504606846976) : okT (levelT k v l r) ∧ sz (levelT k v l r) = 1 + sz l + sz r ∧ toL (levelT k v l r) = toL l ++ (k, v) :: toL r := by
  obtain ⟨l1, l2⟩ := okT_deep hl
  obtain ⟨r1, r2⟩ := okT_deep hr
  by_cases c1 : deepT r + 1 < deepT l
  · obtain ⟨lk, lv, ll, lr, ld, lm, rfl⟩ := dOk_nd (t := l) (by omega)
    have hl' := hl
    unfold okT at hl'
    obtain ⟨_, _, hll, hlr⟩ := hl'
    simp only [sz] at hs
    by_cases c2 : deepT lr ≤ deepT ll
    · rw [level_1 c1 c2]
      obtain ⟨a1, a2, a3, _⟩ := join_ok (k := k) (v := v) hlr hr (by omega)
      obtain ⟨b1, b2, b3, _⟩ := join_ok (k := lk) (v := lv) hll a1 (by omega)
      refine ⟨b1, by rw [b2, a2]; simp only [sz]; omega, ?_⟩
      rw [b3, a3]; simp [toL]
    · obtain ⟨x1, _⟩ := okT_deep hll
      obtain ⟨ak, av, al, ar, ad, am, rfl⟩ := dOk_nd (t := lr) (by omega)
      rw [level_2 c1 c2]
      have hlr' := hlr
      unfold okT at hlr'
      simp only [sz] at hs
      obtain ⟨a1, a2, a3, _⟩ := join_ok (k := lk) (v := lv) hll hlr'.2.2.1 (by omega)
      obtain ⟨b1, b2, b3, _⟩ := join_ok (k := k) (v := v) hlr'.2.2.2 hr (by omega)
      obtain ⟨d1, d2, d3, _⟩ := join_ok (k := ak) (v := av) a1 b1 (by omega)
      refine ⟨d1, by rw [d2, a2, b2]; simp only [sz]; omega, ?_⟩
      rw [d3, a3, b3]; simp [toL]
  · by_cases c3 : deepT l + 1 < deepT r
    · obtain ⟨rk, rv, rl, rr, rd, rm, rfl⟩ := dOk_nd (t := r) (by omega)
      have hr' := hr
      unfold okT at hr'
      obtain ⟨_, _, hrl, hrr⟩ := hr'
      simp only [sz] at hs
      by_cases c2 : deepT rl ≤ deepT rr
      · rw [level_3 c1 c3 c2]
        obtain ⟨a1, a2, a3, _⟩ := join_ok (k := k) (v := v) hl hrl (by omega)
        obtain ⟨b1, b2, b3, _⟩ := join_ok (k := rk) (v := rv) a1 hrr (by omega)
        refine ⟨b1, by rw [b2, a2]; simp only [sz]; omega, ?_⟩
        rw [b3, a3]; simp [toL]
      · obtain ⟨x1, _⟩ := okT_deep hrr
        obtain ⟨ak, av, al, ar, ad, am, rfl⟩ := dOk_nd (t := rl) (by omega)
        rw [level_4 c1 c3 c2]
        have hrl' := hrl
        unfold okT at hrl'
        simp only [sz] at hs
        obtain ⟨a1, a2, a3, _⟩ := join_ok (k := k) (v := v) hl hrl'.2.2.1 (by omega)
        obtain ⟨b1, b2, b3, _⟩ := join_ok (k := rk) (v := rv) hrl'.2.2.2 hrr (by omega)
        obtain ⟨d1, d2, d3, _⟩ := join_ok (k := ak) (v := av) a1 b1 (by omega)
        refine ⟨d1, by rw [d2, a2, b2]; simp only [sz]; omega, ?_⟩
        rw [d3, a3, b3]; simp [toL]
    · rw [level_5 c1 c3]
      obtain ⟨a1, a2, a3, _⟩ := join_ok (k := k) (v := v) hl hr hs
      exact ⟨a1, a2, a3⟩
def putT (key val : List UInt8) : Tr → Tr
  | .no => .nd key val .no .no 1 1
  | .nd k v l r _ _ => if cbB key k < 0 then levelT k v (putT key val l) r else if 0 < cbB key k then levelT k v l (putT key val r) else joinT key val l r
theorem put_no (key val : List UInt8) : putT key val .no = .nd key val .no .no 1 1 := by rw [putT]
theorem put_nd (key val k v : List UInt8) (l r : Tr) (d m : Int) : putT key val (.nd k v l r d m) = if cbB key k < 0 then levelT k v (putT key val l) r else if 0 < cbB key k then levelT k v l (putT key val r) else joinT key val l r := by rw [putT]
theorem put_ok (key val : List UInt8) : ∀ {t : Tr}, okT t → sz t < 1152921504606846976 → okT (putT key val t) ∧ sz (putT key val t) ≤ sz t + 1 ∧ sz t ≤ sz (putT key val t)
  | .no, _, _ => by
    rw [put_no]
    exact ⟨⟨rfl, rfl, trivial, trivial⟩, Nat.le_refl _, Nat.zero_le _⟩
  | .nd k v l r d m, h, hs => by
    unfold okT at h
    simp only [sz] at hs
    rw [put_nd]
    obtain ⟨a1, a2, a3⟩ := put_ok key val h.2.2.1 (by omega)
    obtain ⟨b1, b2, b3⟩ := put_ok key val h.2.2.2 (by omega)
    split
    · obtain ⟨c1, c2, _⟩ := level_ok (k := k) (v := v) a1 h.2.2.2 (by omega)
      refine ⟨c1, ?_, ?_⟩ <;> (rw [c2]; simp only [sz]; omega)
    · split
      · obtain ⟨c1, c2, _⟩ := level_ok (k := k) (v := v) h.2.2.1 b1 (by omega)
        refine ⟨c1, ?_, ?_⟩ <;> (rw [c2]; simp only [sz]; omega)
      · obtain ⟨c1, c2, _⟩ := join_ok (k := key) (v := val) h.2.2.1 h.2.2.2 (by omega)
        refine ⟨c1, ?_, ?_⟩ <;> (rw [c2]; simp only [sz]; omega)
set_option maxHeartbeats 16000000 in
theorem put_pc [GlobF Try.prog] (key val : List UInt8) : ∀ (t : Tr), okT t → sz t < 1152921504606846976 → PC Try.prog 64 [tA t, bsA key, bsA val] (tA (putT key val t))
  | .no, _, _ => by
    rw [put_no, tA_nd]
    simp only [tA_no]
    refine PC.of_body Try.func64 Try.ntmps64 rfl rfl rfl ?_
    repeat' first
      | (apply p1 (hd := rfl); case hop => first | (apply D_move; rfl) | (apply D_assign; rfl) | exact D_peN rfl rfl | (apply D_box; rfl; rfl) | exact D_build rfl)
      | refine W_seq ?_
      | refine W_region ?_
      | (refine idC ?_; first | refine c1 rfl ?_)
      | refine WL_nil ?_
      | refine tn ?_
      | refine tr ?_
      | refine W_ret ?_
      | (refine idR ?_; first | refine ret1 rfl rfl rfl ?_)
    all_goals first | exact Le.of_eq rfl | rfl | contradiction | skip
  | .nd k v l r d m, h, hs => by
    have h' := h
    unfold okT at h'
    simp only [sz] at hs
    have hc := bcmp_pc key k
    have pl := put_pc key val l h'.2.2.1 (by omega)
    have pr := put_pc key val r h'.2.2.2 (by omega)
    obtain ⟨a1, a2, a3⟩ := put_ok key val h'.2.2.1 (by omega)
    obtain ⟨b1, b2, b3⟩ := put_ok key val h'.2.2.2 (by omega)
    have vl := level_pc k v l r d m (putT key val l) r (okT_d a1 (by omega)) (okT_d h'.2.2.2 (by omega))
    have vr := level_pc k v l r d m l (putT key val r) (okT_d h'.2.2.1 (by omega)) (okT_d b1 (by omega))
    have jn := join_pc key val .no .no 0 0 l r
    rw [put_nd]
    generalize putT key val l = PL at *
    generalize putT key val r = PR at *
    simp only [tA_nd] at vl vr jn ⊢
    by_cases c1 : cbB key k < 0
    · rw [if_pos c1]
      generalize levelT k v PL r = X at *
      refine PC.of_body Try.func64 Try.ntmps64 rfl rfl rfl ?_
      repeat' first
        | (apply p1 (hd := rfl); case hop => first | (apply D_move; rfl) | (apply D_assign; rfl) | exact D_peE rfl rfl | exact D_nilE rfl | (apply D_pc hc; rfl; exact .same rfl (.same rfl .nil)) | (apply D_load1; rfl) | (apply D_fld; rfl) | (apply D_int; rfl; rfl; rfl))
        | refine W_seq ?_
        | refine W_region ?_
        | (refine idC ?_; first | refine c0 rfl ?_ | refine cs rfl (fun _ => ?_) (fun _ => ?_))
        | refine WL_nil ?_
        | refine tn ?_
        | refine tr ?_
        | refine br ?_
        | refine bn ?_
        | refine W_skip ?_
        | refine W_block ?_
        | refine W_ret ?_
        | (refine idR ?_; first | refine ret1 rfl rfl rfl ?_)
        | (refine idW ?_; first | refine W_draw0 rfl ?_)
        | (apply d1 (hd := rfl); case hop => first | (apply D_move; rfl) | (apply D_assign; rfl) | exact D_nilE rfl | (apply D_pc pl; rfl; exact .same rfl (.same rfl (.same rfl .nil))) | (apply D_pc vl; rfl; exact .same rfl (.same rfl (.same rfl .nil))) | (apply D_load1; rfl) | (apply D_fld; rfl) | (apply D_box; rfl; rfl) | exact D_build rfl)
        | refine WD_nil (by first | decide +kernel | kernel_rfl | rfl) ?_
      all_goals first | exact Le.of_eq rfl | rfl | contradiction | (exfalso; omega) | skip
    · rw [if_neg c1]
      by_cases c2 : 0 < cbB key k
      · rw [if_pos c2]
        generalize levelT k v l PR = X at *
        refine PC.of_body Try.func64 Try.ntmps64 rfl rfl rfl ?_
        repeat' first
          | (apply p1 (hd := rfl); case hop => first | (apply D_move; rfl) | (apply D_assign; rfl) | exact D_peE rfl rfl | exact D_nilE rfl | (apply D_pc hc; rfl; exact .same rfl (.same rfl .nil)) | (apply D_load1; rfl) | (apply D_fld; rfl) | (apply D_int; rfl; rfl; rfl))
          | refine W_seq ?_
          | refine W_region ?_
          | (refine idC ?_; first | refine c0 rfl ?_ | refine cs rfl (fun _ => ?_) (fun _ => ?_))
          | refine WL_nil ?_
          | refine tn ?_
          | refine tr ?_
          | refine br ?_
          | refine bn ?_
          | refine W_skip ?_
          | refine W_block ?_
          | refine W_ret ?_
          | (refine idR ?_; first | refine ret1 rfl rfl rfl ?_)
          | (refine idW ?_; first | refine W_draw0 rfl ?_)
          | (apply d1 (hd := rfl); case hop => first | (apply D_move; rfl) | (apply D_assign; rfl) | exact D_nilE rfl | (apply D_pc pr; rfl; exact .same rfl (.same rfl (.same rfl .nil))) | (apply D_pc vr; rfl; exact .same rfl (.same rfl (.same rfl .nil))) | (apply D_load1; rfl) | (apply D_fld; rfl) | (apply D_box; rfl; rfl) | exact D_build rfl)
          | refine WD_nil (by first | decide +kernel | kernel_rfl | rfl) ?_
        all_goals first | exact Le.of_eq rfl | rfl | contradiction | (exfalso; omega) | skip
      · rw [if_neg c2]
        generalize joinT key val l r = X at *
        refine PC.of_body Try.func64 Try.ntmps64 rfl rfl rfl ?_
        repeat' first
          | (apply p1 (hd := rfl); case hop => first | (apply D_move; rfl) | (apply D_assign; rfl) | exact D_peE rfl rfl | exact D_nilE rfl | (apply D_pc hc; rfl; exact .same rfl (.same rfl .nil)) | (apply D_load1; rfl) | (apply D_fld; rfl) | (apply D_int; rfl; rfl; rfl))
          | refine W_seq ?_
          | refine W_region ?_
          | (refine idC ?_; first | refine c0 rfl ?_ | refine cs rfl (fun _ => ?_) (fun _ => ?_))
          | refine WL_nil ?_
          | refine tn ?_
          | refine bn ?_
          | refine W_skip ?_
          | refine W_block ?_
          | refine W_ret ?_
          | (refine idR ?_; first | refine ret1 rfl rfl rfl ?_)
          | (refine idW ?_; first | refine W_draw0 rfl ?_)
          | (apply d1 (hd := rfl); case hop => first | (apply D_move; rfl) | (apply D_assign; rfl) | exact D_nilE rfl | (apply D_pc jn; rfl; exact .same rfl (.same rfl (.same rfl .nil))) | (apply D_load1; rfl) | (apply D_fld; rfl) | (apply D_box; rfl; rfl) | exact D_build rfl)
          | refine WD_nil (by first | decide +kernel | kernel_rfl | rfl) ?_
        all_goals first | exact Le.of_eq rfl | rfl | contradiction | (exfalso; omega) | skip
end Go.Proofs

namespace Go.Proofs
open Go.AL Go.Sort
attribute [local irreducible] Go.AL.W Go.AL.WL Go.AL.WD Go.AL.POp Go.AL.PPOp Go.AL.POpS Go.AL.PC Go.AL.AC Go.AL.YW Go.AL.Ret Go.AL.Le Go.AL.thn Go.AL.inBlk Go.AL.scp
def oT : Option Tr → AV
  | none => .sc (.pointer none)
  | some t => .ep [tA t]
theorem oT_no : oT none = .sc (.pointer none) := by rw [oT]
theorem oT_so (t : Tr) : oT (some t) = .ep [tA t] := by rw [oT]
theorem pur_oT (o : Option Tr) : Pur (oT o) := by
  cases o with
  | none => rw [oT_no]; infer_instance
  | some t => rw [oT_so]; infer_instance
instance (o : Option Tr) : Pur (oT o) := pur_oT o
def topT (o : Option Tr) : Tr := o.getD .no
set_option maxHeartbeats 4000000 in
theorem root_pc [GlobF Try.prog] (o : Option Tr) : PC Try.prog 61 [oT o] (tA (topT o)) := by
  cases o with
  | none =>
    rw [oT_no]
    show PC _ _ _ (tA .no)
    rw [tA_no]
    refine PC.of_body Try.func61 Try.ntmps61 rfl rfl rfl ?_
    repeat' first
      | (apply p1 (hd := rfl); case hop => first | (apply D_move; rfl) | (apply D_assign; rfl) | exact D_peN rfl rfl)
      | refine W_seq ?_
      | refine W_region ?_
      | (refine idC ?_; first | refine c1 rfl ?_)
      | refine WL_nil ?_
      | refine tn ?_
      | refine tr ?_
      | refine W_ret ?_
      | (refine idR ?_; first | refine ret1 rfl rfl rfl ?_)
    all_goals first | rfl | exact Le.of_eq rfl | contradiction | skip
  | some t =>
    rw [oT_so]
    show PC _ _ _ (tA t)
    refine PC.of_body Try.func61 Try.ntmps61 rfl rfl rfl ?_
    repeat' first
      | (apply p1 (hd := rfl); case hop => first | (apply D_move; rfl) | (apply D_assign; rfl) | exact D_peE rfl rfl | exact D_nilE rfl | (apply D_load1; rfl) | (apply D_fld; rfl))
      | refine W_seq ?_
      | refine W_region ?_
      | (refine idC ?_; first | refine c0 rfl ?_)
      | refine WL_nil ?_
      | refine tn ?_
      | refine W_skip ?_
      | refine W_ret ?_
      | (refine idR ?_; first | refine ret1 rfl rfl rfl ?_)
    all_goals first | rfl | exact Le.of_eq rfl | contradiction | skip
set_option maxHeartbeats 4000000 in
theorem tlen_pc [GlobF Try.prog] (o : Option Tr) : PC Try.prog 34 [oT o] (.sc (.int .i64 (manyT (topT o)))) := by
  have h1 := root_pc o
  have h2 := many_pc (topT o)
  refine PC.of_body Try.func34 Try.ntmps34 rfl rfl rfl ?_
  repeat' first
    | (apply p1 (hd := rfl); case hop => first | (apply D_move; rfl) | (apply D_assign; rfl) | (apply D_pc h1; rfl; exact .same rfl .nil) | (apply D_pc h2; rfl; exact .same rfl .nil))
    | refine W_seq ?_
    | refine W_region ?_
    | refine WL_nil ?_
    | refine tn ?_
    | refine W_ret ?_
    | (refine idR ?_; first | refine ret1 rfl rfl rfl ?_)
    | refine Le.int ?_
  all_goals first | rfl | exact Le.of_eq rfl | contradiction | skip
def findT (key : List UInt8) : Tr → Tr
  | .no => .no
  | .nd k v l r d m => if cbB key k < 0 then findT key l else if 0 < cbB key k then findT key r else .nd k v l r d m
theorem find_nd (key k v : List UInt8) (l r : Tr) (d m : Int) : findT key (.nd k v l r d m) = if cbB key k < 0 then findT key l else if 0 < cbB key k then findT key r else .nd k v l r d m := by rw [findT]
set_option maxHeartbeats 8000000 in
theorem find_pc [GlobF Try.prog] (key : List UInt8) (t : Tr) : PC Try.prog 63 [tA t, bsA key] (tA (findT key t)) := by
  refine PC.of_body Try.func63 Try.ntmps63 rfl rfl rfl ?_
  repeat' first
    | (apply p1 (hd := rfl); case hop => first | (apply D_assign; rfl))
    | refine W_seq ?_
    | refine W_region ?_
    | refine WL_nil ?_
    | refine tn ?_
    | refine W_block ?_
    | refine W_label ?_
    | refine W_scope ?_
  refine W_loopL (X := Tr) (fun c => [(0, tA c), (1, bsA key)]) (fun _ => [])
    (fun c => findT key c = findT key t) (fun c => sz c) t rfl ⟨rfl, rfl, trivial⟩ rfl ?_
  intro c hc
  cases c with
  | no =>
    rw [← hc, show findT key .no = .no by rw [findT]]
    simp only [tA_no]
    repeat' first
      | (apply p1 (hd := rfl); case hop => first | (apply D_move; rfl) | (apply D_assign; rfl) | exact D_pnN rfl rfl)
      | refine W_seq ?_
      | refine W_region ?_
      | (refine idC ?_; first | refine c0 rfl ?_)
      | refine WL_nil ?_
      | refine tn ?_
      | refine te ?_
      | (refine idB ?_; first | refine bh rfl ?_)
      | refine W_exit ?_
      | refine W_ret ?_
      | refine sr ?_
      | (refine idR ?_; first | refine ret1 rfl rfl rfl ?_)
    all_goals first | rfl | exact Le.of_eq rfl | contradiction | skip
  | nd k v l r d m =>
    have hb := bcmp_pc key k
    rw [find_nd] at hc
    simp only [tA_nd]
    by_cases c1 : cbB key k < 0
    · rw [if_pos c1] at hc
      repeat' first
        | (apply p1 (hd := rfl); case hop => first | (apply D_move; rfl) | (apply D_assign; rfl) | exact D_pnE rfl rfl | exact D_nilE rfl | (apply D_pc hb; rfl; exact .same rfl (.same rfl .nil)) | (apply D_load1; rfl) | (apply D_fld; rfl) | (apply D_int; rfl; rfl; rfl))
        | refine W_seq ?_
        | refine W_region ?_
        | (refine idC ?_; first | refine cs rfl (fun _ => ?_) (fun _ => ?_))
        | refine WL_nil ?_
        | refine tn ?_
        | refine bn ?_
        | refine te ?_
        | (refine idB ?_; first | refine bh rfl ?_ | refine bm rfl ?_)
        | refine W_skip ?_
        | refine W_block ?_
        | refine W_exit ?_
        | refine W_ret ?_
        | refine sr ?_
        | (refine idR ?_; first | refine ret1 rfl rfl rfl ?_)
      all_goals first
        | contradiction
        | (exfalso; omega)
        | exact ⟨rfl, l, hc, by simp only [sz]; omega, ⟨rfl, rfl, trivial⟩, rfl⟩
        | skip
    · rw [if_neg c1] at hc
      by_cases c2 : 0 < cbB key k
      · rw [if_pos c2] at hc
        repeat' first
          | (apply p1 (hd := rfl); case hop => first | (apply D_move; rfl) | (apply D_assign; rfl) | exact D_pnE rfl rfl | exact D_nilE rfl | (apply D_pc hb; rfl; exact .same rfl (.same rfl .nil)) | (apply D_load1; rfl) | (apply D_fld; rfl) | (apply D_int; rfl; rfl; rfl))
          | refine W_seq ?_
          | refine W_region ?_
          | (refine idC ?_; first | refine cs rfl (fun _ => ?_) (fun _ => ?_))
          | refine WL_nil ?_
          | refine tn ?_
          | refine bn ?_
          | refine te ?_
          | (refine idB ?_; first | refine bh rfl ?_ | refine bm rfl ?_)
          | refine W_skip ?_
          | refine W_block ?_
          | refine W_exit ?_
          | refine W_ret ?_
          | refine sr ?_
          | (refine idR ?_; first | refine ret1 rfl rfl rfl ?_)
        all_goals first
          | contradiction
          | (exfalso; omega)
          | exact ⟨rfl, r, hc, by simp only [sz]; omega, ⟨rfl, rfl, trivial⟩, rfl⟩
          | skip
      · rw [if_neg c2] at hc
        rw [← hc, tA_nd]
        repeat' first
          | (apply p1 (hd := rfl); case hop => first | (apply D_move; rfl) | (apply D_assign; rfl) | exact D_pnE rfl rfl | exact D_nilE rfl | (apply D_pc hb; rfl; exact .same rfl (.same rfl .nil)) | (apply D_load1; rfl) | (apply D_fld; rfl) | (apply D_int; rfl; rfl; rfl))
          | refine W_seq ?_
          | refine W_region ?_
          | (refine idC ?_; first | refine cs rfl (fun _ => ?_) (fun _ => ?_))
          | refine WL_nil ?_
          | refine tn ?_
          | refine bn ?_
          | refine te ?_
          | (refine idB ?_; first | refine bh rfl ?_ | refine bm rfl ?_)
          | refine W_skip ?_
          | refine W_block ?_
          | refine W_exit ?_
          | refine W_ret ?_
          | refine sr ?_
          | (refine idR ?_; first | refine ret1 rfl rfl rfl ?_)
        all_goals first
          | contradiction
          | (exfalso; omega)
          | exact Le.of_eq rfl
          | rfl
          | skip
set_option maxHeartbeats 4000000 in
theorem cloneB_pc [GlobF Try.prog] (l : List UInt8) (hl : l.length < 70368744177664) : PC Try.prog 65 [bsA l] (bsA l) := by
  refine PC.of_body Try.func65 Try.ntmps65 rfl rfl rfl ?_
  repeat' first
    | (refine m_slnil rfl rfl ?_; rintro b hb)
    | refine m_lit (d := 5) rfl rfl rfl rfl rfl rfl ?_
    | (apply p1 (hd := rfl); case hop => first | (apply D_move; rfl) | (apply D_assign; rfl))
    | refine W_seq ?_
    | refine W_region ?_
    | (refine idC ?_; first | refine cs rfl (fun _ => ?_) (fun _ => ?_))
    | refine WL_nil ?_
    | refine tn ?_
    | refine tr ?_
    | refine W_skip ?_
    | refine W_ret ?_
    | (refine idR ?_; first | refine ret1 rfl rfl rfl ?_)
    | (refine idAp ?_; refine m_app rfl rfl (by first | rfl | assumption | exact get_set (by assumption) | exact get_set (get_set (by assumption)) | exact get_set (get_set (get_set (by assumption))) | ((repeat first | assumption | exact get_last | (refine get_last2 ?_; focus (simp; done)) | apply get_set | apply get_app | (apply get_ne; focus omega)); done)) ?_ rfl rfl ?_ ?_ rfl ?_; (first | rfl | focus (simp only [List.length_map, List.length_append, List.length_cons, List.length_nil]; omega) | focus (simp; done) | focus (simp; omega)); (first | focus (simp only [List.length_map, List.length_append, List.length_cons, List.length_nil]; omega) | focus (simp; done) | focus (simp; omega)); (first | focus (simp only [List.length_map, List.length_append, List.length_cons, List.length_nil]; omega) | focus (simp; done) | focus (simp; omega)))
  all_goals first
    | exact Le.tokq rfl
    | (rename_i hb'
       first
         | (have e := hb hb'
            have e : l = [] := by cases l with
              | nil => rfl
              | cons x t => simp at e
            subst e; exact Le.nil rfl)
         | (have e := hb rfl
            have e : l = [] := by cases l with
              | nil => rfl
              | cons x t => simp at e
            subst e; exact Le.nil rfl))
    | skip
end Go.Proofs

namespace Go.Proofs
open Go.AL Go.Sort
attribute [local irreducible] Go.AL.W Go.AL.WL Go.AL.WD Go.AL.POp Go.AL.PPOp Go.AL.POpS Go.AL.PC Go.AL.AC Go.AL.YW Go.AL.Ret Go.AL.Le Go.AL.thn Go.AL.inBlk Go.AL.scp
theorem toL_len : ∀ t : Tr, (toL t).length = sz t
  | .no => rfl
  | .nd k v l r d m => by
    have h1 := toL_len l
    have h2 := toL_len r
    simp only [toL, sz, List.length_append, List.length_cons]; omega
set_option maxHeartbeats 16000000 in
theorem tput_pc [GlobF Try.prog] (key val : List UInt8) (o : Option Tr) (ho : okT (topT o)) (hs : sz (topT o) < 1152921504606846975) (hk : key.length ≤ 4096) (hv : val.length ≤ 65536) (hc : sz (topT o) < 1048576 ∨ findT key (topT o) ≠ .no) :
    PC Try.prog 31 [oT o, bsA key, bsA val] (.tu [oT (some (putT key val (topT o))), .sc (.int .i64 0)]) := by
  have h1 := root_pc o
  have h2 := many_pc (topT o)
  have h3 := find_pc key (topT o)
  have h4 := cloneB_pc key (by omega)
  have h5 := cloneB_pc val (by omega)
  have h6 := put_pc key val (topT o) ho (by omega)
  have em := (okT_deep ho).2
  rw [em] at h2
  generalize topT o = t at *
  generalize hP : putT key val t = PT at *
  rw [oT_so]
  have e1 : Value.bool (iLt 4096 (key.length : Int)) = .bool false := by rw [(iLt_f _ _).mpr (by omega)]
  have e2 : Value.bool (iLt 65536 (val.length : Int)) = .bool false := by rw [(iLt_f _ _).mpr (by omega)]
  have hb := @fillO_cons
  by_cases c : sz t < 1048576
  · have e3 : Value.bool (iLe 1048576 (sz t : Int)) = .bool false := by rw [(iLe_f _ _).mpr (by omega)]
    refine PC.of_body Try.func31 Try.ntmps31 rfl rfl rfl ?_
    repeat' first
      | (apply p1 (hd := rfl); case hop => first | (apply D_move; rfl) | (apply D_assign; rfl) | exact D_build (fillO_cons rfl rfl (cells_tA PT) rfl rfl) | (apply D_pc h1; rfl; exact .same rfl .nil) | (apply D_pc h2; rfl; exact .same rfl .nil) | (apply D_pc h4; rfl; exact .same rfl .nil) | (apply D_pc h5; rfl; exact .same rfl .nil) | (apply D_pc h6; rfl; exact .same rfl (.same rfl (.same rfl .nil))) | exact D_sc (D_int rfl rfl rfl) e1 | exact D_sc (D_int rfl rfl rfl) e2 | exact D_sc (D_int rfl rfl rfl) e3 | (apply D_pickF; rfl; rfl) | (apply D_lenM; rfl) | (apply D_box; rfl; rfl))
      | refine W_seq ?_
      | refine W_region ?_
      | (refine idC ?_; first | refine c0 rfl ?_)
      | refine WL_nil ?_
      | (refine idG ?_; first | refine g0t rfl rfl rfl ?_ | refine gr rfl rfl ?_)
      | refine tn ?_
      | refine W_skip ?_
      | refine W_ret ?_
      | (refine idR ?_; first | refine ret2 rfl rfl rfl rfl ?_ ?_)
      | refine Le.int ?_
    all_goals first | exact Le.of_eq rfl | rfl | contradiction | (exfalso; omega) | skip
  · have hne := hc.resolve_left c
    have e3 : Value.bool (iLe 1048576 (sz t : Int)) = .bool true := by rw [(iLe_t _ _).mpr (by omega)]
    cases hF : findT key t with
    | no => exact absurd hF hne
    | nd fk fv fl fr fd fm =>
      rw [hF, tA_nd] at h3
      refine PC.of_body Try.func31 Try.ntmps31 rfl rfl rfl ?_
      repeat' first
        | (apply p1 (hd := rfl); case hop => first | (apply D_move; rfl) | (apply D_assign; rfl) | exact D_build (fillO_cons rfl rfl (cells_tA PT) rfl rfl) | exact D_peE rfl rfl | (apply D_pc h1; rfl; exact .same rfl .nil) | (apply D_pc h2; rfl; exact .same rfl .nil) | (apply D_pc h3; rfl; exact .same rfl (.same rfl .nil)) | (apply D_pc h4; rfl; exact .same rfl .nil) | (apply D_pc h5; rfl; exact .same rfl .nil) | (apply D_pc h6; rfl; exact .same rfl (.same rfl (.same rfl .nil))) | exact D_sc (D_int rfl rfl rfl) e1 | exact D_sc (D_int rfl rfl rfl) e2 | exact D_sc (D_int rfl rfl rfl) e3 | (apply D_pickT; rfl; rfl) | (apply D_pickF; rfl; rfl) | (apply D_lenM; rfl) | (apply D_box; rfl; rfl))
        | refine W_seq ?_
        | refine W_region ?_
        | (refine idC ?_; first | refine c0 rfl ?_)
        | refine WL_nil ?_
        | (refine idG ?_; first | refine gr rfl rfl ?_)
        | refine tn ?_
        | refine W_skip ?_
        | refine W_ret ?_
        | (refine idR ?_; first | refine ret2 rfl rfl rfl rfl ?_ ?_)
        | refine Le.int ?_
      all_goals first | exact Le.of_eq rfl | rfl | contradiction | (exfalso; omega) | skip
end Go.Proofs

namespace Go.AL
end Go.AL
