/- Contracts of numbers' texts: strconv.ParseInt, errors and all; value.number. -/
import Derived.Test.YtaphfieahcimcaaGreatDoorZQT2
namespace Go.Proofs
open Go.AL
open Go.Shelf Go.RowKit

set_option maxHeartbeats 4000000 in
set_option maxRecDepth 100000 in
theorem clone_calls (s : ByteArray) (w : World) (hlim : s.size ≤ 281474976710656) :
    Calls Tryz.prog 99 #[.string s] w fun e w' => e = .returned (.string s) ∧ AL.Grown w w' := by
  by_cases h0 : s.size = 0
  · have hs : s = ⟨#[]⟩ := by
      apply ByteArray.ext
      exact Array.eq_empty_of_size_eq_zero h0
    subst hs
    go_enter Tryz.func99, Tryz.ntmps99
    go_wp2
    go_ret
    exact ⟨rfl, rfl, rfl, rfl, Nat.le_refl _, Nat.le_refl _, fun _ _ => rfl⟩
  · obtain ⟨i0, hi, hz1, hz2, hz0⟩ := (inferInstance : Inf Tryz.prog 5 1 1 (.int .u8 0)).h
    have hinfo : (Tryz.prog.info? 5).map (·.size) = some 1 := by rw [hi]; simp [hz1]
    have hco : Tryz.prog.cellsOf 5 = 1 := by simp [Program.cellsOf, hi, hz1]
    obtain ⟨M, hM⟩ : ∃ M, M = madeCells (Value.int .u8 0).cells (((s.size : Nat) : Int).toNat * i0.size) := ⟨_, rfl⟩
    have hMs : M.size = s.size := by rw [hM, size_madeCells, hz1]; simp
    have hmk : ∀ W : World, (Instr.makeSlice 55 (.int .i64 (s.size : Int)) (.int .i64 (s.size : Int))).run Tryz.prog W = .ok (.slice (some ⟨W.heap.size, 0, none⟩) s.size s.size) (W.alloc (.cells M 5)) := fun W => by
      have h := run_make (P := Tryz.prog) W 55 5 i0 (.int .u8 0) Tryz.underlying55 hi hz0 .i64 .i64 (s.size : Int) (s.size : Int) (by omega) (by omega) (by rw [hz2]; omega) (by omega)
      rw [← hM] at h
      simpa using h
    clear hM
    have hcp := Lib.run_copy_row_string (P := Tryz.prog) (w.alloc (.cells M 5)) 55 9 3 5 w.heap.size 0 s.size s.size s M 5 Tryz.underlying55 hinfo (heap_alloc_new w _) (Nat.le_refl _) (by omega)
    obtain ⟨Y, hY⟩ : ∃ Y, Y = (M.toList.take 0 ++ Lib.byteCells s.data.toList ++ M.toList.drop (0 + s.size)).toArray := ⟨_, rfl⟩
    rw [← hY] at hcp
    have hYl : Y.toList = Lib.byteCells s.data.toList := by
      rw [hY, List.toList_toArray, List.take_zero, List.nil_append, List.drop_of_length_le (by rw [Array.length_toList]; omega), List.append_nil]
    have hYs : Y.size = s.size := by rw [← Array.length_toList, hYl, Lib.byteCells_length, ← Lib.size_eq]
    have hgY : ((w.alloc (.cells M 5)).setRow w.heap.size Y).heap[w.heap.size]? = some (.cells Y 5 (0, 0)) := setRow_heap _ _ M _ 5 (0, 0) (heap_alloc_new w _)
    have hne : s.data.toList ≠ [] := fun e => h0 (by rw [Lib.size_eq, e]; rfl)
    have hUS := Lib.run_unsafeString_row (P := Tryz.prog) ((w.alloc (.cells M 5)).setRow w.heap.size Y) 84 3 9 5 Tryz.underlying84 hco w.heap.size Y.size (by unfold World.shape?; rw [hgY]) s.data.toList hne (by rw [← Lib.size_eq]; omega) (by rw [← Lib.size_eq]; omega)
      (fun j x hx => Lib.cells_of_row hgY Y.size j _ (by rw [List.take_of_length_le (by rw [Array.length_toList]; exact Nat.le_refl _), hYl]; simp [Lib.byteCells, hx]))
    rw [← Lib.size_eq] at hUS
    clear hY
    have hfr : ∀ (w0 : World) (n : Nat), (w0.freeze ⟨w.heap.size, 0, none⟩ n).tape = w0.tape ∧ (w0.freeze ⟨w.heap.size, 0, none⟩ n).os = w0.os ∧ (w0.freeze ⟨w.heap.size, 0, none⟩ n).output = w0.output ∧ (w0.freeze ⟨w.heap.size, 0, none⟩ n).drawn = w0.drawn ∧ (w0.freeze ⟨w.heap.size, 0, none⟩ n).heap.size = w0.heap.size ∧ ∀ b, b ≠ w.heap.size → (w0.freeze ⟨w.heap.size, 0, none⟩ n).heap[b]? = w0.heap[b]? := fun w0 n => by
      unfold World.freeze
      split
      · exact ⟨rfl, rfl, rfl, rfl, rfl, fun _ _ => rfl⟩
      · refine ⟨rfl, rfl, rfl, rfl, by show (w0.heap.modify _ _).size = _; simp, fun b hb => ?_⟩
        show (w0.heap.modify w.heap.size _)[b]? = _
        simp [Array.getElem?_modify, Ne.symm hb]
    go_enter Tryz.func99, Tryz.ntmps99
    go_wp2
    go_ret
    obtain ⟨f1, f2, f3, f4, f5, f6⟩ := hfr ((w.alloc (.cells M 5)).setRow w.heap.size Y) s.size
    refine ⟨rfl, f1, f2, f3, by rw [f4]; exact Nat.le_refl _, by rw [f5]; simp, fun b hb => ?_⟩
    rw [f6 b (by omega), setRow_other _ _ _ _ (by omega)]
    exact Lib.alloc_old w _ b hb
theorem clone_pc [GlobF Tryz.prog] (s : List UInt8) (hs : s.length < 281474976710656) : PC Tryz.prog 99 [str s] (str s) :=
  PC.of_grown (us := [.string ⟨s.toArray⟩]) (enters_of Tryz.func99 (by kernel_rfl) rfl) fun w _ _ => clone_calls ⟨s.toArray⟩ w (by show s.toArray.size ≤ _; simp; omega)
end Go.Proofs

/- Contracts of numbers' texts: strconv.ParseInt's errors; value.number. -/
namespace Go.Proofs
open Go.AL
attribute [local irreducible] Go.AL.W Go.AL.WL Go.AL.WD Go.AL.POp Go.AL.PPOp Go.AL.POpS Go.AL.PC Go.AL.AC Go.AL.YW Go.AL.Ret Go.AL.Le Go.AL.thn Go.AL.inBlk Go.AL.scp

instance : Ncf Tryz.prog 118 := ⟨⟨_, Tryz.underlying118, fun _ => by nofun⟩⟩
instance : Ncf Tryz.prog 121 := ⟨⟨_, Tryz.underlying121, fun _ => by nofun⟩⟩
instance : Cmi Tryz.prog 118 .i64 := ⟨Tryz.underlying118, by kernel_rfl⟩

theorem synErr_pc [GlobF Tryz.prog] (he : ErrsOK) (fn s : List UInt8) (hs : s.length < 281474976710656) : ∃ u, PC Tryz.prog 92 [str fn, str s] u := by
  obtain ⟨t1, v1, t2, v2, h1, h2⟩ := he
  refine ⟨.ep [str fn, str s, .sc (.iface t1 v1)], ?_⟩
  refine PC.of_body Tryz.func92 Tryz.ntmps92 rfl rfl rfl ?_
  repeat' first
    | (apply p1 (hd := rfl); case hop => first | (apply D_move; rfl) | (apply D_assign; rfl) | (apply D_pc (clone_pc s hs); rfl; exact .same rfl .nil) | exact D_loadG rfl h1 | (apply D_load1; rfl) | (apply D_loadW; rfl; rfl) | (apply D_loadA; rfl; rfl) | (apply D_box; rfl; rfl) | exact D_build rfl | exact D_buildA rfl)
    | refine W_seq ?_
    | refine W_region ?_
    | refine WL_nil ?_
    | refine tn ?_
    | refine tr ?_
    | refine br ?_
    | refine bn ?_
    | refine te ?_
    | (refine idB ?_; first | refine bh rfl ?_ | refine bm rfl ?_)
    | refine W_skip ?_
    | refine W_block ?_
    | refine W_exit ?_
    | refine W_ret ?_
    | refine W_label ?_
    | refine W_scope ?_
    | refine sn ?_
    | refine sr ?_
    | refine se ?_
    | (refine idR ?_; first | refine ret1 rfl rfl rfl ?_ | refine rL1 rfl (by first | exact trivial | exact ⟨rfl, trivial⟩) (by first | exact ResO.tmp rfl | exact ResO.cellBA rfl rfl rfl | exact ResO.cellB1 rfl rfl rfl | exact ResO.cellEA rfl rfl | exact ResO.cellE1 rfl) ?_)
    | (refine idLd ?_; first | refine p1L (D_loadB1 rfl rfl rfl) rfl ?_ | refine p1L (D_loadBA rfl rfl rfl) rfl ?_ | refine p1L (D_loadB1 rfl (by (repeat first | assumption | exact get_last | (refine get_last2 ?_; focus (simp; done)) | apply get_set | apply get_app | (apply get_ne; focus omega) | (apply get_ne; focus (simp only [List.length_set, List.length_append, List.length_cons, List.length_nil]; omega))); done) (by rfl)) rfl ?_ | refine p1L (D_loadBA rfl (by (repeat first | assumption | exact get_last | (refine get_last2 ?_; focus (simp; done)) | apply get_set | apply get_app | (apply get_ne; focus omega) | (apply get_ne; focus (simp only [List.length_set, List.length_append, List.length_cons, List.length_nil]; omega))); done) (by rfl)) rfl ?_)
    | refine Le.bool ?_
    | refine Le.int ?_
    | refine Le.str ?_
    | (refine idW ?_; first | refine W_draw0 rfl ?_ | refine W_draw1 rfl ?_ | refine W_draw2 rfl ?_ | refine W_draw3 rfl ?_)
    | (apply d1 (hd := rfl); case hop => first | (apply D_move; rfl) | (apply D_assign; rfl) | (apply D_pc (clone_pc s hs); rfl; exact .same rfl .nil) | exact D_loadG rfl h1 | (apply D_load1; rfl) | (apply D_loadW; rfl; rfl) | (apply D_loadA; rfl; rfl) | (apply D_box; rfl; rfl) | exact D_build rfl | exact D_buildA rfl)
    | (refine idDn ?_; first | refine dL _ (fun hp' hs => D_loadB1 rfl (hs.trans rfl) rfl) rfl ?_ | refine dL _ (fun hp' hs => D_loadBA rfl (hs.trans rfl) rfl) rfl ?_ | refine dS (S_store rfl rfl rfl rfl rfl rfl rfl) rfl ?_ | refine dV (S_alloc 0 rfl) rfl rfl ?_ | refine dV (S_alloc 1 rfl) rfl rfl ?_ | refine dV (S_alloc 2 rfl) rfl rfl ?_ | refine dV (S_alloc 3 rfl) rfl rfl ?_ | refine dV (S_alloc 4 rfl) rfl rfl ?_ | refine dV (S_alloc 5 rfl) rfl rfl ?_ | refine dV (S_alloc 6 rfl) rfl rfl ?_ | refine dV (S_alloc 7 rfl) rfl rfl ?_)
    | refine WD_nil (by first | decide +kernel | kernel_rfl | rfl) ?_
  all_goals exact Le.of_eq (y := .ep [str fn, str s, .sc (.iface t1 v1)]) rfl
theorem rngErr_pc [GlobF Tryz.prog] (he : ErrsOK) (fn s : List UInt8) (hs : s.length < 281474976710656) : ∃ u, PC Tryz.prog 93 [str fn, str s] u := by
  obtain ⟨t1, v1, t2, v2, h1, h2⟩ := he
  refine ⟨.ep [str fn, str s, .sc (.iface t2 v2)], ?_⟩
  refine PC.of_body Tryz.func93 Tryz.ntmps93 rfl rfl rfl ?_
  repeat' first
    | (apply p1 (hd := rfl); case hop => first | (apply D_move; rfl) | (apply D_assign; rfl) | (apply D_pc (clone_pc s hs); rfl; exact .same rfl .nil) | exact D_loadG rfl h2 | (apply D_load1; rfl) | (apply D_loadW; rfl; rfl) | (apply D_loadA; rfl; rfl) | (apply D_box; rfl; rfl) | exact D_build rfl | exact D_buildA rfl)
    | refine W_seq ?_
    | refine W_region ?_
    | refine WL_nil ?_
    | refine tn ?_
    | refine tr ?_
    | refine br ?_
    | refine bn ?_
    | refine te ?_
    | (refine idB ?_; first | refine bh rfl ?_ | refine bm rfl ?_)
    | refine W_skip ?_
    | refine W_block ?_
    | refine W_exit ?_
    | refine W_ret ?_
    | refine W_label ?_
    | refine W_scope ?_
    | refine sn ?_
    | refine sr ?_
    | refine se ?_
    | (refine idR ?_; first | refine ret1 rfl rfl rfl ?_ | refine rL1 rfl (by first | exact trivial | exact ⟨rfl, trivial⟩) (by first | exact ResO.tmp rfl | exact ResO.cellBA rfl rfl rfl | exact ResO.cellB1 rfl rfl rfl | exact ResO.cellEA rfl rfl | exact ResO.cellE1 rfl) ?_)
    | (refine idLd ?_; first | refine p1L (D_loadB1 rfl rfl rfl) rfl ?_ | refine p1L (D_loadBA rfl rfl rfl) rfl ?_ | refine p1L (D_loadB1 rfl (by (repeat first | assumption | exact get_last | (refine get_last2 ?_; focus (simp; done)) | apply get_set | apply get_app | (apply get_ne; focus omega) | (apply get_ne; focus (simp only [List.length_set, List.length_append, List.length_cons, List.length_nil]; omega))); done) (by rfl)) rfl ?_ | refine p1L (D_loadBA rfl (by (repeat first | assumption | exact get_last | (refine get_last2 ?_; focus (simp; done)) | apply get_set | apply get_app | (apply get_ne; focus omega) | (apply get_ne; focus (simp only [List.length_set, List.length_append, List.length_cons, List.length_nil]; omega))); done) (by rfl)) rfl ?_)
    | refine Le.bool ?_
    | refine Le.int ?_
    | refine Le.str ?_
    | (refine idW ?_; first | refine W_draw0 rfl ?_ | refine W_draw1 rfl ?_ | refine W_draw2 rfl ?_ | refine W_draw3 rfl ?_)
    | (apply d1 (hd := rfl); case hop => first | (apply D_move; rfl) | (apply D_assign; rfl) | (apply D_pc (clone_pc s hs); rfl; exact .same rfl .nil) | exact D_loadG rfl h2 | (apply D_load1; rfl) | (apply D_loadW; rfl; rfl) | (apply D_loadA; rfl; rfl) | (apply D_box; rfl; rfl) | exact D_build rfl | exact D_buildA rfl)
    | (refine idDn ?_; first | refine dL _ (fun hp' hs => D_loadB1 rfl (hs.trans rfl) rfl) rfl ?_ | refine dL _ (fun hp' hs => D_loadBA rfl (hs.trans rfl) rfl) rfl ?_ | refine dS (S_store rfl rfl rfl rfl rfl rfl rfl) rfl ?_ | refine dV (S_alloc 0 rfl) rfl rfl ?_ | refine dV (S_alloc 1 rfl) rfl rfl ?_ | refine dV (S_alloc 2 rfl) rfl rfl ?_ | refine dV (S_alloc 3 rfl) rfl rfl ?_ | refine dV (S_alloc 4 rfl) rfl rfl ?_ | refine dV (S_alloc 5 rfl) rfl rfl ?_ | refine dV (S_alloc 6 rfl) rfl rfl ?_ | refine dV (S_alloc 7 rfl) rfl rfl ?_)
    | refine WD_nil (by first | decide +kernel | kernel_rfl | rfl) ?_
  all_goals exact Le.of_eq (y := .ep [str fn, str s, .sc (.iface t2 v2)]) rfl

set_option maxHeartbeats 4000000 in
theorem toErr_ac [GlobF Tryz.prog] (he : ErrsOK) (fn s : List UInt8) (hs : s.length < 281474976710656) (n : Int) (hn : n = 1 ∨ n = 2) (h : List AObj) :
    AC Tryz.prog 86 [str fn, str s, .sc (.int .i64 10), .sc (.int .i64 64), .sc (.iface 118 (.int .i64 n))] h (fun v h' => h' = h ∧ ∃ u, (∃ te x, u = Value.iface te x) ∧ v = .sc u) := by
  obtain ⟨u1, hp1⟩ := synErr_pc he fn s hs
  obtain ⟨u2, hp2⟩ := rngErr_pc he fn s hs
  rcases hn with rfl | rfl
  · refine AC.of_body Tryz.func86 Tryz.ntmps86 rfl rfl rfl ?_
    repeat' first
      | (apply p1 (hd := rfl); case hop => first | (apply D_move; rfl) | (apply D_assign; rfl) | (apply D_pc hp2; rfl; exact .same rfl (.same rfl .nil)) | exact D_mkI rfl | exact D_ifE rfl rfl)
      | refine W_seq ?_
      | refine W_region ?_
      | (refine idC ?_; first | refine c1 rfl ?_ | refine c0 rfl ?_ | refine cs rfl (fun _ => ?_) (fun _ => ?_))
      | refine WL_nil ?_
      | refine tn ?_
      | refine tr ?_
      | refine br ?_
      | refine bn ?_
      | refine te ?_
      | (refine idB ?_; first | refine bh rfl ?_ | refine bm rfl ?_)
      | refine W_skip ?_
      | refine W_block ?_
      | refine W_exit ?_
      | refine W_ret ?_
      | refine W_label ?_
      | refine W_scope ?_
      | refine sn ?_
      | refine sr ?_
      | refine se ?_
      | refine Le.bool ?_
      | refine Le.int ?_
      | refine Le.str ?_
      | (refine m_mkIP rfl ?_; rintro v hv)
    exact retK1 (.inl rfl) rfl rfl (ResO.tmp rfl) ⟨rfl, _, hv, rfl⟩
  · refine AC.of_body Tryz.func86 Tryz.ntmps86 rfl rfl rfl ?_
    repeat' first
      | (apply p1 (hd := rfl); case hop => first | (apply D_move; rfl) | (apply D_assign; rfl) | (apply D_pc hp1; rfl; exact .same rfl (.same rfl .nil)) | exact D_mkI rfl | exact D_ifE rfl rfl)
      | refine W_seq ?_
      | refine W_region ?_
      | (refine idC ?_; first | refine c1 rfl ?_ | refine c0 rfl ?_ | refine cs rfl (fun _ => ?_) (fun _ => ?_))
      | refine WL_nil ?_
      | refine tn ?_
      | refine tr ?_
      | refine br ?_
      | refine bn ?_
      | refine te ?_
      | (refine idB ?_; first | refine bh rfl ?_ | refine bm rfl ?_)
      | refine W_skip ?_
      | refine W_block ?_
      | refine W_exit ?_
      | refine W_ret ?_
      | refine W_label ?_
      | refine W_scope ?_
      | refine sn ?_
      | refine sr ?_
      | refine se ?_
      | refine Le.bool ?_
      | refine Le.int ?_
      | refine Le.str ?_
      | (refine m_mkIP rfl ?_; rintro v hv)
    exact retK1 (.inl rfl) rfl rfl (ResO.tmp rfl) ⟨rfl, _, hv, rfl⟩

/-! A text's number, as the program reads it. -/
def pN (s : List UInt8) : Int := match Lib.parseIntB 64 s with
  | .ok n => n
  | .range => Lib.intSat 64 s
  | _ => 0
def pOK (s : List UInt8) : Bool := match Lib.parseIntB 64 s with
  | .ok _ => true
  | _ => false
theorem parse_rng {s : List UInt8} {n : Int} (h : Lib.parseIntB 64 s = .ok n) : -9223372036854775808 ≤ n ∧ n ≤ 9223372036854775807 := by
  cases s with
  | nil => simp [Lib.parseIntB] at h
  | cons c r =>
    simp only [Lib.parseIntB] at h
    split at h
    · cases h
    · cases h
    · split at h
      · cases h
      · rename_i h1
        split at h
        · cases h
        · rename_i h2
          cases h
          split
          · rename_i h3; simp [h3] at h2; omega
          · rename_i h3; simp [h3] at h1; omega
theorem sat_rng (s : List UInt8) : -9223372036854775808 ≤ Lib.intSat 64 s ∧ Lib.intSat 64 s ≤ 9223372036854775807 := by
  unfold Lib.intSat; split <;> decide
theorem pN_rng (s : List UInt8) : -9223372036854775808 ≤ pN s ∧ pN s ≤ 9223372036854775807 := by
  unfold pN
  split
  · rename_i n h; exact parse_rng h
  · exact sat_rng s
  · decide

set_option maxHeartbeats 4000000 in
theorem parseInt_ac [GlobF Tryz.prog] (he : ErrsOK) (s : List UInt8) (hs : s.length < 281474976710656) (h : List AObj) :
    AC Tryz.prog 75 [str s, .sc (.int .i64 10), .sc (.int .i64 64)] h (fun v h' => h' = h ∧ ∃ u, v = .tu [.sc (.int .i64 (pN s)), .sc u] ∧ ((u = .nilIface ∧ pOK s = true) ∨ ((∃ te x, u = Value.iface te x) ∧ pOK s = false))) := by
  have hi := iparse_ac s hs h
  rcases hpi : Lib.parseIntB 64 s with n | _ | _
  · have e1 : pN s = n := by unfold pN; rw [hpi]
    have e2 : pOK s = true := by unfold pOK; rw [hpi]
    have hi2 : AC Tryz.prog 85 [str s, .sc (.int .i64 10), .sc (.int .i64 64)] h (fun v h' => v = .tu [.sc (.int .i64 n), .sc .nilIface] ∧ h' = h) := hi.mono fun v h' ⟨a1, a, b, a2, a3⟩ => by
      rw [hpi] at a2; simp only [Lib.intTuple, Value.tuple.injEq, Array.mk.injEq, List.cons.injEq, and_true] at a2
      obtain ⟨rfl, rfl⟩ := a2; exact ⟨a3, a1⟩
    refine AC.of_body Tryz.func75 Tryz.ntmps75 rfl rfl rfl ?_
    repeat' first
      | (apply p1 (hd := rfl); case hop => first | (apply D_move; rfl) | (apply D_assign; rfl) | exact D_inI rfl (.inl ⟨rfl, rfl⟩) | (apply D_ext; rfl; rfl))
      | refine W_seq ?_
      | refine W_region ?_
      | (refine idC ?_; first | refine c1 rfl ?_ | refine c0 rfl ?_ | refine cs rfl (fun _ => ?_) (fun _ => ?_))
      | refine WL_nil ?_
      | refine tn ?_
      | refine tr ?_
      | refine br ?_
      | refine bn ?_
      | refine te ?_
      | (refine idB ?_; first | refine bh rfl ?_ | refine bm rfl ?_)
      | refine W_skip ?_
      | refine W_block ?_
      | refine W_exit ?_
      | refine W_ret ?_
      | refine W_label ?_
      | refine W_scope ?_
      | refine sn ?_
      | refine sr ?_
      | refine se ?_
      | refine Le.bool ?_
      | refine Le.int ?_
      | refine Le.str ?_
      | (refine m_call hi2 rfl rfl rfl ?_; rintro _ _ ⟨rfl, rfl⟩)
    exact retK (rs := [_, _]) (.inl rfl) rfl trivial (.cons (ResO.tmp rfl) (.cons (ResO.tmp rfl) .nil)) ⟨rfl, _, by rw [e1]; rfl, .inl ⟨rfl, e2⟩⟩
  · have e1 : pN s = 0 := by unfold pN; rw [hpi]
    have e2 : pOK s = false := by unfold pOK; rw [hpi]
    have hi2 : AC Tryz.prog 85 [str s, .sc (.int .i64 10), .sc (.int .i64 64)] h (fun v h' => v = .tu [.sc (.int .i64 0), .sc (.iface 118 (.int .i64 2))] ∧ h' = h) := hi.mono fun v h' ⟨a1, a, b, a2, a3⟩ => by
      rw [hpi] at a2; simp only [Lib.intTuple, Value.tuple.injEq, Array.mk.injEq, List.cons.injEq, and_true] at a2
      obtain ⟨rfl, rfl⟩ := a2; exact ⟨a3, a1⟩
    have ht := toErr_ac he [80, 97, 114, 115, 101, 73, 110, 116] s hs 2 (.inr rfl) h
    refine AC.of_body Tryz.func75 Tryz.ntmps75 rfl rfl rfl ?_
    repeat' first
      | (apply p1 (hd := rfl); case hop => first | (apply D_move; rfl) | (apply D_assign; rfl) | exact D_inI rfl (.inr ⟨⟨_, _, rfl⟩, rfl⟩) | (apply D_ext; rfl; rfl))
      | refine W_seq ?_
      | refine W_region ?_
      | (refine idC ?_; first | refine c1 rfl ?_ | refine c0 rfl ?_ | refine cs rfl (fun _ => ?_) (fun _ => ?_))
      | refine WL_nil ?_
      | refine tn ?_
      | refine tr ?_
      | refine br ?_
      | refine bn ?_
      | refine te ?_
      | (refine idB ?_; first | refine bh rfl ?_ | refine bm rfl ?_)
      | refine W_skip ?_
      | refine W_block ?_
      | refine W_exit ?_
      | refine W_ret ?_
      | refine W_label ?_
      | refine W_scope ?_
      | refine sn ?_
      | refine sr ?_
      | refine se ?_
      | refine Le.bool ?_
      | refine Le.int ?_
      | refine Le.str ?_
      | (refine m_call hi2 rfl rfl rfl ?_; rintro _ _ ⟨rfl, rfl⟩)
      | (refine m_call ht rfl rfl rfl ?_; rintro _ _ ⟨rfl, u, hu, rfl⟩)
    exact retK (rs := [_, _]) (.inl rfl) rfl trivial (.cons (ResO.tmp rfl) (.cons (ResO.tmp rfl) .nil)) ⟨rfl, _, by rw [e1]; rfl, .inr ⟨hu, e2⟩⟩
  · have e1 : pN s = Lib.intSat 64 s := by unfold pN; rw [hpi]
    have e2 : pOK s = false := by unfold pOK; rw [hpi]
    have hi2 : AC Tryz.prog 85 [str s, .sc (.int .i64 10), .sc (.int .i64 64)] h (fun v h' => v = .tu [.sc (.int .i64 (Lib.intSat 64 s)), .sc (.iface 118 (.int .i64 1))] ∧ h' = h) := hi.mono fun v h' ⟨a1, a, b, a2, a3⟩ => by
      rw [hpi] at a2; simp only [Lib.intTuple, Value.tuple.injEq, Array.mk.injEq, List.cons.injEq, and_true] at a2
      obtain ⟨rfl, rfl⟩ := a2; exact ⟨a3, a1⟩
    have ht := toErr_ac he [80, 97, 114, 115, 101, 73, 110, 116] s hs 1 (.inl rfl) h
    refine AC.of_body Tryz.func75 Tryz.ntmps75 rfl rfl rfl ?_
    repeat' first
      | (apply p1 (hd := rfl); case hop => first | (apply D_move; rfl) | (apply D_assign; rfl) | exact D_inI rfl (.inr ⟨⟨_, _, rfl⟩, rfl⟩) | (apply D_ext; rfl; rfl))
      | refine W_seq ?_
      | refine W_region ?_
      | (refine idC ?_; first | refine c1 rfl ?_ | refine c0 rfl ?_ | refine cs rfl (fun _ => ?_) (fun _ => ?_))
      | refine WL_nil ?_
      | refine tn ?_
      | refine tr ?_
      | refine br ?_
      | refine bn ?_
      | refine te ?_
      | (refine idB ?_; first | refine bh rfl ?_ | refine bm rfl ?_)
      | refine W_skip ?_
      | refine W_block ?_
      | refine W_exit ?_
      | refine W_ret ?_
      | refine W_label ?_
      | refine W_scope ?_
      | refine sn ?_
      | refine sr ?_
      | refine se ?_
      | refine Le.bool ?_
      | refine Le.int ?_
      | refine Le.str ?_
      | (refine m_call hi2 rfl rfl rfl ?_; rintro _ _ ⟨rfl, rfl⟩)
      | (refine m_call ht rfl rfl rfl ?_; rintro _ _ ⟨rfl, u, hu, rfl⟩)
    exact retK (rs := [_, _]) (.inl rfl) rfl trivial (.cons (ResO.tmp rfl) (.cons (ResO.tmp rfl) .nil)) ⟨rfl, _, by rw [e1]; rfl, .inr ⟨hu, e2⟩⟩

def pB (s : List UInt8) : Bool := pOK s && decide (Lib.itoa (pN s) = s)
set_option maxHeartbeats 4000000 in
theorem number_pc [GlobF Tryz.prog] (hp : PowOK) (he : ErrsOK) (s : List UInt8) (hs : s.length < 281474976710656) : PC Tryz.prog 60 [str s] (.tu [.sc (.int .i64 (pN s)), .sc (.bool (pB s))]) := by
  have hpi := parseInt_ac he s hs []
  obtain ⟨r1, r2⟩ := pN_rng s
  refine PC.of_body Tryz.func60 Tryz.ntmps60 rfl rfl rfl ?_
  repeat' first
    | (apply p1 (hd := rfl); case hop => first | (apply D_move; rfl) | (apply D_assign; rfl) | exact D_ieI rfl (.inl ⟨hu, rfl⟩) | exact D_ieI rfl (.inr ⟨hu, rfl⟩) | (apply D_pc (fmt_pc hp (pN s) r1 r2); rfl; exact .same rfl (.same rfl .nil)) | (apply D_pickT; rfl; rfl) | (apply D_pickF; rfl; rfl) | (apply D_str; rfl; rfl; rfl) | (apply D_ext; rfl; rfl))
    | refine W_seq ?_
    | refine W_region ?_
    | refine WL_nil ?_
    | (refine idG ?_; first | refine g0t rfl rfl rfl ?_ | refine g0f rfl rfl rfl ?_ | refine g0u rfl rfl rfl ?_ | refine gr rfl rfl ?_ | refine gs rfl rfl (fun _ => ?_) (fun _ => ?_) | refine grn rfl rfl ?_)
    | refine tn ?_
    | refine tr ?_
    | refine br ?_
    | refine bn ?_
    | refine te ?_
    | (refine idB ?_; first | refine bh rfl ?_ | refine bm rfl ?_)
    | refine W_skip ?_
    | refine W_block ?_
    | refine W_exit ?_
    | refine W_ret ?_
    | refine W_label ?_
    | refine W_scope ?_
    | refine sn ?_
    | refine sr ?_
    | refine se ?_
    | (refine idR ?_; first | refine ret2 rfl rfl rfl rfl ?_ ?_ | refine rL2 rfl (by first | exact trivial | exact ⟨rfl, trivial⟩) (by first | exact ResO.tmp rfl | exact ResO.cellBA rfl rfl rfl | exact ResO.cellB1 rfl rfl rfl | exact ResO.cellEA rfl rfl | exact ResO.cellE1 rfl) (by first | exact ResO.tmp rfl | exact ResO.cellBA rfl rfl rfl | exact ResO.cellB1 rfl rfl rfl | exact ResO.cellEA rfl rfl | exact ResO.cellE1 rfl) ?_ ?_)
    | refine Le.bool ?_
    | refine Le.int ?_
    | refine Le.str ?_
    | (refine m_call hpi rfl rfl rfl ?_; rintro _ _ ⟨rfl, u, rfl, hu⟩; rcases hu with ⟨hu, hb⟩ | ⟨hu, hb⟩)
  all_goals first | rfl | (unfold pB; rw [hb]; rfl) | (unfold pB; rw [hb]; simp [sEq])
end Go.Proofs
