
/- Contracts of numbers' texts. -/
import Derived.Test.YtfnmipagllofiaaDoorUS1
import Derived.Test.YtfnmipagllofiaaDoorPN
import Derived.Test.YtfnmipagllofiaaDoorOps5
import Derived.Lib.UnsafeStr
import Derived.Lib.Walk
import Derived.WalkKit
import Derived.OwnWalk
import Derived.Shelf.RegionOpenPlain
import Derived.Lib.BufferWrite
import Derived.Lib.Hide
import Derived.Laws.MakeOwn
import Derived.Lib.ParseIntBTie
namespace Go.Proofs
open Go.AL Go.Sort
attribute [local irreducible] Go.AL.W Go.AL.WL Go.AL.WD Go.AL.POp Go.AL.PPOp Go.AL.POpS Go.AL.PC Go.AL.AC Go.AL.YW Go.AL.Ret Go.AL.Le Go.AL.thn Go.AL.inBlk Go.AL.scp
def digP (c : UInt8) : Prop := 48 ≤ (c.toNat : Int) ∧ (c.toNat : Int) ≤ 57
instance (p : Prop) : BP (dP p) p (¬ p) := ⟨fun h => by rwa [dP_t] at h, fun h => by rwa [dP_f] at h⟩
set_option maxHeartbeats 400000 in
theorem digit_pc [GlobF Tryd.prog] (c : UInt8) : PC Tryd.prog 48 [.sc (.int .u8 c.toNat)] (.sc (.bool (dP (digP c)))) := by
  refine PC.of_body Tryd.func48 Tryd.ntmps48 rfl rfl rfl ?_
  repeat' first
    | (apply p1 (hd := rfl); case hop => first | (apply D_move; rfl) | (apply D_assign; rfl) | (apply D_pickT; rfl; rfl) | (apply D_pickF; rfl; rfl) | (apply D_int; rfl; rfl; rfl))
    | refine W_seq ?_
    | refine W_region ?_
    | refine WL_nil ?_
    | (refine idG ?_; first | refine g0t rfl rfl rfl ?_ | refine g0f rfl rfl rfl ?_ | refine g0u rfl rfl rfl ?_ | refine gr rfl rfl ?_ | refine gs rfl rfl (fun _ => ?_) (fun _ => ?_) | refine grn rfl rfl ?_)
    | refine tn ?_
    | refine tr ?_
    | refine br ?_
    | refine bn ?_
    | refine te ?_
    | (refine idB ?_; first | refine bh rfl ?_ | refine bm rfl ?_)
    | refine W_skip ?_
    | refine W_block ?_
    | refine W_exit ?_
    | refine W_ret ?_
    | refine W_label ?_
    | refine W_scope ?_
    | refine sn ?_
    | refine sr ?_
    | refine se ?_
    | (refine idR ?_; first | refine ret1 rfl rfl rfl ?_ | refine rL1 rfl (by first | exact trivial | exact ⟨rfl, trivial⟩) (by first | exact ResO.tmp rfl | exact ResO.cellBA rfl rfl rfl | exact ResO.cellB1 rfl rfl rfl | exact ResO.cellEA rfl rfl | exact ResO.cellE1 rfl) ?_)
    | refine Le.bool ?_
    | refine Le.int ?_
    | refine Le.str ?_
  all_goals (refine dP_eq ?_; simp only [digP, iLe_t, Bool.false_eq_true, false_iff]; omega)
instance : Xt Tryd.prog 58 Extern.AbiNoEscape.same := ⟨run_callFunc_extern Tryd.func58 (by kernel_rfl) (by kernel_rfl) (by kernel_rfl) (by kernel_rfl)⟩
instance : Lies Tryd.prog 55 2 0 55 := ⟨by kernel_rfl⟩
def ownP (r : Nat) (p : AV) : Prop := p = .sc (.pointer none) ∨ p = .bp r 0
set_option maxHeartbeats 4000000 in
theorem ccheck_ac [GlobF Tryd.prog] {h : List AObj} {r n T : Nat} {p : AV} {xs : List AV} [hl : Lies Tryd.prog T n 0 55] (hr : h[r]? = some (.cells (p :: xs) (some T))) (hn : xs.length + 1 = n) (hp : ownP r p) :
    AC Tryd.prog 38 [.bp r 0] h (fun v h' => v = .tu [] ∧ h' = h.set r (.cells (.bp r 0 :: xs) (some T))) := by
  rcases hp with rfl | rfl
  · refine AC.of_body Tryd.func38 Tryd.ntmps38 rfl rfl rfl ?_
    repeat' first
      | (refine p1L (D_loadB1 rfl hr rfl) rfl ?_)
      | (refine p1L (D_toU rfl hr rfl rfl) rfl ?_)
      | (refine p1L (D_fromU rfl hr hn) rfl ?_)
      | (refine pS (S_store rfl rfl rfl hr rfl rfl rfl) ?_)
      | (apply p1 (hd := rfl); case hop => first | (apply D_move; rfl) | exact D_peN rfl rfl | exact D_noesc rfl rfl | (apply D_load1; rfl) | (apply D_fld; rfl) | (apply D_loadW; rfl; rfl) | (apply D_loadA; rfl; rfl) | (apply D_conv_int; rfl) | (apply D_conv_str; rfl) | (apply D_s2b; rfl) | (apply D_b2s; rfl) | exact D_xcmp rfl rfl rfl | exact D_xidx rfl rfl rfl | exact D_fldB rfl | (apply D_nilB; rfl) | (apply D_nilE; rfl))
      | refine W_seq ?_
      | refine W_region ?_
      | (refine idC ?_; first | refine c1 rfl ?_ | refine c0 rfl ?_ | refine cs rfl (fun _ => ?_) (fun _ => ?_))
      | refine WL_nil ?_
      | refine tn ?_
      | refine tr ?_
      | refine br ?_
      | refine bn ?_
      | refine te ?_
      | (refine idB ?_; first | refine bh rfl ?_ | refine bm rfl ?_)
      | refine W_skip ?_
      | refine W_block ?_
      | refine W_exit ?_
      | refine W_ret ?_
      | refine W_label ?_
      | refine W_scope ?_
      | refine sn ?_
      | refine sr ?_
      | refine se ?_
      | (refine idLd ?_; first | refine p1L (D_loadB1 rfl rfl rfl) rfl ?_ | refine p1L (D_loadBA rfl rfl rfl) rfl ?_ | refine p1L (D_loadB1 rfl (by (repeat first | assumption | exact get_last | (refine get_last2 ?_; focus (simp; done)) | apply get_set | apply get_app | (apply get_ne; focus omega) | (apply get_ne; focus (simp only [List.length_set, List.length_append, List.length_cons, List.length_nil]; omega))); done) (by rfl)) rfl ?_ | refine p1L (D_loadBA rfl (by (repeat first | assumption | exact get_last | (refine get_last2 ?_; focus (simp; done)) | apply get_set | apply get_app | (apply get_ne; focus omega) | (apply get_ne; focus (simp only [List.length_set, List.length_append, List.length_cons, List.length_nil]; omega))); done) (by rfl)) rfl ?_)
      | (refine idS ?_; first | refine pS (S_store rfl rfl rfl rfl rfl rfl rfl) ?_ | refine pS (S_store rfl rfl rfl (by (repeat first | assumption | exact get_last | (refine get_last2 ?_; focus (simp; done)) | apply get_set | apply get_app | (apply get_ne; focus omega) | (apply get_ne; focus (simp only [List.length_set, List.length_append, List.length_cons, List.length_nil]; omega))); done) (by rfl) (by rfl) (by rfl)) ?_)
      | refine Le.bool ?_
      | refine Le.int ?_
      | refine Le.str ?_
    exact ret0 (.inr rfl) rfl rfl ⟨rfl, rfl⟩
  · refine AC.of_body Tryd.func38 Tryd.ntmps38 rfl rfl rfl ?_
    repeat' first
      | (refine p1L (D_loadB1 rfl hr rfl) rfl ?_)
      | (apply p1 (hd := rfl); case hop => first | (apply D_move; rfl) | exact D_peB rfl rfl | exact D_pnB rfl rfl | (apply D_load1; rfl) | (apply D_fld; rfl) | (apply D_loadW; rfl; rfl) | (apply D_loadA; rfl; rfl) | (apply D_conv_int; rfl) | (apply D_conv_str; rfl) | (apply D_s2b; rfl) | (apply D_b2s; rfl) | exact D_xcmp rfl rfl rfl | exact D_xidx rfl rfl rfl | exact D_fldB rfl | (apply D_nilB; rfl) | (apply D_nilE; rfl))
      | refine W_seq ?_
      | refine W_region ?_
      | (refine idC ?_; first | refine c1 rfl ?_ | refine c0 rfl ?_ | refine cs rfl (fun _ => ?_) (fun _ => ?_))
      | refine WL_nil ?_
      | refine tn ?_
      | refine tr ?_
      | refine br ?_
      | refine bn ?_
      | refine te ?_
      | (refine idB ?_; first | refine bh rfl ?_ | refine bm rfl ?_)
      | refine W_skip ?_
      | refine W_block ?_
      | refine W_exit ?_
      | refine W_ret ?_
      | refine W_label ?_
      | refine W_scope ?_
      | refine sn ?_
      | refine sr ?_
      | refine se ?_
      | (refine idLd ?_; first | refine p1L (D_loadB1 rfl rfl rfl) rfl ?_ | refine p1L (D_loadBA rfl rfl rfl) rfl ?_ | refine p1L (D_loadB1 rfl (by (repeat first | assumption | exact get_last | (refine get_last2 ?_; focus (simp; done)) | apply get_set | apply get_app | (apply get_ne; focus omega) | (apply get_ne; focus (simp only [List.length_set, List.length_append, List.length_cons, List.length_nil]; omega))); done) (by rfl)) rfl ?_ | refine p1L (D_loadBA rfl (by (repeat first | assumption | exact get_last | (refine get_last2 ?_; focus (simp; done)) | apply get_set | apply get_app | (apply get_ne; focus omega) | (apply get_ne; focus (simp only [List.length_set, List.length_append, List.length_cons, List.length_nil]; omega))); done) (by rfl)) rfl ?_)
      | (refine idS ?_; first | refine pS (S_store rfl rfl rfl rfl rfl rfl rfl) ?_ | refine pS (S_store rfl rfl rfl (by (repeat first | assumption | exact get_last | (refine get_last2 ?_; focus (simp; done)) | apply get_set | apply get_app | (apply get_ne; focus omega) | (apply get_ne; focus (simp only [List.length_set, List.length_append, List.length_cons, List.length_nil]; omega))); done) (by rfl) (by rfl) (by rfl)) ?_)
      | refine Le.bool ?_
      | refine Le.int ?_
      | refine Le.str ?_
    exact ret0 (.inr rfl) rfl rfl ⟨rfl, (set_self hr).symm⟩
abbrev bCells (p : AV) (tk : Nat) (l : List UInt8) (ys : List AV) : List AV := p :: .sl (some tk) 1 (l.map byteC) :: ys
structure Bld (h : List AObj) (r tk T : Nat) (p : AV) (l : List UInt8) (ys : List AV) : Prop where
  box : h[r]? = some (.cells (bCells p tk l ys) (some T))
  tail : h[tk]? = some (.tail l.length 1 5)
  own : ownP r p
  lt : l.length < 1099511627776
theorem Bld.ne {h : List AObj} {r tk T : Nat} {p : AV} {l : List UInt8} {ys : List AV} (hb : Bld h r tk T p l ys) : r ≠ tk := fun e => by
  subst e
  have := hb.box.symm.trans hb.tail
  cases this
def bldH (h : List AObj) (r tk T : Nat) (l : List UInt8) (ys : List AV) : List AObj := (h.set tk (.tail l.length 1 5)).set r (.cells (bCells (.bp r 0) tk l ys) (some T))
theorem Bld.next {h : List AObj} {r tk T : Nat} {p : AV} {l : List UInt8} {ys : List AV} (hb : Bld h r tk T p l ys) (m : List UInt8) (zs : List AV) (hm : m.length < 1099511627776) : Bld (bldH h r tk T m zs) r tk T (.bp r 0) m zs :=
  ⟨List.getElem?_set_self (by rw [List.length_set]; exact get_lt hb.box), by unfold bldH; rw [List.getElem?_set_ne hb.ne]; exact List.getElem?_set_self (get_lt hb.tail), .inr rfl, hm⟩
set_option maxHeartbeats 4000000 in
theorem wstr_ac [GlobF Tryd.prog] {h : List AObj} {r tk n T : Nat} {p : AV} {l : List UInt8} {ys : List AV} [hl : Lies Tryd.prog T n 0 55] (hn : ys.length + 2 = n) (hb : Bld h r tk T p l ys) (s : List UInt8) (hs : s.length < 1099511627776) :
    AC Tryd.prog 25 [.bp r 0, str s] h (fun v h' => v = .tu [.sc (.int .i64 (s.length : Int)), .sc .nilIface] ∧ h' = bldH h r tk T (l ++ s) ys) := by
  have hlt := hb.lt
  have hc := ccheck_ac (n := n) hb.box (by simpa using hn) hb.own
  have h1 : (h.set r (.cells (bCells (.bp r 0) tk l ys) (some T)))[r]? = some (.cells (bCells (.bp r 0) tk l ys) (some T)) := List.getElem?_set_self (get_lt hb.box)
  have h2 : (h.set r (.cells (bCells (.bp r 0) tk l ys) (some T)))[tk]? = some (.tail l.length 1 5) := get_ne hb.ne hb.tail
  have h3 : ((h.set r (.cells (bCells (.bp r 0) tk l ys) (some T))).set tk (.tail (l.length + s.length) 1 5))[r]? = some (.cells (bCells (.bp r 0) tk l ys) (some T)) := get_ne hb.ne.symm h1
  refine AC.of_body Tryd.func25 Tryd.ntmps25 rfl rfl rfl ?_
  repeat' first
    | (refine m_call hc rfl rfl rfl ?_; rintro _ _ ⟨rfl, rfl⟩)
    | (refine p1L (D_loadB1 rfl h1 rfl) rfl ?_)
    | (refine idAp ?_; refine m_appS rfl rfl h2 (by rw [List.length_map]) (by rw [List.length_map]; omega) rfl ?_)
    | (refine pS (S_store rfl rfl rfl (by rw [List.length_map]; exact h3) rfl rfl rfl) ?_)
    | (apply p1 (hd := rfl); case hop => first | (apply D_move; rfl) | (apply D_assign; rfl) | (apply D_load1; rfl) | (apply D_fld; rfl) | (apply D_len_str; rfl) | (apply D_loadW; rfl; rfl) | (apply D_loadA; rfl; rfl) | exact D_fldB rfl | (apply D_nilB; rfl) | (apply D_nilE; rfl))
    | refine W_seq ?_
    | refine W_region ?_
    | refine WL_nil ?_
    | refine tn ?_
    | refine tr ?_
    | refine br ?_
    | refine bn ?_
    | refine te ?_
    | (refine idB ?_; first | refine bh rfl ?_ | refine bm rfl ?_)
    | refine W_skip ?_
    | refine W_block ?_
    | refine W_exit ?_
    | refine W_ret ?_
    | refine W_label ?_
    | refine W_scope ?_
    | refine sn ?_
    | refine sr ?_
    | refine se ?_
    | (refine idLd ?_; first | refine p1L (D_loadB1 rfl rfl rfl) rfl ?_ | refine p1L (D_loadBA rfl rfl rfl) rfl ?_ | refine p1L (D_loadB1 rfl (by (repeat first | assumption | exact get_last | (refine get_last2 ?_; focus (simp; done)) | apply get_set | apply get_app | (apply get_ne; focus omega) | (apply get_ne; focus (simp only [List.length_set, List.length_append, List.length_cons, List.length_nil]; omega))); done) (by rfl)) rfl ?_ | refine p1L (D_loadBA rfl (by (repeat first | assumption | exact get_last | (refine get_last2 ?_; focus (simp; done)) | apply get_set | apply get_app | (apply get_ne; focus omega) | (apply get_ne; focus (simp only [List.length_set, List.length_append, List.length_cons, List.length_nil]; omega))); done) (by rfl)) rfl ?_)
    | (refine idS ?_; first | refine pS (S_store rfl rfl rfl rfl rfl rfl rfl) ?_ | refine pS (S_store rfl rfl rfl (by (repeat first | assumption | exact get_last | (refine get_last2 ?_; focus (simp; done)) | apply get_set | apply get_app | (apply get_ne; focus omega) | (apply get_ne; focus (simp only [List.length_set, List.length_append, List.length_cons, List.length_nil]; omega))); done) (by rfl) (by rfl) (by rfl)) ?_)
    | refine Le.bool ?_
    | refine Le.int ?_
    | refine Le.str ?_
    | (refine idAp ?_; refine m_app rfl rfl (by first | rfl | assumption | exact get_set (by assumption) | exact get_set (get_set (by assumption)) | exact get_set (get_set (get_set (by assumption))) | ((repeat first | assumption | exact get_last | (refine get_last2 ?_; focus (simp; done)) | apply get_set | apply get_app | (apply get_ne; focus omega)); done)) ?_ rfl rfl ?_ ?_ rfl ?_; (first | rfl | focus (simp only [List.length_map, List.length_append, List.length_cons, List.length_nil]; omega) | focus (simp; done) | focus (simp; omega)); (first | focus (simp only [List.length_map, List.length_append, List.length_cons, List.length_nil]; omega) | focus (simp; done) | focus (simp; omega)); (first | focus (simp only [List.length_map, List.length_append, List.length_cons, List.length_nil]; omega) | focus (simp; done) | focus (simp; omega)))
    | (refine idAp ?_; refine m_appB rfl rfl rfl (by first | rfl | assumption | exact get_set (by assumption) | exact get_set (get_set (by assumption)) | exact get_set (get_set (get_set (by assumption))) | ((repeat first | assumption | exact get_last | (refine get_last2 ?_; focus (simp; done)) | apply get_set | apply get_app | (apply get_ne; focus omega)); done)) ?_ rfl rfl ?_ ?_ rfl ?_; (first | rfl | focus (simp only [List.length_map, List.length_append, List.length_cons, List.length_nil]; omega) | focus (simp; done) | focus (simp; omega)); (first | focus (simp only [List.length_map, List.length_append, List.length_cons, List.length_nil]; omega) | focus (simp; done) | focus (simp; omega)); (first | focus (simp only [List.length_map, List.length_append, List.length_cons, List.length_nil]; omega) | focus (simp; done) | focus (simp; omega)))
  refine retK (rs := [_, _]) (.inl rfl) rfl trivial (.cons (ResO.tmp rfl) (.cons (ResO.tmp rfl) .nil)) ⟨rfl, ?_⟩
  show _ = bldH h r tk T (l ++ s) ys
  simp only [bldH, kill]
  rw [List.set_comm _ _ hb.ne, List.set_set]
  simp [bCells]
theorem drew_freeze_heap (w : World) (g n b : Nat) (hb : b ≠ g) : (w.drew.freeze ⟨g, 0, none⟩ n).heap[b]? = w.heap[b]? := by
  unfold World.freeze
  split
  · rfl
  · show (w.heap.modify g _)[b]? = w.heap[b]?
    simp [Array.getElem?_modify, Ne.symm hb]
theorem drew_freeze_cell (w : World) (g n b o : Nat) : (w.drew.freeze ⟨g, 0, none⟩ n).cell? ⟨b, o, none⟩ = w.cell? ⟨b, o, none⟩ := by
  by_cases hb : b = g
  · subst hb
    unfold World.freeze
    split
    · rfl
    · have e : ∀ f : Obj → Obj, (w.heap.modify b f)[b]? = (w.heap[b]?).map f := fun f => by rw [Array.getElem?_modify, if_pos rfl]
      simp only [World.cell?]
      rw [show w.drew.heap = w.heap from rfl, e]
      cases h : w.heap[b]? with
      | none => rfl
      | some o => cases o <;> rfl
  · unfold World.cell?
    rw [drew_freeze_heap w g n b hb]
theorem drew_freeze_size (w : World) (g n : Nat) : (w.drew.freeze ⟨g, 0, none⟩ n).heap.size = w.heap.size := by
  unfold World.freeze
  split
  · rfl
  · show (w.heap.modify g _).size = w.heap.size
    simp
theorem drew_freeze_drawn (w : World) (g n : Nat) : (w.drew.freeze ⟨g, 0, none⟩ n).drawn = w.drawn + 1 ∧ (w.drew.freeze ⟨g, 0, none⟩ n).tape = w.tape ∧ (w.drew.freeze ⟨g, 0, none⟩ n).os = w.os ∧ (w.drew.freeze ⟨g, 0, none⟩ n).output = w.output := by
  unfold World.freeze
  split <;> exact ⟨rfl, rfl, rfl, rfl⟩
set_option maxHeartbeats 4000000 in
set_option maxRecDepth 100000 in
theorem bstr_calls (b g cap : Nat) (cs cur : Array Value) (T : TypeId) (l : List UInt8) (w : World) (h0 : l ≠ []) (hbk : w.heap[b]? = some (.cells cs T (0, 0))) (hcs : cs[1]? = some (.slice (some ⟨g, 0, none⟩) l.length cap)) (hg : w.heap[g]? = some (.cells cur 5 (0, 0)))
    (hnc : l.length ≤ cap) (hcm : cap ≤ maxLen) (hsz : cur.size = cap) (hby : ∀ j x, l[j]? = some x → w.cell? ⟨g, j, none⟩ = some (.int .u8 x.toNat)) :
    Calls Tryd.prog 26 #[.pointer (some ⟨b, 0, none⟩)] w fun e w' => e = .returned (.string ⟨l.toArray⟩) ∧ w' = w.drew.freeze ⟨g, 0, none⟩ l.length := by
  have hl0 : l.length ≠ 0 := by simpa using h0
  have c1 : w.drew.cell? ⟨b, 1, none⟩ = some (.slice (some ⟨g, 0, none⟩) l.length cap) := by
    have : w.drew.heap[b]? = some (.cells cs T (0, 0)) := hbk
    rw [Lib.cell_of_heap this]; exact hcs
  have hSD : ∀ ts ty, (Builtin.unsafeSliceData_ ts ty #[.slice (some ⟨g, 0, none⟩) l.length cap]).run Tryd.prog w.drew = .ok (.pointer (some ⟨g, 0, none⟩)) w.drew := fun ts ty =>
    Lib.run_unsafeSliceData_row _ _ _ _ _ _ (by omega)
  have hUS : ∀ pt it ty, Tryd.prog.underlying pt = some (.pointer 5) → (Builtin.unsafeString_ #[pt, it] ty #[.pointer (some ⟨g, 0, none⟩), .int .i64 l.length]).run Tryd.prog w.drew = .ok (.string ⟨l.toArray⟩) (w.drew.freeze ⟨g, 0, none⟩ l.length) := fun pt it ty hpt => by
    refine Lib.run_unsafeString_row w.drew pt it ty 5 hpt (by kernel_rfl) g cur.size (by have hg' : w.drew.heap[g]? = some (.cells cur 5 (0, 0)) := hg; simp [World.shape?, hg']) l h0 (by omega) (by unfold maxLen at hcm; omega) ?_
    intro j x hx
    rw [Addr.add_lit, Nat.zero_add]
    exact hby j x hx
  have hUS' := hUS 68 3 9 Tryd.underlying68
  have hSD' := hSD #[53] 68
  have mixed : Tryd.prog.follows Departure.mixedOrders = true := by decide
  go_enter Tryd.func26, Tryd.ntmps26
  go_wp2
  go_region_o
  all_goals (go_wp2; go_ret; exact ⟨rfl, rfl⟩)
set_option maxHeartbeats 4000000 in
set_option maxRecDepth 100000 in
theorem bstr0_calls (b : Nat) (cs : Array Value) (T : TypeId) (w : World) (hbk : w.heap[b]? = some (.cells cs T (0, 0))) (hcs : cs[1]? = some (.slice none 0 0)) :
    Calls Tryd.prog 26 #[.pointer (some ⟨b, 0, none⟩)] w fun e w' => e = .returned (.string ⟨#[]⟩) ∧ w' = w.drew := by
  have c1 : w.drew.cell? ⟨b, 1, none⟩ = some (.slice none 0 0) := by
    have : w.drew.heap[b]? = some (.cells cs T (0, 0)) := hbk
    rw [Lib.cell_of_heap this]; exact hcs
  have hSD : (Builtin.unsafeSliceData_ #[53] 68 #[.slice none 0 0]).run Tryd.prog w.drew = .ok (.pointer none) w.drew := Lib.run_unsafeSliceData_nil _ _ _ _ _
  have hUS : (Builtin.unsafeString_ #[68, 3] 9 #[.pointer none, .int .i64 0]).run Tryd.prog w.drew = .ok (.string .empty) w.drew := Lib.run_unsafeString_none _ _ _ _ _
  have mixed : Tryd.prog.follows Departure.mixedOrders = true := by decide
  go_enter Tryd.func26, Tryd.ntmps26
  go_wp2
  go_region_o
  all_goals (go_wp2; go_ret; exact ⟨rfl, rfl⟩)
set_option maxHeartbeats 4000000 in
set_option maxRecDepth 100000 in
theorem bstr1_calls (b g cap : Nat) (cs : Array Value) (T : TypeId) (w : World) (hbk : w.heap[b]? = some (.cells cs T (0, 0))) (hcs : cs[1]? = some (.slice (some ⟨g, 0, none⟩) 0 cap)) (hc0 : cap ≠ 0) :
    Calls Tryd.prog 26 #[.pointer (some ⟨b, 0, none⟩)] w fun e w' => e = .returned (.string ⟨#[]⟩) ∧ w' = w.drew := by
  have c1 : w.drew.cell? ⟨b, 1, none⟩ = some (.slice (some ⟨g, 0, none⟩) 0 cap) := by
    have : w.drew.heap[b]? = some (.cells cs T (0, 0)) := hbk
    rw [Lib.cell_of_heap this]; exact hcs
  have hSD : (Builtin.unsafeSliceData_ #[53] 68 #[.slice (some ⟨g, 0, none⟩) 0 cap]).run Tryd.prog w.drew = .ok (.pointer (some ⟨g, 0, none⟩)) w.drew := Lib.run_unsafeSliceData_row _ _ _ _ _ _ hc0
  have hUS : (Builtin.unsafeString_ #[68, 3] 9 #[.pointer (some ⟨g, 0, none⟩), .int .i64 0]).run Tryd.prog w.drew = .ok (.string .empty) w.drew := Lib.run_unsafeString_none _ _ _ _ _
  clear hc0
  have mixed : Tryd.prog.follows Departure.mixedOrders = true := by decide
  go_enter Tryd.func26, Tryd.ntmps26
  go_wp2
  go_region_o
  all_goals (go_wp2; go_ret; exact ⟨rfl, rfl⟩)
set_option maxHeartbeats 4000000 in
set_option maxRecDepth 100000 in
theorem bstr2_calls (b g : Nat) (cs cur : Array Value) (T : TypeId) (w : World) (hbk : w.heap[b]? = some (.cells cs T (0, 0))) (hcs : cs[1]? = some (.slice (some ⟨g, 0, none⟩) 0 0)) (hg : w.heap[g]? = some (.cells cur 5 (0, 0))) :
    Calls Tryd.prog 26 #[.pointer (some ⟨b, 0, none⟩)] w fun e w' => e = .returned (.string ⟨#[]⟩) ∧ Grown w w' := by
  have hlt : b < w.heap.size := (Array.getElem?_eq_some_iff.1 hbk).1
  have c1 : w.drew.cell? ⟨b, 1, none⟩ = some (.slice (some ⟨g, 0, none⟩) 0 0) := by
    have : w.drew.heap[b]? = some (.cells cs T (0, 0)) := hbk
    rw [Lib.cell_of_heap this]; exact hcs
  have hSD : (Builtin.unsafeSliceData_ #[53] 68 #[.slice (some ⟨g, 0, none⟩) 0 0]).run Tryd.prog w.drew = .ok (.pointer (some ⟨w.drew.heap.size, 0, none⟩)) (w.drew.alloc (.view ⟨g, 0, none⟩ 5)) :=
    Lib.run_unsafeSliceData_zero w.drew _ _ 5 Tryd.underlying68 ⟨g, 0, none⟩ 0 (5, cur.size) (by have hg' : w.drew.heap[g]? = some (.cells cur 5 (0, 0)) := hg; simp [World.shape?, hg'])
  have c2 : (w.drew.alloc (.view ⟨g, 0, none⟩ 5)).cell? ⟨b, 1, none⟩ = some (.slice (some ⟨g, 0, none⟩) 0 0) := by
    have : (w.drew.alloc (.view ⟨g, 0, none⟩ 5)).heap[b]? = _ := (Lib.alloc_old w.drew _ b hlt).trans hbk
    rw [Lib.cell_of_heap this]; exact hcs
  have c3 : (w.alloc (.view ⟨g, 0, none⟩ 5)).drew.cell? ⟨b, 1, none⟩ = some (.slice (some ⟨g, 0, none⟩) 0 0) := c2
  have c0 : w.cell? ⟨b, 1, none⟩ = some (.slice (some ⟨g, 0, none⟩) 0 0) := c1
  have hUS : (Builtin.unsafeString_ #[68, 3] 9 #[.pointer (some ⟨w.heap.size, 0, none⟩), .int .i64 0]).run Tryd.prog (w.alloc (.view ⟨g, 0, none⟩ 5)).drew = .ok (.string .empty) (w.alloc (.view ⟨g, 0, none⟩ 5)).drew := Lib.run_unsafeString_none _ _ _ _ _
  have mixed : Tryd.prog.follows Departure.mixedOrders = true := by decide
  have hG' : Grown w (w.alloc (.view ⟨g, 0, none⟩ 5)).drew := ⟨rfl, rfl, rfl, Nat.le_succ _, by show w.heap.size ≤ (w.heap.push _).size; simp, fun k hk => Lib.alloc_old w.drew _ k hk⟩
  have hG : Grown w (w.drew.alloc (.view ⟨g, 0, none⟩ 5)) := ⟨rfl, rfl, rfl, Nat.le_succ _, by show w.heap.size ≤ (w.heap.push _).size; simp, fun k hk => Lib.alloc_old w.drew _ k hk⟩
  go_enter Tryd.func26, Tryd.ntmps26
  go_wp2
  go_region_o
  all_goals (go_wp2; go_ret; first | exact ⟨rfl, hG⟩ | exact ⟨rfl, hG'⟩)
def PowOK [GlobF Tryd.prog] : Prop := ∃ t fz, GlobF.o Tryd.prog 1 = some (.cells (Lib.pow10Tab.map (Value.int .u64)).toArray t fz)
def ErrsOK [GlobF Tryd.prog] : Prop := ∃ t1 u1 t2 u2, GlobF.f Tryd.prog 2 0 = some (.iface t1 u1) ∧ GlobF.f Tryd.prog 3 0 = some (.iface t2 u2)
theorem grown_grow (w : World) (k : Nat) (os : Array Obj) : AL.Grown w (Go.Sort.grow (w.drewN k) os) :=
  ⟨rfl, rfl, rfl, Nat.le_add_right _ _, by show w.heap.size ≤ (w.heap ++ os).size; simp, fun b hb => by show (w.heap ++ os)[b]? = _; exact Array.getElem?_append_left hb⟩
theorem fmt_pc [GlobF Tryd.prog] (hp : PowOK) (n : Int) (h0 : -9223372036854775808 ≤ n) (h1 : n ≤ 9223372036854775807) : PC Tryd.prog 23 [.sc (.int .i64 n), .sc (.int .i64 10)] (str (Lib.itoa n)) := by
  obtain ⟨t, fz, hg⟩ := hp
  refine PC.of_grown (us := [.int .i64 n, .int .i64 10]) (enters_of Tryd.func23 (by kernel_rfl) rfl) fun w _ hgo => ?_
  have htab : Lib.TabIs Tryd.prog w "internal/strconv.uint64pow10" .u64 Lib.pow10Tab := by
    unfold Lib.TabIs World.var?
    rw [show Tryd.prog.globalNamed "internal/strconv.uint64pow10" = some 1 by kernel_rfl]
    simp only [Option.bind_some]
    rw [hgo _ _ hg]
  exact (Any.strconv_FormatInt_10 Tryd.lays173 n h0 h1 w htab).mono fun e w' ⟨h1, k, os, h2⟩ => ⟨h1, h2 ▸ grown_grow w k os⟩
theorem grown_bytes {w w' : World} {T : TypeId} {s : ByteArray} (h : w' = w ∨ ∃ t, w' = Lib.bytesWorld w T t) : AL.Grown w w' := by
  rcases h with rfl | ⟨t, rfl⟩
  · exact ⟨rfl, rfl, rfl, Nat.le_refl _, Nat.le_refl _, fun _ _ => rfl⟩
  · have hf : ∀ (w0 : World) (a : Addr) (n : Nat), (w0.freeze a n).tape = w0.tape ∧ (w0.freeze a n).os = w0.os ∧ (w0.freeze a n).output = w0.output ∧ (w0.freeze a n).drawn = w0.drawn ∧ (w0.freeze a n).heap.size = w0.heap.size ∧ ∀ b, b ≠ a.block → (w0.freeze a n).heap[b]? = w0.heap[b]? := fun w0 a n => by
      unfold World.freeze
      split
      · exact ⟨rfl, rfl, rfl, rfl, rfl, fun _ _ => rfl⟩
      · refine ⟨rfl, rfl, rfl, rfl, by show (w0.heap.modify _ _).size = _; simp, fun b hb => ?_⟩
        show (w0.heap.modify a.block _)[b]? = _
        simp [Array.getElem?_modify, Ne.symm hb]
    unfold Lib.bytesWorld
    obtain ⟨h1, h2, h3, h4, h5, h6⟩ := hf (w.drew.alloc (.cells (Lib.bytesCells w T t) T)) ⟨w.heap.size, (Lib.bytesCells w T t).size, none⟩ 1
    refine ⟨h1, h2, h3, by rw [h4]; exact Nat.le_succ _, by rw [h5]; show w.heap.size ≤ (w.heap.push _).size; simp, fun b hb => ?_⟩
    rw [h6 b (by show b ≠ w.heap.size; omega)]
    exact Lib.alloc_old w.drew _ b hb
theorem iparse_ac [GlobF Tryd.prog] (s : List UInt8) (hs : s.length < 281474976710656) (h : List AObj) : AC Tryd.prog 46 [str s, .sc (.int .i64 10), .sc (.int .i64 64)] h (fun v h' => h' = h ∧ ∃ a b, Value.tuple #[a, b] = Lib.intTuple 94 (Lib.intSat 64 s) (Lib.parseIntB 64 s) ∧ v = .tu [.sc a, .sc b]) := by
  refine AC.of_grown2 (us := [.string ⟨s.toArray⟩, .int .i64 10, .int .i64 64]) (enters_of Tryd.func46 (by kernel_rfl) rfl) fun w _ _ => ?_
  refine (Any.internal_strconv_ParseInt_10_all64 Tryd.lays247 ⟨s.toArray⟩ (by show s.toArray.size ≤ _; simp; omega) w).mono ?_
  rintro e w' ⟨rfl, hw⟩
  rcases hpi : Lib.parseIntB 64 s with n | _ | _
  · exact ⟨.int .i64 n, .nilIface, rfl, by simp [Lib.intTuple], grown_bytes (s := ⟨s.toArray⟩) hw⟩
  · exact ⟨.int .i64 0, .iface 94 (.int .i64 2), rfl, by simp [Lib.intTuple]; rfl, grown_bytes (s := ⟨s.toArray⟩) hw⟩
  · exact ⟨.int .i64 (Lib.intSat 64 s), .iface 94 (.int .i64 1), rfl, by simp [Lib.intTuple]; rfl, grown_bytes (s := ⟨s.toArray⟩) hw⟩
set_option maxHeartbeats 4000000 in
set_option maxRecDepth 100000 in
theorem clone_calls (s : ByteArray) (w : World) (hlim : s.size ≤ 281474976710656) :
    Calls Tryd.prog 85 #[.string s] w fun e w' => e = .returned (.string s) ∧ AL.Grown w w' := by
  by_cases h0 : s.size = 0
  · have hs : s = ⟨#[]⟩ := by
      apply ByteArray.ext
      exact Array.eq_empty_of_size_eq_zero h0
    subst hs
    go_enter Tryd.func85, Tryd.ntmps85
    go_wp2
    go_ret
    exact ⟨rfl, rfl, rfl, rfl, Nat.le_refl _, Nat.le_refl _, fun _ _ => rfl⟩
  · obtain ⟨i0, hi, hz1, hz2, hz0⟩ := (inferInstance : Inf Tryd.prog 5 1 1 (.int .u8 0)).h
    have hinfo : (Tryd.prog.info? 5).map (·.size) = some 1 := by rw [hi]; simp [hz1]
    have hco : Tryd.prog.cellsOf 5 = 1 := by simp [Program.cellsOf, hi, hz1]
    obtain ⟨M, hM⟩ : ∃ M, M = madeCells (Value.int .u8 0).cells (((s.size : Nat) : Int).toNat * i0.size) := ⟨_, rfl⟩
    have hMs : M.size = s.size := by rw [hM, size_madeCells, hz1]; simp
    have hmk : ∀ W : World, (Instr.makeSlice 53 (.int .i64 (s.size : Int)) (.int .i64 (s.size : Int))).run Tryd.prog W = .ok (.slice (some ⟨W.heap.size, 0, none⟩) s.size s.size) (W.alloc (.cells M 5)) := fun W => by
      have h := run_make (P := Tryd.prog) W 53 5 i0 (.int .u8 0) Tryd.underlying53 hi hz0 .i64 .i64 (s.size : Int) (s.size : Int) (by omega) (by omega) (by rw [hz2]; omega) (by omega)
      rw [← hM] at h
      simpa using h
    clear hM
    have hcp := Lib.run_copy_row_string (P := Tryd.prog) (w.alloc (.cells M 5)) 53 9 3 5 w.heap.size 0 s.size s.size s M 5 Tryd.underlying53 hinfo (heap_alloc_new w _) (Nat.le_refl _) (by omega)
    obtain ⟨Y, hY⟩ : ∃ Y, Y = (M.toList.take 0 ++ Lib.byteCells s.data.toList ++ M.toList.drop (0 + s.size)).toArray := ⟨_, rfl⟩
    rw [← hY] at hcp
    have hYl : Y.toList = Lib.byteCells s.data.toList := by
      rw [hY, List.toList_toArray, List.take_zero, List.nil_append, List.drop_of_length_le (by rw [Array.length_toList]; omega), List.append_nil]
    have hYs : Y.size = s.size := by rw [← Array.length_toList, hYl, Lib.byteCells_length, ← Lib.size_eq]
    have hgY : ((w.alloc (.cells M 5)).setRow w.heap.size Y).heap[w.heap.size]? = some (.cells Y 5 (0, 0)) := setRow_heap _ _ M _ 5 (0, 0) (heap_alloc_new w _)
    have hne : s.data.toList ≠ [] := fun e => h0 (by rw [Lib.size_eq, e]; rfl)
    have hUS := Lib.run_unsafeString_row (P := Tryd.prog) ((w.alloc (.cells M 5)).setRow w.heap.size Y) 68 3 9 5 Tryd.underlying68 hco w.heap.size Y.size (by unfold World.shape?; rw [hgY]) s.data.toList hne (by rw [← Lib.size_eq]; omega) (by rw [← Lib.size_eq]; omega)
      (fun j x hx => Lib.cells_of_row hgY Y.size j _ (by rw [List.take_of_length_le (by rw [Array.length_toList]; exact Nat.le_refl _), hYl]; simp [Lib.byteCells, hx]))
    rw [← Lib.size_eq] at hUS
    clear hY
    have hfr : ∀ (w0 : World) (n : Nat), (w0.freeze ⟨w.heap.size, 0, none⟩ n).tape = w0.tape ∧ (w0.freeze ⟨w.heap.size, 0, none⟩ n).os = w0.os ∧ (w0.freeze ⟨w.heap.size, 0, none⟩ n).output = w0.output ∧ (w0.freeze ⟨w.heap.size, 0, none⟩ n).drawn = w0.drawn ∧ (w0.freeze ⟨w.heap.size, 0, none⟩ n).heap.size = w0.heap.size ∧ ∀ b, b ≠ w.heap.size → (w0.freeze ⟨w.heap.size, 0, none⟩ n).heap[b]? = w0.heap[b]? := fun w0 n => by
      unfold World.freeze
      split
      · exact ⟨rfl, rfl, rfl, rfl, rfl, fun _ _ => rfl⟩
      · refine ⟨rfl, rfl, rfl, rfl, by show (w0.heap.modify _ _).size = _; simp, fun b hb => ?_⟩
        show (w0.heap.modify w.heap.size _)[b]? = _
        simp [Array.getElem?_modify, Ne.symm hb]
    go_enter Tryd.func85, Tryd.ntmps85
    go_wp2
    go_ret
    obtain ⟨f1, f2, f3, f4, f5, f6⟩ := hfr ((w.alloc (.cells M 5)).setRow w.heap.size Y) s.size
    refine ⟨rfl, f1, f2, f3, by rw [f4]; exact Nat.le_refl _, by rw [f5]; simp, fun b hb => ?_⟩
    rw [f6 b (by omega), setRow_other _ _ _ _ (by omega)]
    exact Lib.alloc_old w _ b hb
theorem clone_pc [GlobF Tryd.prog] (s : List UInt8) (hs : s.length < 281474976710656) : PC Tryd.prog 85 [str s] (str s) :=
  PC.of_grown (us := [.string ⟨s.toArray⟩]) (enters_of Tryd.func85 (by kernel_rfl) rfl) fun w _ _ => clone_calls ⟨s.toArray⟩ w (by show s.toArray.size ≤ _; simp; omega)
instance : Ncf Tryd.prog 94 := ⟨⟨_, Tryd.underlying94, fun _ => by nofun⟩⟩
instance : Ncf Tryd.prog 97 := ⟨⟨_, Tryd.underlying97, fun _ => by nofun⟩⟩
instance : Cmi Tryd.prog 94 .i64 := ⟨Tryd.underlying94, by kernel_rfl⟩
theorem synErr_pc [GlobF Tryd.prog] (he : ErrsOK) (fn s : List UInt8) (hs : s.length < 281474976710656) : ∃ u, PC Tryd.prog 68 [str fn, str s] u := by
  obtain ⟨t1, v1, t2, v2, h1, h2⟩ := he
  refine ⟨.ep [str fn, str s, .sc (.iface t1 v1)], ?_⟩
  refine PC.of_body Tryd.func68 Tryd.ntmps68 rfl rfl rfl ?_
  repeat' first
    | (apply p1 (hd := rfl); case hop => first | (apply D_move; rfl) | (apply D_assign; rfl) | (apply D_pc (clone_pc s hs); rfl; exact .same rfl .nil) | exact D_loadG rfl h1 | (apply D_load1; rfl) | (apply D_loadW; rfl; rfl) | (apply D_loadA; rfl; rfl) | (apply D_box; rfl; rfl) | exact D_build rfl | exact D_buildA rfl)
    | refine W_seq ?_
    | refine W_region ?_
    | refine WL_nil ?_
    | refine tn ?_
    | refine tr ?_
    | refine br ?_
    | refine bn ?_
    | refine te ?_
    | (refine idB ?_; first | refine bh rfl ?_ | refine bm rfl ?_)
    | refine W_skip ?_
    | refine W_block ?_
    | refine W_exit ?_
    | refine W_ret ?_
    | refine W_label ?_
    | refine W_scope ?_
    | refine sn ?_
    | refine sr ?_
    | refine se ?_
    | (refine idR ?_; first | refine ret1 rfl rfl rfl ?_ | refine rL1 rfl (by first | exact trivial | exact ⟨rfl, trivial⟩) (by first | exact ResO.tmp rfl | exact ResO.cellBA rfl rfl rfl | exact ResO.cellB1 rfl rfl rfl | exact ResO.cellEA rfl rfl | exact ResO.cellE1 rfl) ?_)
    | (refine idLd ?_; first | refine p1L (D_loadB1 rfl rfl rfl) rfl ?_ | refine p1L (D_loadBA rfl rfl rfl) rfl ?_ | refine p1L (D_loadB1 rfl (by (repeat first | assumption | exact get_last | (refine get_last2 ?_; focus (simp; done)) | apply get_set | apply get_app | (apply get_ne; focus omega) | (apply get_ne; focus (simp only [List.length_set, List.length_append, List.length_cons, List.length_nil]; omega))); done) (by rfl)) rfl ?_ | refine p1L (D_loadBA rfl (by (repeat first | assumption | exact get_last | (refine get_last2 ?_; focus (simp; done)) | apply get_set | apply get_app | (apply get_ne; focus omega) | (apply get_ne; focus (simp only [List.length_set, List.length_append, List.length_cons, List.length_nil]; omega))); done) (by rfl)) rfl ?_)
    | refine Le.bool ?_
    | refine Le.int ?_
    | refine Le.str ?_
    | (refine idW ?_; first | refine W_draw0 rfl ?_ | refine W_draw1 rfl ?_ | refine W_draw2 rfl ?_ | refine W_draw3 rfl ?_)
    | (apply d1 (hd := rfl); case hop => first | (apply D_move; rfl) | (apply D_assign; rfl) | (apply D_pc (clone_pc s hs); rfl; exact .same rfl .nil) | exact D_loadG rfl h1 | (apply D_load1; rfl) | (apply D_loadW; rfl; rfl) | (apply D_loadA; rfl; rfl) | (apply D_box; rfl; rfl) | exact D_build rfl | exact D_buildA rfl)
    | (refine idDn ?_; first | refine dL _ (fun hp' hs => D_loadB1 rfl (hs.trans rfl) rfl) rfl ?_ | refine dL _ (fun hp' hs => D_loadBA rfl (hs.trans rfl) rfl) rfl ?_ | refine dS (S_store rfl rfl rfl rfl rfl rfl rfl) rfl ?_ | refine dV (S_alloc 0 rfl) rfl rfl ?_ | refine dV (S_alloc 1 rfl) rfl rfl ?_ | refine dV (S_alloc 2 rfl) rfl rfl ?_ | refine dV (S_alloc 3 rfl) rfl rfl ?_ | refine dV (S_alloc 4 rfl) rfl rfl ?_ | refine dV (S_alloc 5 rfl) rfl rfl ?_ | refine dV (S_alloc 6 rfl) rfl rfl ?_ | refine dV (S_alloc 7 rfl) rfl rfl ?_)
    | refine WD_nil (by first | decide +kernel | kernel_rfl | rfl) ?_
  all_goals exact Le.of_eq (y := .ep [str fn, str s, .sc (.iface t1 v1)]) rfl
theorem rngErr_pc [GlobF Tryd.prog] (he : ErrsOK) (fn s : List UInt8) (hs : s.length < 281474976710656) : ∃ u, PC Tryd.prog 69 [str fn, str s] u := by
  obtain ⟨t1, v1, t2, v2, h1, h2⟩ := he
  refine ⟨.ep [str fn, str s, .sc (.iface t2 v2)], ?_⟩
  refine PC.of_body Tryd.func69 Tryd.ntmps69 rfl rfl rfl ?_
  repeat' first
    | (apply p1 (hd := rfl); case hop => first | (apply D_move; rfl) | (apply D_assign; rfl) | (apply D_pc (clone_pc s hs); rfl; exact .same rfl .nil) | exact D_loadG rfl h2 | (apply D_load1; rfl) | (apply D_loadW; rfl; rfl) | (apply D_loadA; rfl; rfl) | (apply D_box; rfl; rfl) | exact D_build rfl | exact D_buildA rfl)
    | refine W_seq ?_
    | refine W_region ?_
    | refine WL_nil ?_
    | refine tn ?_
    | refine tr ?_
    | refine br ?_
    | refine bn ?_
    | refine te ?_
    | (refine idB ?_; first | refine bh rfl ?_ | refine bm rfl ?_)
    | refine W_skip ?_
    | refine W_block ?_
    | refine W_exit ?_
    | refine W_ret ?_
    | refine W_label ?_
    | refine W_scope ?_
    | refine sn ?_
    | refine sr ?_
    | refine se ?_
    | (refine idR ?_; first | refine ret1 rfl rfl rfl ?_ | refine rL1 rfl (by first | exact trivial | exact ⟨rfl, trivial⟩) (by first | exact ResO.tmp rfl | exact ResO.cellBA rfl rfl rfl | exact ResO.cellB1 rfl rfl rfl | exact ResO.cellEA rfl rfl | exact ResO.cellE1 rfl) ?_)
    | (refine idLd ?_; first | refine p1L (D_loadB1 rfl rfl rfl) rfl ?_ | refine p1L (D_loadBA rfl rfl rfl) rfl ?_ | refine p1L (D_loadB1 rfl (by (repeat first | assumption | exact get_last | (refine get_last2 ?_; focus (simp; done)) | apply get_set | apply get_app | (apply get_ne; focus omega) | (apply get_ne; focus (simp only [List.length_set, List.length_append, List.length_cons, List.length_nil]; omega))); done) (by rfl)) rfl ?_ | refine p1L (D_loadBA rfl (by (repeat first | assumption | exact get_last | (refine get_last2 ?_; focus (simp; done)) | apply get_set | apply get_app | (apply get_ne; focus omega) | (apply get_ne; focus (simp only [List.length_set, List.length_append, List.length_cons, List.length_nil]; omega))); done) (by rfl)) rfl ?_)
    | refine Le.bool ?_
    | refine Le.int ?_
    | refine Le.str ?_
    | (refine idW ?_; first | refine W_draw0 rfl ?_ | refine W_draw1 rfl ?_ | refine W_draw2 rfl ?_ | refine W_draw3 rfl ?_)
    | (apply d1 (hd := rfl); case hop => first | (apply D_move; rfl) | (apply D_assign; rfl) | (apply D_pc (clone_pc s hs); rfl; exact .same rfl .nil) | exact D_loadG rfl h2 | (apply D_load1; rfl) | (apply D_loadW; rfl; rfl) | (apply D_loadA; rfl; rfl) | (apply D_box; rfl; rfl) | exact D_build rfl | exact D_buildA rfl)
    | (refine idDn ?_; first | refine dL _ (fun hp' hs => D_loadB1 rfl (hs.trans rfl) rfl) rfl ?_ | refine dL _ (fun hp' hs => D_loadBA rfl (hs.trans rfl) rfl) rfl ?_ | refine dS (S_store rfl rfl rfl rfl rfl rfl rfl) rfl ?_ | refine dV (S_alloc 0 rfl) rfl rfl ?_ | refine dV (S_alloc 1 rfl) rfl rfl ?_ | refine dV (S_alloc 2 rfl) rfl rfl ?_ | refine dV (S_alloc 3 rfl) rfl rfl ?_ | refine dV (S_alloc 4 rfl) rfl rfl ?_ | refine dV (S_alloc 5 rfl) rfl rfl ?_ | refine dV (S_alloc 6 rfl) rfl rfl ?_ | refine dV (S_alloc 7 rfl) rfl rfl ?_)
    | refine WD_nil (by first | decide +kernel | kernel_rfl | rfl) ?_
  all_goals exact Le.of_eq (y := .ep [str fn, str s, .sc (.iface t2 v2)]) rfl
set_option maxHeartbeats 4000000 in
theorem toErr_ac [GlobF Tryd.prog] (he : ErrsOK) (fn s : List UInt8) (hs : s.length < 281474976710656) (n : Int) (hn : n = 1 ∨ n = 2) (h : List AObj) :
    AC Tryd.prog 47 [str fn, str s, .sc (.int .i64 10), .sc (.int .i64 64), .sc (.iface 94 (.int .i64 n))] h (fun v h' => h' = h ∧ ∃ u, (∃ te x, u = Value.iface te x) ∧ v = .sc u) := by
  obtain ⟨u1, hp1⟩ := synErr_pc he fn s hs
  obtain ⟨u2, hp2⟩ := rngErr_pc he fn s hs
  rcases hn with rfl | rfl
  · refine AC.of_body Tryd.func47 Tryd.ntmps47 rfl rfl rfl ?_
    repeat' first
      | (apply p1 (hd := rfl); case hop => first | (apply D_move; rfl) | (apply D_assign; rfl) | (apply D_pc hp2; rfl; exact .same rfl (.same rfl .nil)) | exact D_mkI rfl | exact D_ifE rfl rfl)
      | refine W_seq ?_
      | refine W_region ?_
      | (refine idC ?_; first | refine c1 rfl ?_ | refine c0 rfl ?_ | refine cs rfl (fun _ => ?_) (fun _ => ?_))
      | refine WL_nil ?_
      | refine tn ?_
      | refine tr ?_
      | refine br ?_
      | refine bn ?_
      | refine te ?_
      | (refine idB ?_; first | refine bh rfl ?_ | refine bm rfl ?_)
      | refine W_skip ?_
      | refine W_block ?_
      | refine W_exit ?_
      | refine W_ret ?_
      | refine W_label ?_
      | refine W_scope ?_
      | refine sn ?_
      | refine sr ?_
      | refine se ?_
      | refine Le.bool ?_
      | refine Le.int ?_
      | refine Le.str ?_
      | (refine m_mkIP rfl ?_; rintro v hv)
    exact retK1 (.inl rfl) rfl rfl (ResO.tmp rfl) ⟨rfl, _, hv, rfl⟩
  · refine AC.of_body Tryd.func47 Tryd.ntmps47 rfl rfl rfl ?_
    repeat' first
      | (apply p1 (hd := rfl); case hop => first | (apply D_move; rfl) | (apply D_assign; rfl) | (apply D_pc hp1; rfl; exact .same rfl (.same rfl .nil)) | exact D_mkI rfl | exact D_ifE rfl rfl)
      | refine W_seq ?_
      | refine W_region ?_
      | (refine idC ?_; first | refine c1 rfl ?_ | refine c0 rfl ?_ | refine cs rfl (fun _ => ?_) (fun _ => ?_))
      | refine WL_nil ?_
      | refine tn ?_
      | refine tr ?_
      | refine br ?_
      | refine bn ?_
      | refine te ?_
      | (refine idB ?_; first | refine bh rfl ?_ | refine bm rfl ?_)
      | refine W_skip ?_
      | refine W_block ?_
      | refine W_exit ?_
      | refine W_ret ?_
      | refine W_label ?_
      | refine W_scope ?_
      | refine sn ?_
      | refine sr ?_
      | refine se ?_
      | refine Le.bool ?_
      | refine Le.int ?_
      | refine Le.str ?_
      | (refine m_mkIP rfl ?_; rintro v hv)
    exact retK1 (.inl rfl) rfl rfl (ResO.tmp rfl) ⟨rfl, _, hv, rfl⟩
def pN (s : List UInt8) : Int := match Lib.parseIntB 64 s with
  | .ok n => n
  | .range => Lib.intSat 64 s
  | _ => 0
def pOK (s : List UInt8) : Bool := match Lib.parseIntB 64 s with
  | .ok _ => true
  | _ => false
theorem parse_rng {s : List UInt8} {n : Int} (h : Lib.parseIntB 64 s = .ok n) : -9223372036854775808 ≤ n ∧ n ≤ 9223372036854775807 := by
  cases s with
  | nil => simp [Lib.parseIntB] at h
  | cons c r =>
    simp only [Lib.parseIntB] at h
    split at h
    · cases h
    · cases h
    · split at h
      · cases h
      · rename_i h1
        split at h
        · cases h
        · rename_i h2
          cases h
          split
          · rename_i h3; simp [h3] at h2; omega
          · rename_i h3; simp [h3] at h1; omega
theorem sat_rng (s : List UInt8) : -9223372036854775808 ≤ Lib.intSat 64 s ∧ Lib.intSat 64 s ≤ 9223372036854775807 := by
  unfold Lib.intSat; split <;> decide
theorem pN_rng (s : List UInt8) : -9223372036854775808 ≤ pN s ∧ pN s ≤ 9223372036854775807 := by
  unfold pN
  split
  · rename_i n h; exact parse_rng h
  · exact sat_rng s
  · decide
set_option maxHeartbeats 4000000 in
theorem parseInt_ac [GlobF Tryd.prog] (he : ErrsOK) (s : List UInt8) (hs : s.length < 281474976710656) (h : List AObj) :
    AC Tryd.prog 32 [str s, .sc (.int .i64 10), .sc (.int .i64 64)] h (fun v h' => h' = h ∧ ∃ u, v = .tu [.sc (.int .i64 (pN s)), .sc u] ∧ ((u = .nilIface ∧ pOK s = true) ∨ ((∃ te x, u = Value.iface te x) ∧ pOK s = false))) := by
  have hi := iparse_ac s hs h
  rcases hpi : Lib.parseIntB 64 s with n | _ | _
  · have e1 : pN s = n := by unfold pN; rw [hpi]
    have e2 : pOK s = true := by unfold pOK; rw [hpi]
    have hi2 : AC Tryd.prog 46 [str s, .sc (.int .i64 10), .sc (.int .i64 64)] h (fun v h' => v = .tu [.sc (.int .i64 n), .sc .nilIface] ∧ h' = h) := hi.mono fun v h' ⟨a1, a, b, a2, a3⟩ => by
      rw [hpi] at a2; simp only [Lib.intTuple, Value.tuple.injEq, Array.mk.injEq, List.cons.injEq, and_true] at a2
      obtain ⟨rfl, rfl⟩ := a2; exact ⟨a3, a1⟩
    refine AC.of_body Tryd.func32 Tryd.ntmps32 rfl rfl rfl ?_
    repeat' first
      | (apply p1 (hd := rfl); case hop => first | (apply D_move; rfl) | (apply D_assign; rfl) | exact D_inI rfl (.inl ⟨rfl, rfl⟩) | (apply D_ext; rfl; rfl))
      | refine W_seq ?_
      | refine W_region ?_
      | (refine idC ?_; first | refine c1 rfl ?_ | refine c0 rfl ?_ | refine cs rfl (fun _ => ?_) (fun _ => ?_))
      | refine WL_nil ?_
      | refine tn ?_
      | refine tr ?_
      | refine br ?_
      | refine bn ?_
      | refine te ?_
      | (refine idB ?_; first | refine bh rfl ?_ | refine bm rfl ?_)
      | refine W_skip ?_
      | refine W_block ?_
      | refine W_exit ?_
      | refine W_ret ?_
      | refine W_label ?_
      | refine W_scope ?_
      | refine sn ?_
      | refine sr ?_
      | refine se ?_
      | refine Le.bool ?_
      | refine Le.int ?_
      | refine Le.str ?_
      | (refine m_call hi2 rfl rfl rfl ?_; rintro _ _ ⟨rfl, rfl⟩)
    exact retK (rs := [_, _]) (.inl rfl) rfl trivial (.cons (ResO.tmp rfl) (.cons (ResO.tmp rfl) .nil)) ⟨rfl, _, by rw [e1]; rfl, .inl ⟨rfl, e2⟩⟩
  · have e1 : pN s = 0 := by unfold pN; rw [hpi]
    have e2 : pOK s = false := by unfold pOK; rw [hpi]
    have hi2 : AC Tryd.prog 46 [str s, .sc (.int .i64 10), .sc (.int .i64 64)] h (fun v h' => v = .tu [.sc (.int .i64 0), .sc (.iface 94 (.int .i64 2))] ∧ h' = h) := hi.mono fun v h' ⟨a1, a, b, a2, a3⟩ => by
      rw [hpi] at a2; simp only [Lib.intTuple, Value.tuple.injEq, Array.mk.injEq, List.cons.injEq, and_true] at a2
      obtain ⟨rfl, rfl⟩ := a2; exact ⟨a3, a1⟩
    have ht := toErr_ac he [80, 97, 114, 115, 101, 73, 110, 116] s hs 2 (.inr rfl) h
    refine AC.of_body Tryd.func32 Tryd.ntmps32 rfl rfl rfl ?_
    repeat' first
      | (apply p1 (hd := rfl); case hop => first | (apply D_move; rfl) | (apply D_assign; rfl) | exact D_inI rfl (.inr ⟨⟨_, _, rfl⟩, rfl⟩) | (apply D_ext; rfl; rfl))
      | refine W_seq ?_
      | refine W_region ?_
      | (refine idC ?_; first | refine c1 rfl ?_ | refine c0 rfl ?_ | refine cs rfl (fun _ => ?_) (fun _ => ?_))
      | refine WL_nil ?_
      | refine tn ?_
      | refine tr ?_
      | refine br ?_
      | refine bn ?_
      | refine te ?_
      | (refine idB ?_; first | refine bh rfl ?_ | refine bm rfl ?_)
      | refine W_skip ?_
      | refine W_block ?_
      | refine W_exit ?_
      | refine W_ret ?_
      | refine W_label ?_
      | refine W_scope ?_
      | refine sn ?_
      | refine sr ?_
      | refine se ?_
      | refine Le.bool ?_
      | refine Le.int ?_
      | refine Le.str ?_
      | (refine m_call hi2 rfl rfl rfl ?_; rintro _ _ ⟨rfl, rfl⟩)
      | (refine m_call ht rfl rfl rfl ?_; rintro _ _ ⟨rfl, u, hu, rfl⟩)
    exact retK (rs := [_, _]) (.inl rfl) rfl trivial (.cons (ResO.tmp rfl) (.cons (ResO.tmp rfl) .nil)) ⟨rfl, _, by rw [e1]; rfl, .inr ⟨hu, e2⟩⟩
  · have e1 : pN s = Lib.intSat 64 s := by unfold pN; rw [hpi]
    have e2 : pOK s = false := by unfold pOK; rw [hpi]
    have hi2 : AC Tryd.prog 46 [str s, .sc (.int .i64 10), .sc (.int .i64 64)] h (fun v h' => v = .tu [.sc (.int .i64 (Lib.intSat 64 s)), .sc (.iface 94 (.int .i64 1))] ∧ h' = h) := hi.mono fun v h' ⟨a1, a, b, a2, a3⟩ => by
      rw [hpi] at a2; simp only [Lib.intTuple, Value.tuple.injEq, Array.mk.injEq, List.cons.injEq, and_true] at a2
      obtain ⟨rfl, rfl⟩ := a2; exact ⟨a3, a1⟩
    have ht := toErr_ac he [80, 97, 114, 115, 101, 73, 110, 116] s hs 1 (.inl rfl) h
    refine AC.of_body Tryd.func32 Tryd.ntmps32 rfl rfl rfl ?_
    repeat' first
      | (apply p1 (hd := rfl); case hop => first | (apply D_move; rfl) | (apply D_assign; rfl) | exact D_inI rfl (.inr ⟨⟨_, _, rfl⟩, rfl⟩) | (apply D_ext; rfl; rfl))
      | refine W_seq ?_
      | refine W_region ?_
      | (refine idC ?_; first | refine c1 rfl ?_ | refine c0 rfl ?_ | refine cs rfl (fun _ => ?_) (fun _ => ?_))
      | refine WL_nil ?_
      | refine tn ?_
      | refine tr ?_
      | refine br ?_
      | refine bn ?_
      | refine te ?_
      | (refine idB ?_; first | refine bh rfl ?_ | refine bm rfl ?_)
      | refine W_skip ?_
      | refine W_block ?_
      | refine W_exit ?_
      | refine W_ret ?_
      | refine W_label ?_
      | refine W_scope ?_
      | refine sn ?_
      | refine sr ?_
      | refine se ?_
      | refine Le.bool ?_
      | refine Le.int ?_
      | refine Le.str ?_
      | (refine m_call hi2 rfl rfl rfl ?_; rintro _ _ ⟨rfl, rfl⟩)
      | (refine m_call ht rfl rfl rfl ?_; rintro _ _ ⟨rfl, u, hu, rfl⟩)
    exact retK (rs := [_, _]) (.inl rfl) rfl trivial (.cons (ResO.tmp rfl) (.cons (ResO.tmp rfl) .nil)) ⟨rfl, _, by rw [e1]; rfl, .inr ⟨hu, e2⟩⟩
def pB (s : List UInt8) : Bool := pOK s && decide (Lib.itoa (pN s) = s)
theorem D_eqv {P : Program} [GlobF P] {ρ : Operand → Option AV} {o : Oper} {v v' : AV} (h : PPOp P o ρ v) (e : v = v') : PPOp P o ρ v' := e ▸ h
theorem rem10 (m : Nat) : ((m : Int)).tmod 10 = ((m % 10 : Nat) : Int) := by rw [Int.tmod_eq_emod_of_nonneg (by omega)]; omega
theorem quo10 (m : Nat) (hm : m < 9223372036854775808) : IntKind.i64.wrap ((m : Int).tdiv 10) = ((m / 10 : Nat) : Int) := by
  rw [Int.tdiv_eq_ediv_of_nonneg (by omega), w64 _ (by omega) (by omega)]; omega
theorem dgb (m : Nat) : IntKind.u8.wrap (IntKind.i64.wrap (48 + ((m % 10 : Nat) : Int))) = ((UInt8.ofNat (48 + m % 10)).toNat : Int) := by
  rw [w64 _ (by omega) (by omega)]
  have h : m % 10 < 10 := Nat.mod_lt _ (by decide)
  have : ∀ q : Fin 10, IntKind.u8.wrap (48 + ((q.val : Nat) : Int)) = ((UInt8.ofNat (48 + q.val)).toNat : Int) := by decide
  exact this ⟨m % 10, h⟩
theorem dig_step {n m i : Nat} {s : List UInt8} (hsl : s.length ≤ i) (hi : i < 20) (hm : m * 10 ^ i ≤ n) (hD : Lib.decDigits n = Lib.decDigits m ++ s) :
    (UInt8.ofNat (48 + m % 10) :: s).length ≤ i + 1 ∧ i + 1 ≤ 20 ∧ m / 10 * 10 ^ (i + 1) ≤ n ∧ (((UInt8.ofNat (48 + m % 10) :: s) = [] ∧ m / 10 = n ∧ i + 1 = 0) ∨ ((UInt8.ofNat (48 + m % 10) :: s) ≠ [] ∧ 0 < i + 1 ∧ ((m / 10 = 0 ∧ Lib.decDigits n = UInt8.ofNat (48 + m % 10) :: s) ∨ (0 < m / 10 ∧ Lib.decDigits n = Lib.decDigits (m / 10) ++ UInt8.ofNat (48 + m % 10) :: s)))) := by
  refine ⟨by rw [List.length_cons]; omega, by omega, ?_, .inr ⟨by simp, by omega, ?_⟩⟩
  · refine Nat.le_trans ?_ hm
    rw [Nat.pow_succ, Nat.mul_comm (10 ^ i) 10, ← Nat.mul_assoc]
    exact Nat.mul_le_mul_right _ (Nat.div_mul_le_self m 10)
  · by_cases h10 : m < 10
    · refine .inl ⟨by omega, ?_⟩
      rw [hD, Lib.decDigits, dif_pos h10, Nat.mod_eq_of_lt h10]; rfl
    · refine .inr ⟨by omega, ?_⟩
      rw [hD, Lib.decDigits, dif_neg h10, List.append_assoc]; rfl
set_option maxHeartbeats 4000000 in
theorem digits0_pc [GlobF Tryd.prog] (n : Nat) (hn : n < 9223372036854775808) : PC Tryd.prog 27 [.sc (.int .i64 (n : Int))] (str (Lib.decDigits n)) := by
  refine PC.of_body Tryd.func27 Tryd.ntmps27 rfl rfl rfl ?_
  repeat' first
    | (apply p1 (hd := rfl); case hop => first | (apply D_move; rfl) | (apply D_assign; rfl) | (apply D_pickT; rfl; rfl) | (apply D_pickF; rfl; rfl) | (apply D_int; rfl; rfl; rfl) | (apply D_str; rfl; rfl; rfl) | (apply D_conv_int; rfl) | (apply D_b2s; rfl) | (apply D_lit; rfl; rfl; rfl; rfl) | (apply D_neg; rfl) | (apply D_quo; rfl; rfl; first | omega | ((repeat rw [w64 _ (by omega) (by omega)]); omega) | decide) | (apply D_rem; rfl; rfl; first | omega | ((repeat rw [w64 _ (by omega) (by omega)]); omega) | decide) | (apply D_cat; rfl; rfl; all_goals first | omega | ((repeat rw [w64 _ (by omega) (by omega)]); omega) | decide))
    | refine W_seq ?_
    | refine W_region ?_
    | (refine idC ?_; first | refine c1 rfl ?_ | refine c0 rfl ?_ | refine cs rfl (fun _ => ?_) (fun _ => ?_))
    | refine WL_nil ?_
    | (refine idG ?_; first | refine g0t rfl rfl rfl ?_ | refine g0f rfl rfl rfl ?_ | refine g0u rfl rfl rfl ?_ | refine gr rfl rfl ?_ | refine gs rfl rfl (fun _ => ?_) (fun _ => ?_) | refine grn rfl rfl ?_)
    | refine tn ?_
    | refine tr ?_
    | refine br ?_
    | refine bn ?_
    | refine te ?_
    | (refine idB ?_; first | refine bh rfl ?_ | refine bm rfl ?_)
    | refine W_skip ?_
    | refine W_block ?_
    | refine W_exit ?_
    | refine W_ret ?_
    | refine W_label ?_
    | refine W_scope ?_
    | refine sn ?_
    | refine sr ?_
    | refine se ?_
    | (refine idR ?_; first | refine ret1 rfl rfl rfl ?_ | refine rL1 rfl (by first | exact trivial | exact ⟨rfl, trivial⟩) (by first | exact ResO.tmp rfl | exact ResO.cellBA rfl rfl rfl | exact ResO.cellB1 rfl rfl rfl | exact ResO.cellEA rfl rfl | exact ResO.cellE1 rfl) ?_)
    | refine Le.bool ?_
    | refine Le.int ?_
    | refine Le.str ?_
  all_goals first
    | (exfalso; omega)
    | skip
  refine W_loopL (X := Nat × Nat × List UInt8) (fun x => [(0, .sc (.int .i64 (x.1 : Int))), (2, str []), (3, str x.2.2), (4, .sc (.int .i64 (x.2.1 : Int)))]) (fun _ => [])
    (fun x => x.2.2.length ≤ x.2.1 ∧ x.2.1 ≤ 20 ∧ x.1 * 10 ^ x.2.1 ≤ n ∧ ((x.2.2 = [] ∧ x.1 = n ∧ x.2.1 = 0) ∨ (x.2.2 ≠ [] ∧ 0 < x.2.1 ∧ ((x.1 = 0 ∧ Lib.decDigits n = x.2.2) ∨ (0 < x.1 ∧ Lib.decDigits n = Lib.decDigits x.1 ++ x.2.2))))) (fun x => 20 - x.2.1) (n, 0, []) ⟨by dsimp only; decide, by dsimp only; omega, by dsimp only; omega, .inl ⟨rfl, rfl, rfl⟩⟩ ⟨rfl, rfl, rfl, rfl, trivial⟩ rfl ?_
  rintro ⟨m, i, s⟩ ⟨hsl, hi, hm, hor⟩
  dsimp only at hsl hi hm hor ⊢
  have hmn : m ≤ n := Nat.le_trans (Nat.le_mul_of_pos_right _ (Nat.pow_pos (by decide))) hm
  have hmb : m < 9223372036854775808 := by omega
  repeat' first
    | (apply p1 (hd := rfl); case hop => first | (apply D_move; rfl) | (apply D_assign; rfl) | exact D_sc (D_rem rfl rfl (by decide)) (congrArg _ (rem10 m)) | exact D_sc (D_quo rfl rfl (by decide)) (congrArg _ (quo10 m hmb)) | exact D_sc (D_conv_int rfl) (congrArg _ (dgb m)) | exact D_b2s (l := [UInt8.ofNat (48 + m % 10)]) rfl | (apply D_cat; rfl; rfl; focus (simp only [List.length_cons, List.length_nil]; omega)) | (apply D_pickT; rfl; rfl) | (apply D_pickF; rfl; rfl) | (apply D_int; rfl; rfl; rfl) | (apply D_str; rfl; rfl; rfl) | (apply D_conv_int; rfl) | (apply D_b2s; rfl) | (apply D_lit; rfl; rfl; rfl; rfl) | (apply D_neg; rfl) | (apply D_quo; rfl; rfl; first | omega | ((repeat rw [w64 _ (by omega) (by omega)]); omega) | decide) | (apply D_rem; rfl; rfl; first | omega | ((repeat rw [w64 _ (by omega) (by omega)]); omega) | decide) | (apply D_cat; rfl; rfl; all_goals first | omega | ((repeat rw [w64 _ (by omega) (by omega)]); omega) | decide))
    | refine W_seq ?_
    | refine W_region ?_
    | (refine idC ?_; first | refine c1 rfl ?_ | refine c0 rfl ?_ | refine cs rfl (fun _ => ?_) (fun _ => ?_))
    | refine WL_nil ?_
    | (refine idG ?_; first | refine g0t rfl rfl rfl ?_ | refine g0f rfl rfl rfl ?_ | refine g0u rfl rfl rfl ?_ | refine gr rfl rfl ?_ | refine gs rfl rfl (fun _ => ?_) (fun _ => ?_) | refine grn rfl rfl ?_)
    | refine tn ?_
    | refine tr ?_
    | refine br ?_
    | refine bn ?_
    | refine te ?_
    | (refine idB ?_; first | refine bh rfl ?_ | refine bm rfl ?_)
    | refine W_skip ?_
    | refine W_block ?_
    | refine W_exit ?_
    | refine W_ret ?_
    | refine W_label ?_
    | refine W_scope ?_
    | refine sn ?_
    | refine sr ?_
    | refine se ?_
    | (refine idR ?_; first | refine ret1 rfl rfl rfl ?_ | refine rL1 rfl (by first | exact trivial | exact ⟨rfl, trivial⟩) (by first | exact ResO.tmp rfl | exact ResO.cellBA rfl rfl rfl | exact ResO.cellB1 rfl rfl rfl | exact ResO.cellEA rfl rfl | exact ResO.cellE1 rfl) ?_)
    | refine Le.bool ?_
    | refine Le.int ?_
    | refine Le.str ?_
  · rename_i h20 hm0
    have hD : Lib.decDigits n = Lib.decDigits m ++ s := by
      rcases hor with ⟨rfl, rfl, _⟩ | ⟨_, _, ⟨h, _⟩ | ⟨_, h⟩⟩
      · simp
      · omega
      · exact h
    exact ⟨rfl, (m / 10, i + 1, UInt8.ofNat (48 + m % 10) :: s), dig_step hsl (by omega) hm hD, by dsimp only; omega, ⟨rfl, rfl, rfl, ieq (wsucc i (by omega)), trivial⟩, rfl⟩
  · rename_i h20 hm0 hs0
    have hD : Lib.decDigits n = Lib.decDigits m ++ s := by
      rcases hor with ⟨rfl, rfl, _⟩ | ⟨h, _⟩
      · simp
      · exact absurd hs0 h
    exact ⟨rfl, (m / 10, i + 1, UInt8.ofNat (48 + m % 10) :: s), dig_step hsl (by omega) hm hD, by dsimp only; omega, ⟨rfl, rfl, rfl, ieq (wsucc i (by omega)), trivial⟩, rfl⟩
  · rename_i h20 hm0 hs0
    rcases hor with ⟨h, _⟩ | ⟨_, _, ⟨_, h⟩ | ⟨h, _⟩⟩
    · exact absurd h hs0
    · exact h.symm
    · omega
  · rename_i h20
    have e20 : i = 20 := by omega
    subst e20
    rcases hor with ⟨_, _, h⟩ | ⟨_, _, ⟨_, h⟩ | ⟨h, _⟩⟩
    · omega
    · exact h.symm
    · exfalso
      have : 1 * 10 ^ 20 ≤ m * 10 ^ 20 := Nat.mul_le_mul_right _ h
      omega
set_option maxHeartbeats 4000000 in
theorem digits_pc [GlobF Tryd.prog] (n : Int) (h0 : -9223372036854775808 ≤ n) (h1 : n ≤ 9223372036854775807) : PC Tryd.prog 27 [.sc (.int .i64 n)] (str (Lib.itoa n)) := by
  by_cases hn : 0 ≤ n
  · obtain ⟨m, rfl⟩ := Int.eq_ofNat_of_zero_le hn
    rw [Lib.itoa_nonneg]
    exact digits0_pc m (by omega)
  by_cases hm : n = -9223372036854775808
  · subst hm
    refine PC.of_body Tryd.func27 Tryd.ntmps27 rfl rfl rfl ?_
    repeat' first
      | (apply p1 (hd := rfl); case hop => first | (apply D_move; rfl) | (apply D_assign; rfl) | (apply D_pickT; rfl; rfl) | (apply D_pickF; rfl; rfl) | (apply D_int; rfl; rfl; rfl) | (apply D_str; rfl; rfl; rfl) | (apply D_conv_int; rfl) | (apply D_b2s; rfl) | (apply D_lit; rfl; rfl; rfl; rfl) | (apply D_neg; rfl) | (apply D_quo; rfl; rfl; first | omega | ((repeat rw [w64 _ (by omega) (by omega)]); omega) | decide) | (apply D_rem; rfl; rfl; first | omega | ((repeat rw [w64 _ (by omega) (by omega)]); omega) | decide) | (apply D_cat; rfl; rfl; all_goals first | omega | ((repeat rw [w64 _ (by omega) (by omega)]); omega) | decide))
      | refine W_seq ?_
      | refine W_region ?_
      | (refine idC ?_; first | refine c1 rfl ?_ | refine c0 rfl ?_ | refine cs rfl (fun _ => ?_) (fun _ => ?_))
      | refine WL_nil ?_
      | (refine idG ?_; first | refine g0t rfl rfl rfl ?_ | refine g0f rfl rfl rfl ?_ | refine g0u rfl rfl rfl ?_ | refine gr rfl rfl ?_ | refine gs rfl rfl (fun _ => ?_) (fun _ => ?_) | refine grn rfl rfl ?_)
      | refine tn ?_
      | refine tr ?_
      | refine br ?_
      | refine bn ?_
      | refine te ?_
      | (refine idB ?_; first | refine bh rfl ?_ | refine bm rfl ?_)
      | refine W_skip ?_
      | refine W_block ?_
      | refine W_exit ?_
      | refine W_ret ?_
      | refine W_label ?_
      | refine W_scope ?_
      | refine sn ?_
      | refine sr ?_
      | refine se ?_
      | (refine idR ?_; first | refine ret1 rfl rfl rfl ?_ | refine rL1 rfl (by first | exact trivial | exact ⟨rfl, trivial⟩) (by first | exact ResO.tmp rfl | exact ResO.cellBA rfl rfl rfl | exact ResO.cellB1 rfl rfl rfl | exact ResO.cellEA rfl rfl | exact ResO.cellE1 rfl) ?_)
      | refine Le.bool ?_
      | refine Le.int ?_
      | refine Le.str ?_
    all_goals first
      | (exfalso; omega)
      | (have : Lib.itoa (-9223372036854775808) = [45, 57, 50, 50, 51, 51, 55, 50, 48, 51, 54, 56, 53, 52, 55, 55, 53, 56, 48, 56] := by decide +kernel
         exact this.symm)
  · obtain ⟨m, rfl⟩ : ∃ m : Nat, n = -(m : Int) := ⟨n.natAbs, by omega⟩
    rw [Lib.itoa_neg m (by omega)]
    have hd := digits0_pc m (by omega)
    have hw : IntKind.i64.wrap (0 - (-(m : Int))) = (m : Int) := by rw [w64 _ (by omega) (by omega)]; omega
    have hdl : (Lib.decDigits m).length ≤ 20 := by rw [Lib.decDigits_length]; exact Lib.nDigits_le20 m (by omega)
    refine PC.of_body Tryd.func27 Tryd.ntmps27 rfl rfl rfl ?_
    repeat' first
      | (apply p1 (hd := rfl); case hop => first | (apply D_move; rfl) | (apply D_assign; rfl) | exact D_sc (D_neg rfl) (congrArg _ hw) | (apply D_pc hd; rfl; exact .same rfl .nil) | (apply D_cat; rfl; rfl; focus (simp only [List.length_cons, List.length_nil]; omega)) | (apply D_pickT; rfl; rfl) | (apply D_pickF; rfl; rfl) | (apply D_int; rfl; rfl; rfl) | (apply D_str; rfl; rfl; rfl) | (apply D_conv_int; rfl) | (apply D_b2s; rfl) | (apply D_lit; rfl; rfl; rfl; rfl) | (apply D_neg; rfl) | (apply D_quo; rfl; rfl; first | omega | ((repeat rw [w64 _ (by omega) (by omega)]); omega) | decide) | (apply D_rem; rfl; rfl; first | omega | ((repeat rw [w64 _ (by omega) (by omega)]); omega) | decide) | (apply D_cat; rfl; rfl; all_goals first | omega | ((repeat rw [w64 _ (by omega) (by omega)]); omega) | decide))
      | refine W_seq ?_
      | refine W_region ?_
      | (refine idC ?_; first | refine c1 rfl ?_ | refine c0 rfl ?_ | refine cs rfl (fun _ => ?_) (fun _ => ?_))
      | refine WL_nil ?_
      | (refine idG ?_; first | refine g0t rfl rfl rfl ?_ | refine g0f rfl rfl rfl ?_ | refine g0u rfl rfl rfl ?_ | refine gr rfl rfl ?_ | refine gs rfl rfl (fun _ => ?_) (fun _ => ?_) | refine grn rfl rfl ?_)
      | refine tn ?_
      | refine tr ?_
      | refine br ?_
      | refine bn ?_
      | refine te ?_
      | (refine idB ?_; first | refine bh rfl ?_ | refine bm rfl ?_)
      | refine W_skip ?_
      | refine W_block ?_
      | refine W_exit ?_
      | refine W_ret ?_
      | refine W_label ?_
      | refine W_scope ?_
      | refine sn ?_
      | refine sr ?_
      | refine se ?_
      | (refine idR ?_; first | refine ret1 rfl rfl rfl ?_ | refine rL1 rfl (by first | exact trivial | exact ⟨rfl, trivial⟩) (by first | exact ResO.tmp rfl | exact ResO.cellBA rfl rfl rfl | exact ResO.cellB1 rfl rfl rfl | exact ResO.cellEA rfl rfl | exact ResO.cellE1 rfl) ?_)
      | refine Le.bool ?_
      | refine Le.int ?_
      | refine Le.str ?_
    all_goals first
      | (exfalso; omega)
      | rfl
theorem pB_iff (s : List UInt8) : pB s = true ↔ ∃ n, NumP s n := by
  constructor
  · intro h
    unfold pB at h
    simp only [Bool.and_eq_true, decide_eq_true_eq] at h
    exact ⟨pN s, (pN_rng s).1, (pN_rng s).2, h.2⟩
  · rintro ⟨n, h0, h1, rfl⟩
    have hp := parse_itoa h0 h1
    have e1 : pN (Lib.itoa n) = n := by unfold pN; rw [hp]
    have e2 : pOK (Lib.itoa n) = true := by unfold pOK; rw [hp]
    unfold pB; rw [e1, e2]; simp
theorem pN_of {s : List UInt8} {n : Int} (h : NumP s n) : pN s = n := by
  obtain ⟨h0, h1, rfl⟩ := h
  unfold pN; rw [parse_itoa h0 h1]
theorem w8 (m : Nat) (h : m < 256) : IntKind.u8.wrap (m : Int) = (m : Int) := by
  have : ∀ q : Fin 256, IntKind.u8.wrap ((q.val : Nat) : Int) = ((q.val : Nat) : Int) := by decide +kernel
  exact this ⟨m, h⟩
instance : Xt Tryd.prog 81 Extern.BytealgIndexByte.indexByte := ⟨run_callFunc_extern Tryd.func81 (by kernel_rfl) (by kernel_rfl) (by kernel_rfl) (by kernel_rfl)⟩
theorem w8i (z : Int) (h0 : 0 ≤ z) (h : z < 256) : IntKind.u8.wrap z = z := by
  obtain ⟨m, rfl⟩ := Int.eq_ofNat_of_zero_le h0
  exact w8 m (by omega)
theorem nDigits_le19 (u : Nat) (h : u < 10000000000000000000) : Lib.nDigits u ≤ 19 := by
  rcases Nat.eq_zero_or_pos u with rfl | h1
  · rw [Lib.nDigits_small (by omega)]; omega
  · have := Lib.numDigits_eq u h1 (by omega)
    obtain ⟨h2, h3⟩ := this
    rcases Nat.lt_or_ge (Lib.l10 (Lib.bitLen u)) 19 with h4 | h4
    · split at h2 <;> omega
    · have e : Lib.l10 (Lib.bitLen u) = 19 := by omega
      rw [e, if_neg (by omega)] at h2; omega
theorem num_shape {s : List UInt8} {n : Int} (h : NumP s n) : (∃ u : Nat, n = u ∧ s = Lib.decDigits u) ∨ (∃ u : Nat, n = -(u : Int) ∧ s = 45 :: Lib.decDigits u) := by
  obtain ⟨h0, h1, h⟩ := h
  by_cases hneg : n < 0
  · obtain ⟨u, rfl⟩ : ∃ u : Nat, n = -(u : Int) := ⟨n.natAbs, by omega⟩
    rw [Lib.itoa_neg u (by omega)] at h
    exact .inr ⟨u, rfl, h.symm⟩
  · obtain ⟨u, rfl⟩ : ∃ u : Nat, n = u := ⟨n.toNat, by omega⟩
    rw [Lib.itoa_nonneg] at h
    exact .inl ⟨u, rfl, h.symm⟩
theorem num_bad {s d : List UInt8} (hd : s = d ∧ s.head? ≠ some 45 ∨ s = 45 :: d) (hb : d.length < 1 ∨ 19 < d.length ∨ ∃ (i : Nat) (h : i < d.length), ¬ digP d[i]) : pB s = false := by
  have key : ∀ u : Nat, u ≤ 9223372036854775808 → d = Lib.decDigits u → False := fun u hu e => by
    subst e
    rcases hb with hb | hb | ⟨i, hi, hb⟩
    · have := dec_ne u; exact this (List.length_eq_zero_iff.1 (by omega))
    · rw [Lib.decDigits_length] at hb; have := nDigits_le19 u (by omega); omega
    · have := dec_digs u _ (List.getElem_mem hi)
      unfold isD at this; unfold digP at hb; omega
  cases hp : pB s with
  | false => rfl
  | true =>
    exfalso
    obtain ⟨n, hn⟩ := (pB_iff s).1 hp
    have h0 := hn.1
    have h1 := hn.2.1
    rcases num_shape hn with ⟨u, rfl, e⟩ | ⟨u, rfl, e⟩
    · rcases hd with ⟨rfl, _⟩ | rfl
      · exact key u (by omega) e
      · exact absurd (dec_digs u 45 (by rw [← e]; exact .head _)) (by unfold isD; decide)
    · rcases hd with ⟨rfl, hh⟩ | rfl
      · rw [e] at hh; exact hh rfl
      · injection e with _ e
        exact key u (by omega) e
theorem num_val {s d : List UInt8} {m : Int} {sg : Int} (hd : (s = d ∧ s.head? ≠ some 45 ∧ sg = 1) ∨ (s = 45 :: d ∧ sg = -1)) (hm : m = IntKind.i64.wrap (sg * (dval 0 d : Int))) :
    (-9223372036854775808 ≤ m ∧ m ≤ 9223372036854775807) ∧ (sEq (Lib.itoa m) s = pB s) ∧ (pB s = true → m = pN s) := by
  have hr : -9223372036854775808 ≤ m ∧ m ≤ 9223372036854775807 := by
    subst hm
    simp [IntKind.wrap, IntKind.signed, IntKind.bits]; omega
  have hv : pB s = true → m = pN s := fun hp => by
    obtain ⟨n, hn⟩ := (pB_iff s).1 hp
    rw [pN_of hn]
    have h0 := hn.1
    have h1 := hn.2.1
    rcases num_shape hn with ⟨u, rfl, e⟩ | ⟨u, rfl, e⟩
    · rcases hd with ⟨rfl, _, rfl⟩ | ⟨rfl, _⟩
      · rw [hm, e, dec_val, w64 _ (by omega) (by omega)]; omega
      · exact absurd (dec_digs u 45 (by rw [← e]; exact .head _)) (by unfold isD; decide)
    · rcases hd with ⟨rfl, hh, _⟩ | ⟨rfl, rfl⟩
      · rw [e] at hh; exact absurd rfl hh
      · injection e with _ e
        rw [hm, e, dec_val, w64 _ (by omega) (by omega)]; omega
  refine ⟨hr, ?_, hv⟩
  rw [Bool.eq_iff_iff, sEq_t]
  constructor
  · intro e; exact (pB_iff s).2 ⟨m, hr.1, hr.2, e⟩
  · intro hp
    obtain ⟨n, hn⟩ := (pB_iff s).1 hp
    rw [hv hp, pN_of hn]; exact hn.2.2
theorem wrap_step (x : Int) (c : Int) : IntKind.i64.wrap (IntKind.i64.wrap (IntKind.i64.wrap x * 10) + c) = IntKind.i64.wrap (x * 10 + c) := by
  simp [IntKind.wrap, IntKind.signed, IntKind.bits]; omega
theorem i64_rng (z : Int) : -9223372036854775808 ≤ IntKind.i64.wrap z ∧ IntKind.i64.wrap z ≤ 9223372036854775807 := by
  simp [IntKind.wrap, IntKind.signed, IntKind.bits]; omega
def badD (d : List UInt8) : Prop := d.length < 1 ∨ 19 < d.length ∨ ∃ (i : Nat) (h : i < d.length), ¬ digP d[i]
open Classical in
noncomputable def mOf (d : List UInt8) (sg : Int) : Int := if badD d then 0 else IntKind.i64.wrap (sg * (dval 0 d : Int))
theorem mOf_bad {d : List UInt8} {sg : Int} (h : badD d) : 0 = mOf d sg := by unfold mOf; rw [if_pos h]
theorem dval_take {d : List UInt8} {i : Nat} (h : i < d.length) (hd : digP d[i]) : ((dval 0 (d.take (i + 1)) : Nat) : Int) = (dval 0 (d.take i) : Nat) * 10 + ((d[i].toNat : Int) - 48) := by
  rw [List.take_succ_eq_append_getElem h, dval_snoc]
  unfold digP at hd
  omega
theorem num_end {s d : List UInt8} {i : Nat} {sg : Int} (hd : (s = d ∧ s.head? ≠ some 45 ∧ sg = 1) ∨ (s = 45 :: d ∧ sg = -1)) (h1 : 1 ≤ d.length) (h2 : d.length ≤ 19) (hz : ∀ (j : Nat) (h : j < d.length), j < i → digP d[j]) (hi : d.length ≤ i) :
    IntKind.i64.wrap (sg * (dval 0 (d.take i) : Int)) = mOf d sg ∧ sEq (Lib.itoa (IntKind.i64.wrap (sg * (dval 0 (d.take i) : Int)))) s = pB s := by
  have hg : ¬ badD d := by
    rintro (h | h | ⟨j, hj, h⟩)
    · omega
    · omega
    · exact h (hz j hj (by omega))
  rw [List.take_of_length_le hi]
  exact ⟨by unfold mOf; rw [if_neg hg], (num_val hd rfl).2.1⟩
theorem num_badS {s d : List UInt8} {sg : Int} (hd : (s = d ∧ s.head? ≠ some 45 ∧ sg = 1) ∨ (s = 45 :: d ∧ sg = -1)) (h : badD d) : false = pB s :=
  (num_bad (hd.imp (fun h => ⟨h.1, h.2.1⟩) (fun h => h.1)) h).symm
theorem mOf_ok {s d : List UInt8} {sg : Int} (hd : (s = d ∧ s.head? ≠ some 45 ∧ sg = 1) ∨ (s = 45 :: d ∧ sg = -1)) (hp : pB s = true) : mOf d sg = pN s := by
  have hg : ¬ badD d := fun h => by have := num_badS hd h; rw [hp] at this; cases this
  unfold mOf; rw [if_neg hg]
  exact (num_val hd rfl).2.2 hp
theorem digw {c : UInt8} (h : digP c) : IntKind.i64.wrap (IntKind.u8.wrap ((c.toNat : Int) - 48)) = (c.toNat : Int) - 48 := by
  unfold digP at h
  rw [w8i _ (by omega) (by omega), w64 _ (by omega) (by omega)]
theorem stepM {c : UInt8} {x : Int} (h : digP c) : IntKind.i64.wrap (IntKind.i64.wrap (IntKind.i64.wrap x * 10) - IntKind.i64.wrap (IntKind.u8.wrap ((c.toNat : Int) - 48))) = IntKind.i64.wrap (x * 10 + -((c.toNat : Int) - 48)) := by
  rw [digw h, Int.sub_eq_add_neg, wrap_step]
theorem stepP {c : UInt8} {x : Int} (h : digP c) : IntKind.i64.wrap (IntKind.i64.wrap (IntKind.i64.wrap x * 10) + IntKind.i64.wrap (IntKind.u8.wrap ((c.toNat : Int) - 48))) = IntKind.i64.wrap (x * 10 + ((c.toNat : Int) - 48)) := by
  rw [digw h, wrap_step]
theorem dig_all {d : List UInt8} {i : Nat} (h : i < d.length) (hz : ∀ (j : Nat) (h : j < d.length), j < i → digP d[j]) (hd : digP d[i]) : ∀ (j : Nat) (h : j < d.length), j < i + 1 → digP d[j] := fun j hj hji => by
  by_cases e : j = i
  · subst e; exact hd
  · exact hz j hj (by omega)
set_option maxHeartbeats 16000000 in
theorem numberA_pc [GlobF Tryd.prog] (r : List UInt8) (hs : r.length < 281474976710656) : PC Tryd.prog 33 [str (45 :: r)] (.tu [.sc (.int .i64 (mOf r (-1))), .sc (.bool (pB (45 :: r)))]) := by
  have hd : (45 :: r = r ∧ (45 :: r).head? ≠ some 45 ∧ (-1 : Int) = 1) ∨ ((45 : UInt8) :: r = 45 :: r ∧ (-1 : Int) = -1) := .inr ⟨rfl, rfl⟩
  refine PC.of_body Tryd.func33 Tryd.ntmps33 rfl rfl rfl ?_
  repeat' first
    | (apply p1 (hd := rfl); case hop => first | (apply D_move; rfl) | (apply D_assign; rfl) | (refine D_eqv (D_slSl (l := 45 :: r) (i := 1) rfl rfl (by decide) ?_) (v' := str r) rfl; rw [List.length_cons]; omega) | (apply D_pickT; rfl; rfl) | (apply D_pickF; rfl; rfl) | (apply D_int; rfl; rfl; rfl) | (apply D_len_str; rfl) | (apply D_str; rfl; rfl; rfl) | (apply D_not; rfl) | (apply D_conv_int; rfl) | (apply D_idxSn; rfl; rfl; (first | omega | (simp; done))) | (apply D_idxS; rfl; rfl; omega; (first | omega | (simp; done) | (simp; omega))) | (apply D_slS; rfl; rfl; rfl; all_goals first | omega | ((repeat rw [w64 _ (by omega) (by omega)]); omega) | decide) | (apply D_slSh; rfl; rfl; all_goals first | omega | ((repeat rw [w64 _ (by omega) (by omega)]); omega) | decide) | (apply D_slSl; rfl; rfl; all_goals first | omega | ((repeat rw [w64 _ (by omega) (by omega)]); omega) | decide))
    | refine W_seq ?_
    | refine W_region ?_
    | (refine idC ?_; first | refine c1 rfl ?_ | refine c0 rfl ?_ | refine cs rfl (fun _ => ?_) (fun _ => ?_))
    | refine WL_nil ?_
    | (refine idG ?_; first | refine g0t rfl rfl rfl ?_ | refine g0f rfl rfl rfl ?_ | refine g0u rfl rfl rfl ?_ | refine gr rfl rfl ?_ | refine gs rfl rfl (fun _ => ?_) (fun _ => ?_) | refine grn rfl rfl ?_)
    | refine tn ?_
    | refine tr ?_
    | refine br ?_
    | refine bn ?_
    | refine te ?_
    | (refine idB ?_; first | refine bh rfl ?_ | refine bm rfl ?_)
    | refine W_skip ?_
    | refine W_block ?_
    | refine W_exit ?_
    | refine W_ret ?_
    | refine W_label ?_
    | refine W_scope ?_
    | refine sn ?_
    | refine sr ?_
    | refine se ?_
    | (refine idR ?_; first | refine ret2 rfl rfl rfl rfl ?_ ?_ | refine rL2 rfl (by first | exact trivial | exact ⟨rfl, trivial⟩) (by first | exact ResO.tmp rfl | exact ResO.cellBA rfl rfl rfl | exact ResO.cellB1 rfl rfl rfl | exact ResO.cellEA rfl rfl | exact ResO.cellE1 rfl) (by first | exact ResO.tmp rfl | exact ResO.cellBA rfl rfl rfl | exact ResO.cellB1 rfl rfl rfl | exact ResO.cellEA rfl rfl | exact ResO.cellE1 rfl) ?_ ?_)
    | refine Le.bool ?_
    | refine Le.int ?_
    | refine Le.str ?_
  all_goals first
    | exact absurd (show (((45 :: r)[0]'(by simp)).toNat : Int) = 45 from rfl) (by assumption)
    | exact mOf_bad (.inl (by omega))
    | exact num_badS hd (.inl (by omega))
    | exact mOf_bad (.inr (.inl (by omega)))
    | exact num_badS hd (.inr (.inl (by omega)))
    | (exfalso; rename_i hh; rw [List.length_cons] at hh; omega)
    | skip
  rename_i g1 g2
  refine W_loopL (X := Nat) (fun i => [(0, str (45 :: r)), (4, str r), (5, .sc (.int .i64 (IntKind.i64.wrap (-1 * (dval 0 (r.take i) : Int))))), (6, .sc (.int .i64 (i : Int)))]) (fun _ => [])
    (fun i => i ≤ r.length ∧ ∀ (j : Nat) (h : j < r.length), j < i → digP r[j]) (fun i => r.length - i) 0 ⟨Nat.zero_le _, fun j h h' => absurd h' (Nat.not_lt_zero _)⟩ ⟨rfl, rfl, rfl, rfl, trivial⟩ rfl ?_
  rintro i ⟨hi, hz⟩
  obtain ⟨e0, e1⟩ := i64_rng (-1 * (dval 0 (r.take i) : Int))
  repeat' first
    | (apply p1 (hd := rfl); case hop => first | (apply D_move; rfl) | (apply D_assign; rfl) | (apply D_pc (digit_pc _); rfl; exact .same rfl .nil) | (apply D_pc (digits_pc _ e0 e1); rfl; exact .same rfl .nil) | (apply D_pickT; rfl; rfl) | (apply D_pickF; rfl; rfl) | (apply D_int; rfl; rfl; rfl) | (apply D_len_str; rfl) | (apply D_str; rfl; rfl; rfl) | (apply D_not; rfl) | (apply D_conv_int; rfl) | (apply D_idxSn; rfl; rfl; (first | omega | (simp; done))) | (apply D_idxS; rfl; rfl; omega; (first | omega | (simp; done) | (simp; omega))) | (apply D_slS; rfl; rfl; rfl; all_goals first | omega | ((repeat rw [w64 _ (by omega) (by omega)]); omega) | decide) | (apply D_slSh; rfl; rfl; all_goals first | omega | ((repeat rw [w64 _ (by omega) (by omega)]); omega) | decide) | (apply D_slSl; rfl; rfl; all_goals first | omega | ((repeat rw [w64 _ (by omega) (by omega)]); omega) | decide))
    | refine W_seq ?_
    | refine W_region ?_
    | (refine idC ?_; first | refine c1 rfl ?_ | refine c0 rfl ?_ | refine cs rfl (fun _ => ?_) (fun _ => ?_))
    | refine WL_nil ?_
    | (refine idG ?_; first | refine g0t rfl rfl rfl ?_ | refine g0f rfl rfl rfl ?_ | refine g0u rfl rfl rfl ?_ | refine gr rfl rfl ?_ | refine gs rfl rfl (fun _ => ?_) (fun _ => ?_) | refine grn rfl rfl ?_)
    | refine tn ?_
    | refine tr ?_
    | refine br ?_
    | refine bn ?_
    | refine te ?_
    | (refine idB ?_; first | refine bh rfl ?_ | refine bm rfl ?_)
    | refine W_skip ?_
    | refine W_block ?_
    | refine W_exit ?_
    | refine W_ret ?_
    | refine W_label ?_
    | refine W_scope ?_
    | refine sn ?_
    | refine sr ?_
    | refine se ?_
    | (refine idR ?_; first | refine ret2 rfl rfl rfl rfl ?_ ?_ | refine rL2 rfl (by first | exact trivial | exact ⟨rfl, trivial⟩) (by first | exact ResO.tmp rfl | exact ResO.cellBA rfl rfl rfl | exact ResO.cellB1 rfl rfl rfl | exact ResO.cellEA rfl rfl | exact ResO.cellE1 rfl) (by first | exact ResO.tmp rfl | exact ResO.cellBA rfl rfl rfl | exact ResO.cellB1 rfl rfl rfl | exact ResO.cellEA rfl rfl | exact ResO.cellE1 rfl) ?_ ?_)
    | refine Le.bool ?_
    | refine Le.int ?_
    | refine Le.str ?_
  · rename_i h1 h2
    exact mOf_bad (.inr (.inr ⟨i, by omega, h2⟩))
  · rename_i h1 h2
    exact num_badS hd (.inr (.inr ⟨i, by omega, h2⟩))
  · exfalso; rename_i hh; rw [List.length_cons] at hh; omega
  · rename_i h1 h2 _
    have h1' : i < r.length := by omega
    exact ⟨rfl, i + 1, ⟨by omega, dig_all h1' hz h2⟩, by omega, ⟨rfl, rfl, ieq (by rw [stepM h2, dval_take h1' h2]; congr 1; omega), ieq (wsucc i (by omega)), trivial⟩, rfl⟩
  · exact (num_end hd (by omega) (by omega) hz (by omega)).1
  · exact (num_end hd (by omega) (by omega) hz (by omega)).2
theorem hd_no {s : List UInt8} (h : s.head? ≠ some 45) (h0 : 0 < s.length) : (s[0].toNat : Int) ≠ 45 := by
  cases s with
  | nil => simp at h0
  | cons c r =>
    intro e
    have e' : (c.toNat : Int) = 45 := e
    have : c = 45 := UInt8.toNat_inj.1 (by show c.toNat = 45; omega)
    rw [this] at h; exact h rfl
set_option maxHeartbeats 16000000 in
theorem numberB_pc [GlobF Tryd.prog] (r : List UInt8) (h45 : r.head? ≠ some 45) (hs : r.length < 281474976710656) : PC Tryd.prog 33 [str r] (.tu [.sc (.int .i64 (mOf r 1)), .sc (.bool (pB r))]) := by
  have hd : (r = r ∧ r.head? ≠ some 45 ∧ (1 : Int) = 1) ∨ (r = 45 :: r ∧ (1 : Int) = -1) := .inl ⟨rfl, h45, rfl⟩
  refine PC.of_body Tryd.func33 Tryd.ntmps33 rfl rfl rfl ?_
  repeat' first
    | (apply p1 (hd := rfl); case hop => first | (apply D_move; rfl) | (apply D_assign; rfl) | (apply D_pickT; rfl; rfl) | (apply D_pickF; rfl; rfl) | (apply D_int; rfl; rfl; rfl) | (apply D_len_str; rfl) | (apply D_str; rfl; rfl; rfl) | (apply D_not; rfl) | (apply D_conv_int; rfl) | (apply D_idxSn; rfl; rfl; (first | omega | (simp; done))) | (apply D_idxS; rfl; rfl; omega; (first | omega | (simp; done) | (simp; omega))) | (apply D_slS; rfl; rfl; rfl; all_goals first | omega | ((repeat rw [w64 _ (by omega) (by omega)]); omega) | decide) | (apply D_slSh; rfl; rfl; all_goals first | omega | ((repeat rw [w64 _ (by omega) (by omega)]); omega) | decide) | (apply D_slSl; rfl; rfl; all_goals first | omega | ((repeat rw [w64 _ (by omega) (by omega)]); omega) | decide))
    | refine W_seq ?_
    | refine W_region ?_
    | (refine idC ?_; first | refine c1 rfl ?_ | refine c0 rfl ?_ | refine cs rfl (fun _ => ?_) (fun _ => ?_))
    | refine WL_nil ?_
    | (refine idG ?_; first | refine g0t rfl rfl rfl ?_ | refine g0f rfl rfl rfl ?_ | refine g0u rfl rfl rfl ?_ | refine gr rfl rfl ?_ | refine gs rfl rfl (fun _ => ?_) (fun _ => ?_) | refine grn rfl rfl ?_)
    | refine tn ?_
    | refine tr ?_
    | refine br ?_
    | refine bn ?_
    | refine te ?_
    | (refine idB ?_; first | refine bh rfl ?_ | refine bm rfl ?_)
    | refine W_skip ?_
    | refine W_block ?_
    | refine W_exit ?_
    | refine W_ret ?_
    | refine W_label ?_
    | refine W_scope ?_
    | refine sn ?_
    | refine sr ?_
    | refine se ?_
    | (refine idR ?_; first | refine ret2 rfl rfl rfl rfl ?_ ?_ | refine rL2 rfl (by first | exact trivial | exact ⟨rfl, trivial⟩) (by first | exact ResO.tmp rfl | exact ResO.cellBA rfl rfl rfl | exact ResO.cellB1 rfl rfl rfl | exact ResO.cellEA rfl rfl | exact ResO.cellE1 rfl) (by first | exact ResO.tmp rfl | exact ResO.cellBA rfl rfl rfl | exact ResO.cellB1 rfl rfl rfl | exact ResO.cellEA rfl rfl | exact ResO.cellE1 rfl) ?_ ?_)
    | refine Le.bool ?_
    | refine Le.int ?_
    | refine Le.str ?_
  all_goals first
    | (exfalso; refine hd_no h45 (by omega) ?_; assumption)
    | exact mOf_bad (.inl (by omega))
    | exact num_badS hd (.inl (by omega))
    | exact mOf_bad (.inr (.inl (by omega)))
    | exact num_badS hd (.inr (.inl (by omega)))
    | (exfalso; omega)
    | skip
  rename_i g1 g2
  refine W_loopL (X := Nat) (fun i => [(0, str r), (4, str r), (5, .sc (.int .i64 (IntKind.i64.wrap (1 * (dval 0 (r.take i) : Int))))), (6, .sc (.int .i64 (i : Int)))]) (fun _ => [])
    (fun i => i ≤ r.length ∧ ∀ (j : Nat) (h : j < r.length), j < i → digP r[j]) (fun i => r.length - i) 0 ⟨Nat.zero_le _, fun j h h' => absurd h' (Nat.not_lt_zero _)⟩ ⟨rfl, rfl, rfl, rfl, trivial⟩ rfl ?_
  rintro i ⟨hi, hz⟩
  obtain ⟨e0, e1⟩ := i64_rng (1 * (dval 0 (r.take i) : Int))
  repeat' first
    | (apply p1 (hd := rfl); case hop => first | (apply D_move; rfl) | (apply D_assign; rfl) | (apply D_pc (digit_pc _); rfl; exact .same rfl .nil) | (apply D_pc (digits_pc _ e0 e1); rfl; exact .same rfl .nil) | (apply D_pickT; rfl; rfl) | (apply D_pickF; rfl; rfl) | (apply D_int; rfl; rfl; rfl) | (apply D_len_str; rfl) | (apply D_str; rfl; rfl; rfl) | (apply D_not; rfl) | (apply D_conv_int; rfl) | (apply D_idxSn; rfl; rfl; (first | omega | (simp; done))) | (apply D_idxS; rfl; rfl; omega; (first | omega | (simp; done) | (simp; omega))) | (apply D_slS; rfl; rfl; rfl; all_goals first | omega | ((repeat rw [w64 _ (by omega) (by omega)]); omega) | decide) | (apply D_slSh; rfl; rfl; all_goals first | omega | ((repeat rw [w64 _ (by omega) (by omega)]); omega) | decide) | (apply D_slSl; rfl; rfl; all_goals first | omega | ((repeat rw [w64 _ (by omega) (by omega)]); omega) | decide))
    | refine W_seq ?_
    | refine W_region ?_
    | (refine idC ?_; first | refine c1 rfl ?_ | refine c0 rfl ?_ | refine cs rfl (fun _ => ?_) (fun _ => ?_))
    | refine WL_nil ?_
    | (refine idG ?_; first | refine g0t rfl rfl rfl ?_ | refine g0f rfl rfl rfl ?_ | refine g0u rfl rfl rfl ?_ | refine gr rfl rfl ?_ | refine gs rfl rfl (fun _ => ?_) (fun _ => ?_) | refine grn rfl rfl ?_)
    | refine tn ?_
    | refine tr ?_
    | refine br ?_
    | refine bn ?_
    | refine te ?_
    | (refine idB ?_; first | refine bh rfl ?_ | refine bm rfl ?_)
    | refine W_skip ?_
    | refine W_block ?_
    | refine W_exit ?_
    | refine W_ret ?_
    | refine W_label ?_
    | refine W_scope ?_
    | refine sn ?_
    | refine sr ?_
    | refine se ?_
    | (refine idR ?_; first | refine ret2 rfl rfl rfl rfl ?_ ?_ | refine rL2 rfl (by first | exact trivial | exact ⟨rfl, trivial⟩) (by first | exact ResO.tmp rfl | exact ResO.cellBA rfl rfl rfl | exact ResO.cellB1 rfl rfl rfl | exact ResO.cellEA rfl rfl | exact ResO.cellE1 rfl) (by first | exact ResO.tmp rfl | exact ResO.cellBA rfl rfl rfl | exact ResO.cellB1 rfl rfl rfl | exact ResO.cellEA rfl rfl | exact ResO.cellE1 rfl) ?_ ?_)
    | refine Le.bool ?_
    | refine Le.int ?_
    | refine Le.str ?_
  · rename_i h1 h2
    exact mOf_bad (.inr (.inr ⟨i, by omega, h2⟩))
  · rename_i h1 h2
    exact num_badS hd (.inr (.inr ⟨i, by omega, h2⟩))
  · rename_i h1 h2 _
    have h1' : i < r.length := by omega
    exact ⟨rfl, i + 1, ⟨by omega, dig_all h1' hz h2⟩, by omega, ⟨rfl, rfl, ieq (by rw [stepP h2, dval_take h1' h2]; congr 1; omega), ieq (wsucc i (by omega)), trivial⟩, rfl⟩
  · exfalso; rename_i hh; exact hh rfl
  · exact (num_end hd (by omega) (by omega) hz (by omega)).1
  · exact (num_end hd (by omega) (by omega) hz (by omega)).2
theorem number1_pc [GlobF Tryd.prog] (s : List UInt8) (hs : s.length < 281474976710656) : ∃ m, PC Tryd.prog 33 [str s] (.tu [.sc (.int .i64 m), .sc (.bool (pB s))]) ∧ (pB s = true → m = pN s) := by
  by_cases h : s.head? = some 45
  · cases s with
    | nil => cases h
    | cons c r =>
      have : c = 45 := by simpa using h
      subst this
      exact ⟨_, numberA_pc r (by simp at hs; omega), fun hp => mOf_ok (.inr ⟨rfl, rfl⟩) hp⟩
  · exact ⟨_, numberB_pc s h hs, fun hp => mOf_ok (.inl ⟨rfl, h, rfl⟩) hp⟩
end Go.Proofs
