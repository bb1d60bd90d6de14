
/- Contracts of numbers' texts. -/
import Derived.Test.YtfnmipagllofiaaDoorUS1
import Derived.Test.YtfnmipagllofiaaDoorPN
import Derived.Test.YtfnmipagllofiaaDoorOps5
import Derived.Test.YtfnmipagllofiaaDoorOps17
import Derived.Test.YtfnmipagllofiaaDoorOps19
import Derived.Lib.UnsafeStr
import Derived.Lib.Walk
import Derived.WalkKit
import Derived.OwnWalk
import Derived.Shelf.RegionOpenPlain
import Derived.Lib.BufferWrite
import Derived.Lib.Hide
import Derived.Laws.MakeOwn
import Derived.Lib.ParseIntBTie
namespace Go.Proofs
open Go.AL Go.Sort
attribute [local irreducible] Go.AL.W Go.AL.WL Go.AL.WD Go.AL.POp Go.AL.PPOp Go.AL.POpS Go.AL.PC Go.AL.AC Go.AL.YW Go.AL.Ret Go.AL.Le Go.AL.thn Go.AL.inBlk Go.AL.scp
instance (p : Prop) : BP (dP p) p (¬ p) := ⟨fun h => by rwa [dP_t] at h, fun h => by rwa [dP_f] at h⟩
instance : Xt Tryd.prog 58 Extern.AbiNoEscape.same := ⟨run_callFunc_extern Tryd.func58 (by kernel_rfl) (by kernel_rfl) (by kernel_rfl) (by kernel_rfl)⟩
instance : Lies Tryd.prog 55 2 0 55 := ⟨by kernel_rfl⟩
def ownP (r : Nat) (p : AV) : Prop := p = .sc (.pointer none) ∨ p = .bp r 0
set_option maxHeartbeats 4000000 in
theorem ccheck_ac [GlobF Tryd.prog] {h : List AObj} {r n T : Nat} {p : AV} {xs : List AV} [hl : Lies Tryd.prog T n 0 55] (hr : h[r]? = some (.cells (p :: xs) (some T))) (hn : xs.length + 1 = n) (hp : ownP r p) :
    AC Tryd.prog 38 [.bp r 0] h (fun v h' => v = .tu [] ∧ h' = h.set r (.cells (.bp r 0 :: xs) (some T))) := by
  rcases hp with rfl | rfl
  · refine AC.of_body Tryd.func38 Tryd.ntmps38 rfl rfl rfl ?_
    repeat' first
      | (refine p1L (D_loadB1 rfl hr rfl) rfl ?_)
      | (refine p1L (D_toU rfl hr rfl rfl) rfl ?_)
      | (refine p1L (D_fromU rfl hr hn) rfl ?_)
      | (refine pS (S_store rfl rfl rfl hr rfl rfl rfl) ?_)
      | (apply p1 (hd := rfl); case hop => first | (apply D_move; rfl) | exact D_peN rfl rfl | exact D_noesc rfl rfl | (apply D_load1; rfl) | (apply D_fld; rfl) | (apply D_loadW; rfl; rfl) | (apply D_loadA; rfl; rfl) | (apply D_conv_int; rfl) | (apply D_conv_str; rfl) | (apply D_s2b; rfl) | (apply D_b2s; rfl) | exact D_xcmp rfl rfl rfl | exact D_xidx rfl rfl rfl | exact D_fldB rfl | (apply D_nilB; rfl) | (apply D_nilE; rfl))
      | refine W_seq ?_
      | refine W_region ?_
      | (refine idC ?_; first | refine c1 rfl ?_ | refine c0 rfl ?_ | refine cs rfl (fun _ => ?_) (fun _ => ?_))
      | refine WL_nil ?_
      | refine tn ?_
      | refine tr ?_
      | refine br ?_
      | refine bn ?_
      | refine te ?_
      | (refine idB ?_; first | refine bh rfl ?_ | refine bm rfl ?_)
      | refine W_skip ?_
      | refine W_block ?_
      | refine W_exit ?_
      | refine W_ret ?_
      | refine W_label ?_
      | refine W_scope ?_
      | refine sn ?_
      | refine sr ?_
      | refine se ?_
      | (refine idLd ?_; first | refine p1L (D_loadB1 rfl rfl rfl) rfl ?_ | refine p1L (D_loadBA rfl rfl rfl) rfl ?_ | refine p1L (D_loadB1 rfl (by (repeat first | assumption | exact get_last | (refine get_last2 ?_; focus (simp; done)) | apply get_set | apply get_app | (apply get_ne; focus omega) | (apply get_ne; focus (simp only [List.length_set, List.length_append, List.length_cons, List.length_nil]; omega))); done) (by rfl)) rfl ?_ | refine p1L (D_loadBA rfl (by (repeat first | assumption | exact get_last | (refine get_last2 ?_; focus (simp; done)) | apply get_set | apply get_app | (apply get_ne; focus omega) | (apply get_ne; focus (simp only [List.length_set, List.length_append, List.length_cons, List.length_nil]; omega))); done) (by rfl)) rfl ?_)
      | (refine idS ?_; first | refine pS (S_store rfl rfl rfl rfl rfl rfl rfl) ?_ | refine pS (S_store rfl rfl rfl (by (repeat first | assumption | exact get_last | (refine get_last2 ?_; focus (simp; done)) | apply get_set | apply get_app | (apply get_ne; focus omega) | (apply get_ne; focus (simp only [List.length_set, List.length_append, List.length_cons, List.length_nil]; omega))); done) (by rfl) (by rfl) (by rfl)) ?_)
      | refine Le.bool ?_
      | refine Le.int ?_
      | refine Le.str ?_
    exact ret0 (.inr rfl) rfl rfl ⟨rfl, rfl⟩
  · refine AC.of_body Tryd.func38 Tryd.ntmps38 rfl rfl rfl ?_
    repeat' first
      | (refine p1L (D_loadB1 rfl hr rfl) rfl ?_)
      | (apply p1 (hd := rfl); case hop => first | (apply D_move; rfl) | exact D_peB rfl rfl | exact D_pnB rfl rfl | (apply D_load1; rfl) | (apply D_fld; rfl) | (apply D_loadW; rfl; rfl) | (apply D_loadA; rfl; rfl) | (apply D_conv_int; rfl) | (apply D_conv_str; rfl) | (apply D_s2b; rfl) | (apply D_b2s; rfl) | exact D_xcmp rfl rfl rfl | exact D_xidx rfl rfl rfl | exact D_fldB rfl | (apply D_nilB; rfl) | (apply D_nilE; rfl))
      | refine W_seq ?_
      | refine W_region ?_
      | (refine idC ?_; first | refine c1 rfl ?_ | refine c0 rfl ?_ | refine cs rfl (fun _ => ?_) (fun _ => ?_))
      | refine WL_nil ?_
      | refine tn ?_
      | refine tr ?_
      | refine br ?_
      | refine bn ?_
      | refine te ?_
      | (refine idB ?_; first | refine bh rfl ?_ | refine bm rfl ?_)
      | refine W_skip ?_
      | refine W_block ?_
      | refine W_exit ?_
      | refine W_ret ?_
      | refine W_label ?_
      | refine W_scope ?_
      | refine sn ?_
      | refine sr ?_
      | refine se ?_
      | (refine idLd ?_; first | refine p1L (D_loadB1 rfl rfl rfl) rfl ?_ | refine p1L (D_loadBA rfl rfl rfl) rfl ?_ | refine p1L (D_loadB1 rfl (by (repeat first | assumption | exact get_last | (refine get_last2 ?_; focus (simp; done)) | apply get_set | apply get_app | (apply get_ne; focus omega) | (apply get_ne; focus (simp only [List.length_set, List.length_append, List.length_cons, List.length_nil]; omega))); done) (by rfl)) rfl ?_ | refine p1L (D_loadBA rfl (by (repeat first | assumption | exact get_last | (refine get_last2 ?_; focus (simp; done)) | apply get_set | apply get_app | (apply get_ne; focus omega) | (apply get_ne; focus (simp only [List.length_set, List.length_append, List.length_cons, List.length_nil]; omega))); done) (by rfl)) rfl ?_)
      | (refine idS ?_; first | refine pS (S_store rfl rfl rfl rfl rfl rfl rfl) ?_ | refine pS (S_store rfl rfl rfl (by (repeat first | assumption | exact get_last | (refine get_last2 ?_; focus (simp; done)) | apply get_set | apply get_app | (apply get_ne; focus omega) | (apply get_ne; focus (simp only [List.length_set, List.length_append, List.length_cons, List.length_nil]; omega))); done) (by rfl) (by rfl) (by rfl)) ?_)
      | refine Le.bool ?_
      | refine Le.int ?_
      | refine Le.str ?_
    exact ret0 (.inr rfl) rfl rfl ⟨rfl, (set_self hr).symm⟩
abbrev bCells (p : AV) (tk : Nat) (l : List UInt8) (ys : List AV) : List AV := p :: .sl (some tk) 1 (l.map byteC) :: ys
structure Bld (h : List AObj) (r tk T : Nat) (p : AV) (l : List UInt8) (ys : List AV) : Prop where
  box : h[r]? = some (.cells (bCells p tk l ys) (some T))
  tail : h[tk]? = some (.tail l.length 1 5)
  own : ownP r p
  lt : l.length < 1099511627776
theorem Bld.ne {h : List AObj} {r tk T : Nat} {p : AV} {l : List UInt8} {ys : List AV} (hb : Bld h r tk T p l ys) : r ≠ tk := fun e => by
  subst e
  have := hb.box.symm.trans hb.tail
  cases this
def bldH (h : List AObj) (r tk T : Nat) (l : List UInt8) (ys : List AV) : List AObj := (h.set tk (.tail l.length 1 5)).set r (.cells (bCells (.bp r 0) tk l ys) (some T))
theorem Bld.next {h : List AObj} {r tk T : Nat} {p : AV} {l : List UInt8} {ys : List AV} (hb : Bld h r tk T p l ys) (m : List UInt8) (zs : List AV) (hm : m.length < 1099511627776) : Bld (bldH h r tk T m zs) r tk T (.bp r 0) m zs :=
  ⟨List.getElem?_set_self (by rw [List.length_set]; exact get_lt hb.box), by unfold bldH; rw [List.getElem?_set_ne hb.ne]; exact List.getElem?_set_self (get_lt hb.tail), .inr rfl, hm⟩
set_option maxHeartbeats 4000000 in
theorem wstr_ac [GlobF Tryd.prog] {h : List AObj} {r tk n T : Nat} {p : AV} {l : List UInt8} {ys : List AV} [hl : Lies Tryd.prog T n 0 55] (hn : ys.length + 2 = n) (hb : Bld h r tk T p l ys) (s : List UInt8) (hs : s.length < 1099511627776) :
    AC Tryd.prog 25 [.bp r 0, str s] h (fun v h' => v = .tu [.sc (.int .i64 (s.length : Int)), .sc .nilIface] ∧ h' = bldH h r tk T (l ++ s) ys) := by
  have hlt := hb.lt
  have hc := ccheck_ac (n := n) hb.box (by simpa using hn) hb.own
  have h1 : (h.set r (.cells (bCells (.bp r 0) tk l ys) (some T)))[r]? = some (.cells (bCells (.bp r 0) tk l ys) (some T)) := List.getElem?_set_self (get_lt hb.box)
  have h2 : (h.set r (.cells (bCells (.bp r 0) tk l ys) (some T)))[tk]? = some (.tail l.length 1 5) := get_ne hb.ne hb.tail
  have h3 : ((h.set r (.cells (bCells (.bp r 0) tk l ys) (some T))).set tk (.tail (l.length + s.length) 1 5))[r]? = some (.cells (bCells (.bp r 0) tk l ys) (some T)) := get_ne hb.ne.symm h1
  refine AC.of_body Tryd.func25 Tryd.ntmps25 rfl rfl rfl ?_
  repeat' first
    | (refine m_call hc rfl rfl rfl ?_; rintro _ _ ⟨rfl, rfl⟩)
    | (refine p1L (D_loadB1 rfl h1 rfl) rfl ?_)
    | (refine idAp ?_; refine m_appS rfl rfl h2 (by rw [List.length_map]) (by rw [List.length_map]; omega) rfl ?_)
    | (refine pS (S_store rfl rfl rfl (by rw [List.length_map]; exact h3) rfl rfl rfl) ?_)
    | (apply p1 (hd := rfl); case hop => first | (apply D_move; rfl) | (apply D_assign; rfl) | (apply D_load1; rfl) | (apply D_fld; rfl) | (apply D_len_str; rfl) | (apply D_loadW; rfl; rfl) | (apply D_loadA; rfl; rfl) | exact D_fldB rfl | (apply D_nilB; rfl) | (apply D_nilE; rfl))
    | refine W_seq ?_
    | refine W_region ?_
    | refine WL_nil ?_
    | refine tn ?_
    | refine tr ?_
    | refine br ?_
    | refine bn ?_
    | refine te ?_
    | (refine idB ?_; first | refine bh rfl ?_ | refine bm rfl ?_)
    | refine W_skip ?_
    | refine W_block ?_
    | refine W_exit ?_
    | refine W_ret ?_
    | refine W_label ?_
    | refine W_scope ?_
    | refine sn ?_
    | refine sr ?_
    | refine se ?_
    | (refine idLd ?_; first | refine p1L (D_loadB1 rfl rfl rfl) rfl ?_ | refine p1L (D_loadBA rfl rfl rfl) rfl ?_ | refine p1L (D_loadB1 rfl (by (repeat first | assumption | exact get_last | (refine get_last2 ?_; focus (simp; done)) | apply get_set | apply get_app | (apply get_ne; focus omega) | (apply get_ne; focus (simp only [List.length_set, List.length_append, List.length_cons, List.length_nil]; omega))); done) (by rfl)) rfl ?_ | refine p1L (D_loadBA rfl (by (repeat first | assumption | exact get_last | (refine get_last2 ?_; focus (simp; done)) | apply get_set | apply get_app | (apply get_ne; focus omega) | (apply get_ne; focus (simp only [List.length_set, List.length_append, List.length_cons, List.length_nil]; omega))); done) (by rfl)) rfl ?_)
    | (refine idS ?_; first | refine pS (S_store rfl rfl rfl rfl rfl rfl rfl) ?_ | refine pS (S_store rfl rfl rfl (by (repeat first | assumption | exact get_last | (refine get_last2 ?_; focus (simp; done)) | apply get_set | apply get_app | (apply get_ne; focus omega) | (apply get_ne; focus (simp only [List.length_set, List.length_append, List.length_cons, List.length_nil]; omega))); done) (by rfl) (by rfl) (by rfl)) ?_)
    | refine Le.bool ?_
    | refine Le.int ?_
    | refine Le.str ?_
    | (refine idAp ?_; refine m_app rfl rfl (by first | rfl | assumption | exact get_set (by assumption) | exact get_set (get_set (by assumption)) | exact get_set (get_set (get_set (by assumption))) | ((repeat first | assumption | exact get_last | (refine get_last2 ?_; focus (simp; done)) | apply get_set | apply get_app | (apply get_ne; focus omega)); done)) ?_ rfl rfl ?_ ?_ rfl ?_; (first | rfl | focus (simp only [List.length_map, List.length_append, List.length_cons, List.length_nil]; omega) | focus (simp; done) | focus (simp; omega)); (first | focus (simp only [List.length_map, List.length_append, List.length_cons, List.length_nil]; omega) | focus (simp; done) | focus (simp; omega)); (first | focus (simp only [List.length_map, List.length_append, List.length_cons, List.length_nil]; omega) | focus (simp; done) | focus (simp; omega)))
    | (refine idAp ?_; refine m_appB rfl rfl rfl (by first | rfl | assumption | exact get_set (by assumption) | exact get_set (get_set (by assumption)) | exact get_set (get_set (get_set (by assumption))) | ((repeat first | assumption | exact get_last | (refine get_last2 ?_; focus (simp; done)) | apply get_set | apply get_app | (apply get_ne; focus omega)); done)) ?_ rfl rfl ?_ ?_ rfl ?_; (first | rfl | focus (simp only [List.length_map, List.length_append, List.length_cons, List.length_nil]; omega) | focus (simp; done) | focus (simp; omega)); (first | focus (simp only [List.length_map, List.length_append, List.length_cons, List.length_nil]; omega) | focus (simp; done) | focus (simp; omega)); (first | focus (simp only [List.length_map, List.length_append, List.length_cons, List.length_nil]; omega) | focus (simp; done) | focus (simp; omega)))
  refine retK (rs := [_, _]) (.inl rfl) rfl trivial (.cons (ResO.tmp rfl) (.cons (ResO.tmp rfl) .nil)) ⟨rfl, ?_⟩
  show _ = bldH h r tk T (l ++ s) ys
  simp only [bldH, kill]
  rw [List.set_comm _ _ hb.ne, List.set_set]
  simp [bCells]
theorem drew_freeze_heap (w : World) (g n b : Nat) (hb : b ≠ g) : (w.drew.freeze ⟨g, 0, none⟩ n).heap[b]? = w.heap[b]? := by
  unfold World.freeze
  split
  · rfl
  · show (w.heap.modify g _)[b]? = w.heap[b]?
    simp [Array.getElem?_modify, Ne.symm hb]
theorem drew_freeze_cell (w : World) (g n b o : Nat) : (w.drew.freeze ⟨g, 0, none⟩ n).cell? ⟨b, o, none⟩ = w.cell? ⟨b, o, none⟩ := by
  by_cases hb : b = g
  · subst hb
    unfold World.freeze
    split
    · rfl
    · have e : ∀ f : Obj → Obj, (w.heap.modify b f)[b]? = (w.heap[b]?).map f := fun f => by rw [Array.getElem?_modify, if_pos rfl]
      simp only [World.cell?]
      rw [show w.drew.heap = w.heap from rfl, e]
      cases h : w.heap[b]? with
      | none => rfl
      | some o => cases o <;> rfl
  · unfold World.cell?
    rw [drew_freeze_heap w g n b hb]
theorem drew_freeze_size (w : World) (g n : Nat) : (w.drew.freeze ⟨g, 0, none⟩ n).heap.size = w.heap.size := by
  unfold World.freeze
  split
  · rfl
  · show (w.heap.modify g _).size = w.heap.size
    simp
theorem drew_freeze_drawn (w : World) (g n : Nat) : (w.drew.freeze ⟨g, 0, none⟩ n).drawn = w.drawn + 1 ∧ (w.drew.freeze ⟨g, 0, none⟩ n).tape = w.tape ∧ (w.drew.freeze ⟨g, 0, none⟩ n).os = w.os ∧ (w.drew.freeze ⟨g, 0, none⟩ n).output = w.output := by
  unfold World.freeze
  split <;> exact ⟨rfl, rfl, rfl, rfl⟩
set_option maxHeartbeats 4000000 in
set_option maxRecDepth 100000 in
theorem bstr_calls (b g cap : Nat) (cs cur : Array Value) (T : TypeId) (l : List UInt8) (w : World) (h0 : l ≠ []) (hbk : w.heap[b]? = some (.cells cs T (0, 0))) (hcs : cs[1]? = some (.slice (some ⟨g, 0, none⟩) l.length cap)) (hg : w.heap[g]? = some (.cells cur 5 (0, 0)))
    (hnc : l.length ≤ cap) (hcm : cap ≤ maxLen) (hsz : cur.size = cap) (hby : ∀ j x, l[j]? = some x → w.cell? ⟨g, j, none⟩ = some (.int .u8 x.toNat)) :
    Calls Tryd.prog 26 #[.pointer (some ⟨b, 0, none⟩)] w fun e w' => e = .returned (.string ⟨l.toArray⟩) ∧ w' = w.drew.freeze ⟨g, 0, none⟩ l.length := by
  have hl0 : l.length ≠ 0 := by simpa using h0
  have c1 : w.drew.cell? ⟨b, 1, none⟩ = some (.slice (some ⟨g, 0, none⟩) l.length cap) := by
    have : w.drew.heap[b]? = some (.cells cs T (0, 0)) := hbk
    rw [Lib.cell_of_heap this]; exact hcs
  have hSD : ∀ ts ty, (Builtin.unsafeSliceData_ ts ty #[.slice (some ⟨g, 0, none⟩) l.length cap]).run Tryd.prog w.drew = .ok (.pointer (some ⟨g, 0, none⟩)) w.drew := fun ts ty =>
    Lib.run_unsafeSliceData_row _ _ _ _ _ _ (by omega)
  have hUS : ∀ pt it ty, Tryd.prog.underlying pt = some (.pointer 5) → (Builtin.unsafeString_ #[pt, it] ty #[.pointer (some ⟨g, 0, none⟩), .int .i64 l.length]).run Tryd.prog w.drew = .ok (.string ⟨l.toArray⟩) (w.drew.freeze ⟨g, 0, none⟩ l.length) := fun pt it ty hpt => by
    refine Lib.run_unsafeString_row w.drew pt it ty 5 hpt (by kernel_rfl) g cur.size (by have hg' : w.drew.heap[g]? = some (.cells cur 5 (0, 0)) := hg; simp [World.shape?, hg']) l h0 (by omega) (by unfold maxLen at hcm; omega) ?_
    intro j x hx
    rw [Addr.add_lit, Nat.zero_add]
    exact hby j x hx
  have hUS' := hUS 68 3 9 Tryd.underlying68
  have hSD' := hSD #[53] 68
  have mixed : Tryd.prog.follows Departure.mixedOrders = true := by decide
  go_enter Tryd.func26, Tryd.ntmps26
  go_wp2
  go_region_o
  all_goals (go_wp2; go_ret; exact ⟨rfl, rfl⟩)
set_option maxHeartbeats 4000000 in
set_option maxRecDepth 100000 in
theorem bstr0_calls (b : Nat) (cs : Array Value) (T : TypeId) (w : World) (hbk : w.heap[b]? = some (.cells cs T (0, 0))) (hcs : cs[1]? = some (.slice none 0 0)) :
    Calls Tryd.prog 26 #[.pointer (some ⟨b, 0, none⟩)] w fun e w' => e = .returned (.string ⟨#[]⟩) ∧ w' = w.drew := by
  have c1 : w.drew.cell? ⟨b, 1, none⟩ = some (.slice none 0 0) := by
    have : w.drew.heap[b]? = some (.cells cs T (0, 0)) := hbk
    rw [Lib.cell_of_heap this]; exact hcs
  have hSD : (Builtin.unsafeSliceData_ #[53] 68 #[.slice none 0 0]).run Tryd.prog w.drew = .ok (.pointer none) w.drew := Lib.run_unsafeSliceData_nil _ _ _ _ _
  have hUS : (Builtin.unsafeString_ #[68, 3] 9 #[.pointer none, .int .i64 0]).run Tryd.prog w.drew = .ok (.string .empty) w.drew := Lib.run_unsafeString_none _ _ _ _ _
  have mixed : Tryd.prog.follows Departure.mixedOrders = true := by decide
  go_enter Tryd.func26, Tryd.ntmps26
  go_wp2
  go_region_o
  all_goals (go_wp2; go_ret; exact ⟨rfl, rfl⟩)
set_option maxHeartbeats 4000000 in
set_option maxRecDepth 100000 in
theorem bstr1_calls (b g cap : Nat) (cs : Array Value) (T : TypeId) (w : World) (hbk : w.heap[b]? = some (.cells cs T (0, 0))) (hcs : cs[1]? = some (.slice (some ⟨g, 0, none⟩) 0 cap)) (hc0 : cap ≠ 0) :
    Calls Tryd.prog 26 #[.pointer (some ⟨b, 0, none⟩)] w fun e w' => e = .returned (.string ⟨#[]⟩) ∧ w' = w.drew := by
  have c1 : w.drew.cell? ⟨b, 1, none⟩ = some (.slice (some ⟨g, 0, none⟩) 0 cap) := by
    have : w.drew.heap[b]? = some (.cells cs T (0, 0)) := hbk
    rw [Lib.cell_of_heap this]; exact hcs
  have hSD : (Builtin.unsafeSliceData_ #[53] 68 #[.slice (some ⟨g, 0, none⟩) 0 cap]).run Tryd.prog w.drew = .ok (.pointer (some ⟨g, 0, none⟩)) w.drew := Lib.run_unsafeSliceData_row _ _ _ _ _ _ hc0
  have hUS : (Builtin.unsafeString_ #[68, 3] 9 #[.pointer (some ⟨g, 0, none⟩), .int .i64 0]).run Tryd.prog w.drew = .ok (.string .empty) w.drew := Lib.run_unsafeString_none _ _ _ _ _
  clear hc0
  have mixed : Tryd.prog.follows Departure.mixedOrders = true := by decide
  go_enter Tryd.func26, Tryd.ntmps26
  go_wp2
  go_region_o
  all_goals (go_wp2; go_ret; exact ⟨rfl, rfl⟩)
set_option maxHeartbeats 4000000 in
set_option maxRecDepth 100000 in
theorem bstr2_calls (b g : Nat) (cs cur : Array Value) (T : TypeId) (w : World) (hbk : w.heap[b]? = some (.cells cs T (0, 0))) (hcs : cs[1]? = some (.slice (some ⟨g, 0, none⟩) 0 0)) (hg : w.heap[g]? = some (.cells cur 5 (0, 0))) :
    Calls Tryd.prog 26 #[.pointer (some ⟨b, 0, none⟩)] w fun e w' => e = .returned (.string ⟨#[]⟩) ∧ Grown w w' := by
  have hlt : b < w.heap.size := (Array.getElem?_eq_some_iff.1 hbk).1
  have c1 : w.drew.cell? ⟨b, 1, none⟩ = some (.slice (some ⟨g, 0, none⟩) 0 0) := by
    have : w.drew.heap[b]? = some (.cells cs T (0, 0)) := hbk
    rw [Lib.cell_of_heap this]; exact hcs
  have hSD : (Builtin.unsafeSliceData_ #[53] 68 #[.slice (some ⟨g, 0, none⟩) 0 0]).run Tryd.prog w.drew = .ok (.pointer (some ⟨w.drew.heap.size, 0, none⟩)) (w.drew.alloc (.view ⟨g, 0, none⟩ 5)) :=
    Lib.run_unsafeSliceData_zero w.drew _ _ 5 Tryd.underlying68 ⟨g, 0, none⟩ 0 (5, cur.size) (by have hg' : w.drew.heap[g]? = some (.cells cur 5 (0, 0)) := hg; simp [World.shape?, hg'])
  have c2 : (w.drew.alloc (.view ⟨g, 0, none⟩ 5)).cell? ⟨b, 1, none⟩ = some (.slice (some ⟨g, 0, none⟩) 0 0) := by
    have : (w.drew.alloc (.view ⟨g, 0, none⟩ 5)).heap[b]? = _ := (Lib.alloc_old w.drew _ b hlt).trans hbk
    rw [Lib.cell_of_heap this]; exact hcs
  have c3 : (w.alloc (.view ⟨g, 0, none⟩ 5)).drew.cell? ⟨b, 1, none⟩ = some (.slice (some ⟨g, 0, none⟩) 0 0) := c2
  have c0 : w.cell? ⟨b, 1, none⟩ = some (.slice (some ⟨g, 0, none⟩) 0 0) := c1
  have hUS : (Builtin.unsafeString_ #[68, 3] 9 #[.pointer (some ⟨w.heap.size, 0, none⟩), .int .i64 0]).run Tryd.prog (w.alloc (.view ⟨g, 0, none⟩ 5)).drew = .ok (.string .empty) (w.alloc (.view ⟨g, 0, none⟩ 5)).drew := Lib.run_unsafeString_none _ _ _ _ _
  have mixed : Tryd.prog.follows Departure.mixedOrders = true := by decide
  have hG' : Grown w (w.alloc (.view ⟨g, 0, none⟩ 5)).drew := ⟨rfl, rfl, rfl, Nat.le_succ _, by show w.heap.size ≤ (w.heap.push _).size; simp, fun k hk => Lib.alloc_old w.drew _ k hk⟩
  have hG : Grown w (w.drew.alloc (.view ⟨g, 0, none⟩ 5)) := ⟨rfl, rfl, rfl, Nat.le_succ _, by show w.heap.size ≤ (w.heap.push _).size; simp, fun k hk => Lib.alloc_old w.drew _ k hk⟩
  go_enter Tryd.func26, Tryd.ntmps26
  go_wp2
  go_region_o
  all_goals (go_wp2; go_ret; first | exact ⟨rfl, hG⟩ | exact ⟨rfl, hG'⟩)
def PowOK [GlobF Tryd.prog] : Prop := ∃ t fz, GlobF.o Tryd.prog 1 = some (.cells (Lib.pow10Tab.map (Value.int .u64)).toArray t fz)
def ErrsOK [GlobF Tryd.prog] : Prop := ∃ t1 u1 t2 u2, GlobF.f Tryd.prog 2 0 = some (.iface t1 u1) ∧ GlobF.f Tryd.prog 3 0 = some (.iface t2 u2)
theorem grown_grow (w : World) (k : Nat) (os : Array Obj) : AL.Grown w (Go.Sort.grow (w.drewN k) os) :=
  ⟨rfl, rfl, rfl, Nat.le_add_right _ _, by show w.heap.size ≤ (w.heap ++ os).size; simp, fun b hb => by show (w.heap ++ os)[b]? = _; exact Array.getElem?_append_left hb⟩
theorem fmt_pc [GlobF Tryd.prog] (hp : PowOK) (n : Int) (h0 : -9223372036854775808 ≤ n) (h1 : n ≤ 9223372036854775807) : PC Tryd.prog 23 [.sc (.int .i64 n), .sc (.int .i64 10)] (str (Lib.itoa n)) := by
  obtain ⟨t, fz, hg⟩ := hp
  refine PC.of_grown (us := [.int .i64 n, .int .i64 10]) (enters_of Tryd.func23 (by kernel_rfl) rfl) fun w _ hgo => ?_
  have htab : Lib.TabIs Tryd.prog w "internal/strconv.uint64pow10" .u64 Lib.pow10Tab := by
    unfold Lib.TabIs World.var?
    rw [show Tryd.prog.globalNamed "internal/strconv.uint64pow10" = some 1 by kernel_rfl]
    simp only [Option.bind_some]
    rw [hgo _ _ hg]
  exact (Any.strconv_FormatInt_10 Tryd.lays173 n h0 h1 w htab).mono fun e w' ⟨h1, k, os, h2⟩ => ⟨h1, h2 ▸ grown_grow w k os⟩
theorem grown_bytes {w w' : World} {T : TypeId} {s : ByteArray} (h : w' = w ∨ ∃ t, w' = Lib.bytesWorld w T t) : AL.Grown w w' := by
  rcases h with rfl | ⟨t, rfl⟩
  · exact ⟨rfl, rfl, rfl, Nat.le_refl _, Nat.le_refl _, fun _ _ => rfl⟩
  · have hf : ∀ (w0 : World) (a : Addr) (n : Nat), (w0.freeze a n).tape = w0.tape ∧ (w0.freeze a n).os = w0.os ∧ (w0.freeze a n).output = w0.output ∧ (w0.freeze a n).drawn = w0.drawn ∧ (w0.freeze a n).heap.size = w0.heap.size ∧ ∀ b, b ≠ a.block → (w0.freeze a n).heap[b]? = w0.heap[b]? := fun w0 a n => by
      unfold World.freeze
      split
      · exact ⟨rfl, rfl, rfl, rfl, rfl, fun _ _ => rfl⟩
      · refine ⟨rfl, rfl, rfl, rfl, by show (w0.heap.modify _ _).size = _; simp, fun b hb => ?_⟩
        show (w0.heap.modify a.block _)[b]? = _
        simp [Array.getElem?_modify, Ne.symm hb]
    unfold Lib.bytesWorld
    obtain ⟨h1, h2, h3, h4, h5, h6⟩ := hf (w.drew.alloc (.cells (Lib.bytesCells w T t) T)) ⟨w.heap.size, (Lib.bytesCells w T t).size, none⟩ 1
    refine ⟨h1, h2, h3, by rw [h4]; exact Nat.le_succ _, by rw [h5]; show w.heap.size ≤ (w.heap.push _).size; simp, fun b hb => ?_⟩
    rw [h6 b (by show b ≠ w.heap.size; omega)]
    exact Lib.alloc_old w.drew _ b hb
theorem iparse_ac [GlobF Tryd.prog] (s : List UInt8) (hs : s.length < 281474976710656) (h : List AObj) : AC Tryd.prog 46 [str s, .sc (.int .i64 10), .sc (.int .i64 64)] h (fun v h' => h' = h ∧ ∃ a b, Value.tuple #[a, b] = Lib.intTuple 94 (Lib.intSat 64 s) (Lib.parseIntB 64 s) ∧ v = .tu [.sc a, .sc b]) := by
  refine AC.of_grown2 (us := [.string ⟨s.toArray⟩, .int .i64 10, .int .i64 64]) (enters_of Tryd.func46 (by kernel_rfl) rfl) fun w _ _ => ?_
  refine (Any.internal_strconv_ParseInt_10_all64 Tryd.lays247 ⟨s.toArray⟩ (by show s.toArray.size ≤ _; simp; omega) w).mono ?_
  rintro e w' ⟨rfl, hw⟩
  rcases hpi : Lib.parseIntB 64 s with n | _ | _
  · exact ⟨.int .i64 n, .nilIface, rfl, by simp [Lib.intTuple], grown_bytes (s := ⟨s.toArray⟩) hw⟩
  · exact ⟨.int .i64 0, .iface 94 (.int .i64 2), rfl, by simp [Lib.intTuple]; rfl, grown_bytes (s := ⟨s.toArray⟩) hw⟩
  · exact ⟨.int .i64 (Lib.intSat 64 s), .iface 94 (.int .i64 1), rfl, by simp [Lib.intTuple]; rfl, grown_bytes (s := ⟨s.toArray⟩) hw⟩
set_option maxHeartbeats 4000000 in
set_option maxRecDepth 100000 in
theorem clone_calls (s : ByteArray) (w : World) (hlim : s.size ≤ 281474976710656) :
    Calls Tryd.prog 85 #[.string s] w fun e w' => e = .returned (.string s) ∧ AL.Grown w w' := by
  by_cases h0 : s.size = 0
  · have hs : s = ⟨#[]⟩ := by
      apply ByteArray.ext
      exact Array.eq_empty_of_size_eq_zero h0
    subst hs
    go_enter Tryd.func85, Tryd.ntmps85
    go_wp2
    go_ret
    exact ⟨rfl, rfl, rfl, rfl, Nat.le_refl _, Nat.le_refl _, fun _ _ => rfl⟩
  · obtain ⟨i0, hi, hz1, hz2, hz0⟩ := (inferInstance : Inf Tryd.prog 5 1 1 (.int .u8 0)).h
    have hinfo : (Tryd.prog.info? 5).map (·.size) = some 1 := by rw [hi]; simp [hz1]
    have hco : Tryd.prog.cellsOf 5 = 1 := by simp [Program.cellsOf, hi, hz1]
    obtain ⟨M, hM⟩ : ∃ M, M = madeCells (Value.int .u8 0).cells (((s.size : Nat) : Int).toNat * i0.size) := ⟨_, rfl⟩
    have hMs : M.size = s.size := by rw [hM, size_madeCells, hz1]; simp
    have hmk : ∀ W : World, (Instr.makeSlice 53 (.int .i64 (s.size : Int)) (.int .i64 (s.size : Int))).run Tryd.prog W = .ok (.slice (some ⟨W.heap.size, 0, none⟩) s.size s.size) (W.alloc (.cells M 5)) := fun W => by
      have h := run_make (P := Tryd.prog) W 53 5 i0 (.int .u8 0) Tryd.underlying53 hi hz0 .i64 .i64 (s.size : Int) (s.size : Int) (by omega) (by omega) (by rw [hz2]; omega) (by omega)
      rw [← hM] at h
      simpa using h
    clear hM
    have hcp := Lib.run_copy_row_string (P := Tryd.prog) (w.alloc (.cells M 5)) 53 9 3 5 w.heap.size 0 s.size s.size s M 5 Tryd.underlying53 hinfo (heap_alloc_new w _) (Nat.le_refl _) (by omega)
    obtain ⟨Y, hY⟩ : ∃ Y, Y = (M.toList.take 0 ++ Lib.byteCells s.data.toList ++ M.toList.drop (0 + s.size)).toArray := ⟨_, rfl⟩
    rw [← hY] at hcp
    have hYl : Y.toList = Lib.byteCells s.data.toList := by
      rw [hY, List.toList_toArray, List.take_zero, List.nil_append, List.drop_of_length_le (by rw [Array.length_toList]; omega), List.append_nil]
    have hYs : Y.size = s.size := by rw [← Array.length_toList, hYl, Lib.byteCells_length, ← Lib.size_eq]
    have hgY : ((w.alloc (.cells M 5)).setRow w.heap.size Y).heap[w.heap.size]? = some (.cells Y 5 (0, 0)) := setRow_heap _ _ M _ 5 (0, 0) (heap_alloc_new w _)
    have hne : s.data.toList ≠ [] := fun e => h0 (by rw [Lib.size_eq, e]; rfl)
    have hUS := Lib.run_unsafeString_row (P := Tryd.prog) ((w.alloc (.cells M 5)).setRow w.heap.size Y) 68 3 9 5 Tryd.underlying68 hco w.heap.size Y.size (by unfold World.shape?; rw [hgY]) s.data.toList hne (by rw [← Lib.size_eq]; omega) (by rw [← Lib.size_eq]; omega)
      (fun j x hx => Lib.cells_of_row hgY Y.size j _ (by rw [List.take_of_length_le (by rw [Array.length_toList]; exact Nat.le_refl _), hYl]; simp [Lib.byteCells, hx]))
    rw [← Lib.size_eq] at hUS
    clear hY
    have hfr : ∀ (w0 : World) (n : Nat), (w0.freeze ⟨w.heap.size, 0, none⟩ n).tape = w0.tape ∧ (w0.freeze ⟨w.heap.size, 0, none⟩ n).os = w0.os ∧ (w0.freeze ⟨w.heap.size, 0, none⟩ n).output = w0.output ∧ (w0.freeze ⟨w.heap.size, 0, none⟩ n).drawn = w0.drawn ∧ (w0.freeze ⟨w.heap.size, 0, none⟩ n).heap.size = w0.heap.size ∧ ∀ b, b ≠ w.heap.size → (w0.freeze ⟨w.heap.size, 0, none⟩ n).heap[b]? = w0.heap[b]? := fun w0 n => by
      unfold World.freeze
      split
      · exact ⟨rfl, rfl, rfl, rfl, rfl, fun _ _ => rfl⟩
      · refine ⟨rfl, rfl, rfl, rfl, by show (w0.heap.modify _ _).size = _; simp, fun b hb => ?_⟩
        show (w0.heap.modify w.heap.size _)[b]? = _
        simp [Array.getElem?_modify, Ne.symm hb]
    go_enter Tryd.func85, Tryd.ntmps85
    go_wp2
    go_ret
    obtain ⟨f1, f2, f3, f4, f5, f6⟩ := hfr ((w.alloc (.cells M 5)).setRow w.heap.size Y) s.size
    refine ⟨rfl, f1, f2, f3, by rw [f4]; exact Nat.le_refl _, by rw [f5]; simp, fun b hb => ?_⟩
    rw [f6 b (by omega), setRow_other _ _ _ _ (by omega)]
    exact Lib.alloc_old w _ b hb
theorem clone_pc [GlobF Tryd.prog] (s : List UInt8) (hs : s.length < 281474976710656) : PC Tryd.prog 85 [str s] (str s) :=
  PC.of_grown (us := [.string ⟨s.toArray⟩]) (enters_of Tryd.func85 (by kernel_rfl) rfl) fun w _ _ => clone_calls ⟨s.toArray⟩ w (by show s.toArray.size ≤ _; simp; omega)
instance : Ncf Tryd.prog 94 := ⟨⟨_, Tryd.underlying94, fun _ => by nofun⟩⟩
instance : Ncf Tryd.prog 97 := ⟨⟨_, Tryd.underlying97, fun _ => by nofun⟩⟩
instance : Cmi Tryd.prog 94 .i64 := ⟨Tryd.underlying94, by kernel_rfl⟩
theorem synErr_pc [GlobF Tryd.prog] (he : ErrsOK) (fn s : List UInt8) (hs : s.length < 281474976710656) : ∃ u, PC Tryd.prog 68 [str fn, str s] u := by
  obtain ⟨t1, v1, t2, v2, h1, h2⟩ := he
  refine ⟨.ep [str fn, str s, .sc (.iface t1 v1)], ?_⟩
  refine PC.of_body Tryd.func68 Tryd.ntmps68 rfl rfl rfl ?_
  repeat' first
    | (apply p1 (hd := rfl); case hop => first | (apply D_move; rfl) | (apply D_assign; rfl) | (apply D_pc (clone_pc s hs); rfl; exact .same rfl .nil) | exact D_loadG rfl h1 | (apply D_load1; rfl) | (apply D_loadW; rfl; rfl) | (apply D_loadA; rfl; rfl) | (apply D_box; rfl; rfl) | exact D_build rfl | exact D_buildA rfl)
    | refine W_seq ?_
    | refine W_region ?_
    | refine WL_nil ?_
    | refine tn ?_
    | refine tr ?_
    | refine br ?_
    | refine bn ?_
    | refine te ?_
    | (refine idB ?_; first | refine bh rfl ?_ | refine bm rfl ?_)
    | refine W_skip ?_
    | refine W_block ?_
    | refine W_exit ?_
    | refine W_ret ?_
    | refine W_label ?_
    | refine W_scope ?_
    | refine sn ?_
    | refine sr ?_
    | refine se ?_
    | (refine idR ?_; first | refine ret1 rfl rfl rfl ?_ | refine rL1 rfl (by first | exact trivial | exact ⟨rfl, trivial⟩) (by first | exact ResO.tmp rfl | exact ResO.cellBA rfl rfl rfl | exact ResO.cellB1 rfl rfl rfl | exact ResO.cellEA rfl rfl | exact ResO.cellE1 rfl) ?_)
    | (refine idLd ?_; first | refine p1L (D_loadB1 rfl rfl rfl) rfl ?_ | refine p1L (D_loadBA rfl rfl rfl) rfl ?_ | refine p1L (D_loadB1 rfl (by (repeat first | assumption | exact get_last | (refine get_last2 ?_; focus (simp; done)) | apply get_set | apply get_app | (apply get_ne; focus omega) | (apply get_ne; focus (simp only [List.length_set, List.length_append, List.length_cons, List.length_nil]; omega))); done) (by rfl)) rfl ?_ | refine p1L (D_loadBA rfl (by (repeat first | assumption | exact get_last | (refine get_last2 ?_; focus (simp; done)) | apply get_set | apply get_app | (apply get_ne; focus omega) | (apply get_ne; focus (simp only [List.length_set, List.length_append, List.length_cons, List.length_nil]; omega))); done) (by rfl)) rfl ?_)
    | refine Le.bool ?_
    | refine Le.int ?_
    | refine Le.str ?_
    | (refine idW ?_; first | refine W_draw0 rfl ?_ | refine W_draw1 rfl ?_ | refine W_draw2 rfl ?_ | refine W_draw3 rfl ?_)
    | (apply d1 (hd := rfl); case hop => first | (apply D_move; rfl) | (apply D_assign; rfl) | (apply D_pc (clone_pc s hs); rfl; exact .same rfl .nil) | exact D_loadG rfl h1 | (apply D_load1; rfl) | (apply D_loadW; rfl; rfl) | (apply D_loadA; rfl; rfl) | (apply D_box; rfl; rfl) | exact D_build rfl | exact D_buildA rfl)
    | (refine idDn ?_; first | refine dL _ (fun hp' hs => D_loadB1 rfl (hs.trans rfl) rfl) rfl ?_ | refine dL _ (fun hp' hs => D_loadBA rfl (hs.trans rfl) rfl) rfl ?_ | refine dS (S_store rfl rfl rfl rfl rfl rfl rfl) rfl ?_ | refine dV (S_alloc 0 rfl) rfl rfl ?_ | refine dV (S_alloc 1 rfl) rfl rfl ?_ | refine dV (S_alloc 2 rfl) rfl rfl ?_ | refine dV (S_alloc 3 rfl) rfl rfl ?_ | refine dV (S_alloc 4 rfl) rfl rfl ?_ | refine dV (S_alloc 5 rfl) rfl rfl ?_ | refine dV (S_alloc 6 rfl) rfl rfl ?_ | refine dV (S_alloc 7 rfl) rfl rfl ?_)
    | refine WD_nil (by first | decide +kernel | kernel_rfl | rfl) ?_
  all_goals exact Le.of_eq (y := .ep [str fn, str s, .sc (.iface t1 v1)]) rfl
theorem rngErr_pc [GlobF Tryd.prog] (he : ErrsOK) (fn s : List UInt8) (hs : s.length < 281474976710656) : ∃ u, PC Tryd.prog 69 [str fn, str s] u := by
  obtain ⟨t1, v1, t2, v2, h1, h2⟩ := he
  refine ⟨.ep [str fn, str s, .sc (.iface t2 v2)], ?_⟩
  refine PC.of_body Tryd.func69 Tryd.ntmps69 rfl rfl rfl ?_
  repeat' first
    | (apply p1 (hd := rfl); case hop => first | (apply D_move; rfl) | (apply D_assign; rfl) | (apply D_pc (clone_pc s hs); rfl; exact .same rfl .nil) | exact D_loadG rfl h2 | (apply D_load1; rfl) | (apply D_loadW; rfl; rfl) | (apply D_loadA; rfl; rfl) | (apply D_box; rfl; rfl) | exact D_build rfl | exact D_buildA rfl)
    | refine W_seq ?_
    | refine W_region ?_
    | refine WL_nil ?_
    | refine tn ?_
    | refine tr ?_
    | refine br ?_
    | refine bn ?_
    | refine te ?_
    | (refine idB ?_; first | refine bh rfl ?_ | refine bm rfl ?_)
    | refine W_skip ?_
    | refine W_block ?_
    | refine W_exit ?_
    | refine W_ret ?_
    | refine W_label ?_
    | refine W_scope ?_
    | refine sn ?_
    | refine sr ?_
    | refine se ?_
    | (refine idR ?_; first | refine ret1 rfl rfl rfl ?_ | refine rL1 rfl (by first | exact trivial | exact ⟨rfl, trivial⟩) (by first | exact ResO.tmp rfl | exact ResO.cellBA rfl rfl rfl | exact ResO.cellB1 rfl rfl rfl | exact ResO.cellEA rfl rfl | exact ResO.cellE1 rfl) ?_)
    | (refine idLd ?_; first | refine p1L (D_loadB1 rfl rfl rfl) rfl ?_ | refine p1L (D_loadBA rfl rfl rfl) rfl ?_ | refine p1L (D_loadB1 rfl (by (repeat first | assumption | exact get_last | (refine get_last2 ?_; focus (simp; done)) | apply get_set | apply get_app | (apply get_ne; focus omega) | (apply get_ne; focus (simp only [List.length_set, List.length_append, List.length_cons, List.length_nil]; omega))); done) (by rfl)) rfl ?_ | refine p1L (D_loadBA rfl (by (repeat first | assumption | exact get_last | (refine get_last2 ?_; focus (simp; done)) | apply get_set | apply get_app | (apply get_ne; focus omega) | (apply get_ne; focus (simp only [List.length_set, List.length_append, List.length_cons, List.length_nil]; omega))); done) (by rfl)) rfl ?_)
    | refine Le.bool ?_
    | refine Le.int ?_
    | refine Le.str ?_
    | (refine idW ?_; first | refine W_draw0 rfl ?_ | refine W_draw1 rfl ?_ | refine W_draw2 rfl ?_ | refine W_draw3 rfl ?_)
    | (apply d1 (hd := rfl); case hop => first | (apply D_move; rfl) | (apply D_assign; rfl) | (apply D_pc (clone_pc s hs); rfl; exact .same rfl .nil) | exact D_loadG rfl h2 | (apply D_load1; rfl) | (apply D_loadW; rfl; rfl) | (apply D_loadA; rfl; rfl) | (apply D_box; rfl; rfl) | exact D_build rfl | exact D_buildA rfl)
    | (refine idDn ?_; first | refine dL _ (fun hp' hs => D_loadB1 rfl (hs.trans rfl) rfl) rfl ?_ | refine dL _ (fun hp' hs => D_loadBA rfl (hs.trans rfl) rfl) rfl ?_ | refine dS (S_store rfl rfl rfl rfl rfl rfl rfl) rfl ?_ | refine dV (S_alloc 0 rfl) rfl rfl ?_ | refine dV (S_alloc 1 rfl) rfl rfl ?_ | refine dV (S_alloc 2 rfl) rfl rfl ?_ | refine dV (S_alloc 3 rfl) rfl rfl ?_ | refine dV (S_alloc 4 rfl) rfl rfl ?_ | refine dV (S_alloc 5 rfl) rfl rfl ?_ | refine dV (S_alloc 6 rfl) rfl rfl ?_ | refine dV (S_alloc 7 rfl) rfl rfl ?_)
    | refine WD_nil (by first | decide +kernel | kernel_rfl | rfl) ?_
  all_goals exact Le.of_eq (y := .ep [str fn, str s, .sc (.iface t2 v2)]) rfl
set_option maxHeartbeats 4000000 in
theorem toErr_ac [GlobF Tryd.prog] (he : ErrsOK) (fn s : List UInt8) (hs : s.length < 281474976710656) (n : Int) (hn : n = 1 ∨ n = 2) (h : List AObj) :
    AC Tryd.prog 47 [str fn, str s, .sc (.int .i64 10), .sc (.int .i64 64), .sc (.iface 94 (.int .i64 n))] h (fun v h' => h' = h ∧ ∃ u, (∃ te x, u = Value.iface te x) ∧ v = .sc u) := by
  obtain ⟨u1, hp1⟩ := synErr_pc he fn s hs
  obtain ⟨u2, hp2⟩ := rngErr_pc he fn s hs
  rcases hn with rfl | rfl
  · refine AC.of_body Tryd.func47 Tryd.ntmps47 rfl rfl rfl ?_
    repeat' first
      | (apply p1 (hd := rfl); case hop => first | (apply D_move; rfl) | (apply D_assign; rfl) | (apply D_pc hp2; rfl; exact .same rfl (.same rfl .nil)) | exact D_mkI rfl | exact D_ifE rfl rfl)
      | refine W_seq ?_
      | refine W_region ?_
      | (refine idC ?_; first | refine c1 rfl ?_ | refine c0 rfl ?_ | refine cs rfl (fun _ => ?_) (fun _ => ?_))
      | refine WL_nil ?_
      | refine tn ?_
      | refine tr ?_
      | refine br ?_
      | refine bn ?_
      | refine te ?_
      | (refine idB ?_; first | refine bh rfl ?_ | refine bm rfl ?_)
      | refine W_skip ?_
      | refine W_block ?_
      | refine W_exit ?_
      | refine W_ret ?_
      | refine W_label ?_
      | refine W_scope ?_
      | refine sn ?_
      | refine sr ?_
      | refine se ?_
      | refine Le.bool ?_
      | refine Le.int ?_
      | refine Le.str ?_
      | (refine m_mkIP rfl ?_; rintro v hv)
    exact retK1 (.inl rfl) rfl rfl (ResO.tmp rfl) ⟨rfl, _, hv, rfl⟩
  · refine AC.of_body Tryd.func47 Tryd.ntmps47 rfl rfl rfl ?_
    repeat' first
      | (apply p1 (hd := rfl); case hop => first | (apply D_move; rfl) | (apply D_assign; rfl) | (apply D_pc hp1; rfl; exact .same rfl (.same rfl .nil)) | exact D_mkI rfl | exact D_ifE rfl rfl)
      | refine W_seq ?_
      | refine W_region ?_
      | (refine idC ?_; first | refine c1 rfl ?_ | refine c0 rfl ?_ | refine cs rfl (fun _ => ?_) (fun _ => ?_))
      | refine WL_nil ?_
      | refine tn ?_
      | refine tr ?_
      | refine br ?_
      | refine bn ?_
      | refine te ?_
      | (refine idB ?_; first | refine bh rfl ?_ | refine bm rfl ?_)
      | refine W_skip ?_
      | refine W_block ?_
      | refine W_exit ?_
      | refine W_ret ?_
      | refine W_label ?_
      | refine W_scope ?_
      | refine sn ?_
      | refine sr ?_
      | refine se ?_
      | refine Le.bool ?_
      | refine Le.int ?_
      | refine Le.str ?_
      | (refine m_mkIP rfl ?_; rintro v hv)
    exact retK1 (.inl rfl) rfl rfl (ResO.tmp rfl) ⟨rfl, _, hv, rfl⟩
def pN (s : List UInt8) : Int := match Lib.parseIntB 64 s with
  | .ok n => n
  | .range => Lib.intSat 64 s
  | _ => 0
def pOK (s : List UInt8) : Bool := match Lib.parseIntB 64 s with
  | .ok _ => true
  | _ => false
theorem parse_rng {s : List UInt8} {n : Int} (h : Lib.parseIntB 64 s = .ok n) : -9223372036854775808 ≤ n ∧ n ≤ 9223372036854775807 := by
  cases s with
  | nil => simp [Lib.parseIntB] at h
  | cons c r =>
    simp only [Lib.parseIntB] at h
    split at h
    · cases h
    · cases h
    · split at h
      · cases h
      · rename_i h1
        split at h
        · cases h
        · rename_i h2
          cases h
          split
          · rename_i h3; simp [h3] at h2; omega
          · rename_i h3; simp [h3] at h1; omega
theorem sat_rng (s : List UInt8) : -9223372036854775808 ≤ Lib.intSat 64 s ∧ Lib.intSat 64 s ≤ 9223372036854775807 := by
  unfold Lib.intSat; split <;> decide
theorem pN_rng (s : List UInt8) : -9223372036854775808 ≤ pN s ∧ pN s ≤ 9223372036854775807 := by
  unfold pN
  split
  · rename_i n h; exact parse_rng h
  · exact sat_rng s
  · decide
set_option maxHeartbeats 4000000 in
theorem parseInt_ac [GlobF Tryd.prog] (he : ErrsOK) (s : List UInt8) (hs : s.length < 281474976710656) (h : List AObj) :
    AC Tryd.prog 32 [str s, .sc (.int .i64 10), .sc (.int .i64 64)] h (fun v h' => h' = h ∧ ∃ u, v = .tu [.sc (.int .i64 (pN s)), .sc u] ∧ ((u = .nilIface ∧ pOK s = true) ∨ ((∃ te x, u = Value.iface te x) ∧ pOK s = false))) := by
  have hi := iparse_ac s hs h
  rcases hpi : Lib.parseIntB 64 s with n | _ | _
  · have e1 : pN s = n := by unfold pN; rw [hpi]
    have e2 : pOK s = true := by unfold pOK; rw [hpi]
    have hi2 : AC Tryd.prog 46 [str s, .sc (.int .i64 10), .sc (.int .i64 64)] h (fun v h' => v = .tu [.sc (.int .i64 n), .sc .nilIface] ∧ h' = h) := hi.mono fun v h' ⟨a1, a, b, a2, a3⟩ => by
      rw [hpi] at a2; simp only [Lib.intTuple, Value.tuple.injEq, Array.mk.injEq, List.cons.injEq, and_true] at a2
      obtain ⟨rfl, rfl⟩ := a2; exact ⟨a3, a1⟩
    refine AC.of_body Tryd.func32 Tryd.ntmps32 rfl rfl rfl ?_
    repeat' first
      | (apply p1 (hd := rfl); case hop => first | (apply D_move; rfl) | (apply D_assign; rfl) | exact D_inI rfl (.inl ⟨rfl, rfl⟩) | (apply D_ext; rfl; rfl))
      | refine W_seq ?_
      | refine W_region ?_
      | (refine idC ?_; first | refine c1 rfl ?_ | refine c0 rfl ?_ | refine cs rfl (fun _ => ?_) (fun _ => ?_))
      | refine WL_nil ?_
      | refine tn ?_
      | refine tr ?_
      | refine br ?_
      | refine bn ?_
      | refine te ?_
      | (refine idB ?_; first | refine bh rfl ?_ | refine bm rfl ?_)
      | refine W_skip ?_
      | refine W_block ?_
      | refine W_exit ?_
      | refine W_ret ?_
      | refine W_label ?_
      | refine W_scope ?_
      | refine sn ?_
      | refine sr ?_
      | refine se ?_
      | refine Le.bool ?_
      | refine Le.int ?_
      | refine Le.str ?_
      | (refine m_call hi2 rfl rfl rfl ?_; rintro _ _ ⟨rfl, rfl⟩)
    exact retK (rs := [_, _]) (.inl rfl) rfl trivial (.cons (ResO.tmp rfl) (.cons (ResO.tmp rfl) .nil)) ⟨rfl, _, by rw [e1]; rfl, .inl ⟨rfl, e2⟩⟩
  · have e1 : pN s = 0 := by unfold pN; rw [hpi]
    have e2 : pOK s = false := by unfold pOK; rw [hpi]
    have hi2 : AC Tryd.prog 46 [str s, .sc (.int .i64 10), .sc (.int .i64 64)] h (fun v h' => v = .tu [.sc (.int .i64 0), .sc (.iface 94 (.int .i64 2))] ∧ h' = h) := hi.mono fun v h' ⟨a1, a, b, a2, a3⟩ => by
      rw [hpi] at a2; simp only [Lib.intTuple, Value.tuple.injEq, Array.mk.injEq, List.cons.injEq, and_true] at a2
      obtain ⟨rfl, rfl⟩ := a2; exact ⟨a3, a1⟩
    have ht := toErr_ac he [80, 97, 114, 115, 101, 73, 110, 116] s hs 2 (.inr rfl) h
    refine AC.of_body Tryd.func32 Tryd.ntmps32 rfl rfl rfl ?_
    repeat' first
      | (apply p1 (hd := rfl); case hop => first | (apply D_move; rfl) | (apply D_assign; rfl) | exact D_inI rfl (.inr ⟨⟨_, _, rfl⟩, rfl⟩) | (apply D_ext; rfl; rfl))
      | refine W_seq ?_
      | refine W_region ?_
      | (refine idC ?_; first | refine c1 rfl ?_ | refine c0 rfl ?_ | refine cs rfl (fun _ => ?_) (fun _ => ?_))
      | refine WL_nil ?_
      | refine tn ?_
      | refine tr ?_
      | refine br ?_
      | refine bn ?_
      | refine te ?_
      | (refine idB ?_; first | refine bh rfl ?_ | refine bm rfl ?_)
      | refine W_skip ?_
      | refine W_block ?_
      | refine W_exit ?_
      | refine W_ret ?_
      | refine W_label ?_
      | refine W_scope ?_
      | refine sn ?_
      | refine sr ?_
      | refine se ?_
      | refine Le.bool ?_
      | refine Le.int ?_
      | refine Le.str ?_
      | (refine m_call hi2 rfl rfl rfl ?_; rintro _ _ ⟨rfl, rfl⟩)
      | (refine m_call ht rfl rfl rfl ?_; rintro _ _ ⟨rfl, u, hu, rfl⟩)
    exact retK (rs := [_, _]) (.inl rfl) rfl trivial (.cons (ResO.tmp rfl) (.cons (ResO.tmp rfl) .nil)) ⟨rfl, _, by rw [e1]; rfl, .inr ⟨hu, e2⟩⟩
  · have e1 : pN s = Lib.intSat 64 s := by unfold pN; rw [hpi]
    have e2 : pOK s = false := by unfold pOK; rw [hpi]
    have hi2 : AC Tryd.prog 46 [str s, .sc (.int .i64 10), .sc (.int .i64 64)] h (fun v h' => v = .tu [.sc (.int .i64 (Lib.intSat 64 s)), .sc (.iface 94 (.int .i64 1))] ∧ h' = h) := hi.mono fun v h' ⟨a1, a, b, a2, a3⟩ => by
      rw [hpi] at a2; simp only [Lib.intTuple, Value.tuple.injEq, Array.mk.injEq, List.cons.injEq, and_true] at a2
      obtain ⟨rfl, rfl⟩ := a2; exact ⟨a3, a1⟩
    have ht := toErr_ac he [80, 97, 114, 115, 101, 73, 110, 116] s hs 1 (.inl rfl) h
    refine AC.of_body Tryd.func32 Tryd.ntmps32 rfl rfl rfl ?_
    repeat' first
      | (apply p1 (hd := rfl); case hop => first | (apply D_move; rfl) | (apply D_assign; rfl) | exact D_inI rfl (.inr ⟨⟨_, _, rfl⟩, rfl⟩) | (apply D_ext; rfl; rfl))
      | refine W_seq ?_
      | refine W_region ?_
      | (refine idC ?_; first | refine c1 rfl ?_ | refine c0 rfl ?_ | refine cs rfl (fun _ => ?_) (fun _ => ?_))
      | refine WL_nil ?_
      | refine tn ?_
      | refine tr ?_
      | refine br ?_
      | refine bn ?_
      | refine te ?_
      | (refine idB ?_; first | refine bh rfl ?_ | refine bm rfl ?_)
      | refine W_skip ?_
      | refine W_block ?_
      | refine W_exit ?_
      | refine W_ret ?_
      | refine W_label ?_
      | refine W_scope ?_
      | refine sn ?_
      | refine sr ?_
      | refine se ?_
      | refine Le.bool ?_
      | refine Le.int ?_
      | refine Le.str ?_
      | (refine m_call hi2 rfl rfl rfl ?_; rintro _ _ ⟨rfl, rfl⟩)
      | (refine m_call ht rfl rfl rfl ?_; rintro _ _ ⟨rfl, u, hu, rfl⟩)
    exact retK (rs := [_, _]) (.inl rfl) rfl trivial (.cons (ResO.tmp rfl) (.cons (ResO.tmp rfl) .nil)) ⟨rfl, _, by rw [e1]; rfl, .inr ⟨hu, e2⟩⟩
theorem pN_of {s : List UInt8} {n : Int} (h : NumP s n) : pN s = n := by
  obtain ⟨h0, h1, rfl⟩ := h
  unfold pN; rw [parse_itoa h0 h1]
instance : Xt Tryd.prog 81 Extern.BytealgIndexByte.indexByte := ⟨run_callFunc_extern Tryd.func81 (by kernel_rfl) (by kernel_rfl) (by kernel_rfl) (by kernel_rfl)⟩
end Go.Proofs
