/- Contracts of strings.Builder's methods. -/
import Derived.Test.YtaphfieahcimcaaGreatDoorZQTV1
import Derived.Test.YtaphfieahcimcaaGreatDoorOps17
import Derived.Lib.UnsafeStr
import Derived.Lib.Walk
import Derived.WalkKit
import Derived.OwnWalk
import Derived.Shelf.RegionOpenPlain
import Derived.Test.YtaphfieahcimcaaGreatDoorOps5
namespace Go.Proofs
open Go.AL
attribute [local irreducible] Go.AL.W Go.AL.WL Go.AL.WD Go.AL.POp Go.AL.PPOp Go.AL.POpS Go.AL.PC Go.AL.AC Go.AL.YW Go.AL.Ret Go.AL.Le Go.AL.thn Go.AL.inBlk Go.AL.scp

instance : Xt Tryz.prog 74 Extern.AbiNoEscape.same := ⟨run_callFunc_extern Tryz.func74 (by kernel_rfl) (by kernel_rfl) (by kernel_rfl) (by kernel_rfl)⟩
instance : Lies Tryz.prog 57 2 0 57 := ⟨by kernel_rfl⟩

/-- A builder's box: whether it was written to; what it holds; what stands behind it in the same box. -/
def ownP (r : Nat) (p : AV) : Prop := p = .sc (.pointer none) ∨ p = .bp r 0

set_option maxHeartbeats 4000000 in
theorem ccheck_ac [GlobF Tryz.prog] {h : List AObj} {r n T : Nat} {p : AV} {xs : List AV} [hl : Lies Tryz.prog T n 0 57] (hr : h[r]? = some (.cells (p :: xs) (some T))) (hn : xs.length + 1 = n) (hp : ownP r p) :
    AC Tryz.prog 59 [.bp r 0] h (fun v h' => v = .tu [] ∧ h' = h.set r (.cells (.bp r 0 :: xs) (some T))) := by
  rcases hp with rfl | rfl
  · refine AC.of_body Tryz.func59 Tryz.ntmps59 rfl rfl rfl ?_
    repeat' first
      | (refine p1L (D_loadB1 rfl hr rfl) rfl ?_)
      | (refine p1L (D_toU rfl hr rfl rfl) rfl ?_)
      | (refine p1L (D_fromU rfl hr hn) rfl ?_)
      | (refine pS (S_store rfl rfl rfl hr rfl rfl rfl) ?_)
      | (apply p1 (hd := rfl); case hop => first | (apply D_move; rfl) | exact D_peN rfl rfl | exact D_noesc rfl rfl | (apply D_load1; rfl) | (apply D_fld; rfl) | (apply D_loadW; rfl; rfl) | (apply D_loadA; rfl; rfl) | (apply D_conv_int; rfl) | (apply D_conv_str; rfl) | (apply D_s2b; rfl) | (apply D_b2s; rfl) | exact D_xcmp rfl rfl rfl | exact D_xidx rfl rfl rfl | exact D_fldB rfl | (apply D_nilB; rfl) | (apply D_nilE; rfl))
      | refine W_seq ?_
      | refine W_region ?_
      | (refine idC ?_; first | refine c1 rfl ?_ | refine c0 rfl ?_ | refine cs rfl (fun _ => ?_) (fun _ => ?_))
      | refine WL_nil ?_
      | refine tn ?_
      | refine tr ?_
      | refine br ?_
      | refine bn ?_
      | refine te ?_
      | (refine idB ?_; first | refine bh rfl ?_ | refine bm rfl ?_)
      | refine W_skip ?_
      | refine W_block ?_
      | refine W_exit ?_
      | refine W_ret ?_
      | refine W_label ?_
      | refine W_scope ?_
      | refine sn ?_
      | refine sr ?_
      | refine se ?_
      | (refine idLd ?_; first | refine p1L (D_loadB1 rfl rfl rfl) rfl ?_ | refine p1L (D_loadBA rfl rfl rfl) rfl ?_ | refine p1L (D_loadB1 rfl (by (repeat first | assumption | exact get_last | (refine get_last2 ?_; focus (simp; done)) | apply get_set | apply get_app | (apply get_ne; focus omega) | (apply get_ne; focus (simp only [List.length_set, List.length_append, List.length_cons, List.length_nil]; omega))); done) (by rfl)) rfl ?_ | refine p1L (D_loadBA rfl (by (repeat first | assumption | exact get_last | (refine get_last2 ?_; focus (simp; done)) | apply get_set | apply get_app | (apply get_ne; focus omega) | (apply get_ne; focus (simp only [List.length_set, List.length_append, List.length_cons, List.length_nil]; omega))); done) (by rfl)) rfl ?_)
      | (refine idS ?_; first | refine pS (S_store rfl rfl rfl rfl rfl rfl rfl) ?_ | refine pS (S_store rfl rfl rfl (by (repeat first | assumption | exact get_last | (refine get_last2 ?_; focus (simp; done)) | apply get_set | apply get_app | (apply get_ne; focus omega) | (apply get_ne; focus (simp only [List.length_set, List.length_append, List.length_cons, List.length_nil]; omega))); done) (by rfl) (by rfl) (by rfl)) ?_)
      | refine Le.bool ?_
      | refine Le.int ?_
      | refine Le.str ?_
    exact ret0 (.inr rfl) rfl rfl ⟨rfl, rfl⟩
  · refine AC.of_body Tryz.func59 Tryz.ntmps59 rfl rfl rfl ?_
    repeat' first
      | (refine p1L (D_loadB1 rfl hr rfl) rfl ?_)
      | (apply p1 (hd := rfl); case hop => first | (apply D_move; rfl) | exact D_peB rfl rfl | exact D_pnB rfl rfl | (apply D_load1; rfl) | (apply D_fld; rfl) | (apply D_loadW; rfl; rfl) | (apply D_loadA; rfl; rfl) | (apply D_conv_int; rfl) | (apply D_conv_str; rfl) | (apply D_s2b; rfl) | (apply D_b2s; rfl) | exact D_xcmp rfl rfl rfl | exact D_xidx rfl rfl rfl | exact D_fldB rfl | (apply D_nilB; rfl) | (apply D_nilE; rfl))
      | refine W_seq ?_
      | refine W_region ?_
      | (refine idC ?_; first | refine c1 rfl ?_ | refine c0 rfl ?_ | refine cs rfl (fun _ => ?_) (fun _ => ?_))
      | refine WL_nil ?_
      | refine tn ?_
      | refine tr ?_
      | refine br ?_
      | refine bn ?_
      | refine te ?_
      | (refine idB ?_; first | refine bh rfl ?_ | refine bm rfl ?_)
      | refine W_skip ?_
      | refine W_block ?_
      | refine W_exit ?_
      | refine W_ret ?_
      | refine W_label ?_
      | refine W_scope ?_
      | refine sn ?_
      | refine sr ?_
      | refine se ?_
      | (refine idLd ?_; first | refine p1L (D_loadB1 rfl rfl rfl) rfl ?_ | refine p1L (D_loadBA rfl rfl rfl) rfl ?_ | refine p1L (D_loadB1 rfl (by (repeat first | assumption | exact get_last | (refine get_last2 ?_; focus (simp; done)) | apply get_set | apply get_app | (apply get_ne; focus omega) | (apply get_ne; focus (simp only [List.length_set, List.length_append, List.length_cons, List.length_nil]; omega))); done) (by rfl)) rfl ?_ | refine p1L (D_loadBA rfl (by (repeat first | assumption | exact get_last | (refine get_last2 ?_; focus (simp; done)) | apply get_set | apply get_app | (apply get_ne; focus omega) | (apply get_ne; focus (simp only [List.length_set, List.length_append, List.length_cons, List.length_nil]; omega))); done) (by rfl)) rfl ?_)
      | (refine idS ?_; first | refine pS (S_store rfl rfl rfl rfl rfl rfl rfl) ?_ | refine pS (S_store rfl rfl rfl (by (repeat first | assumption | exact get_last | (refine get_last2 ?_; focus (simp; done)) | apply get_set | apply get_app | (apply get_ne; focus omega) | (apply get_ne; focus (simp only [List.length_set, List.length_append, List.length_cons, List.length_nil]; omega))); done) (by rfl) (by rfl) (by rfl)) ?_)
      | refine Le.bool ?_
      | refine Le.int ?_
      | refine Le.str ?_
    exact ret0 (.inr rfl) rfl rfl ⟨rfl, (set_self hr).symm⟩

/-- A builder that holds l: its box, its buffer. -/
abbrev bCells (p : AV) (tk : Nat) (l : List UInt8) (ys : List AV) : List AV := p :: .sl (some tk) 1 (l.map byteC) :: ys
structure Bld (h : List AObj) (r tk T : Nat) (p : AV) (l : List UInt8) (ys : List AV) : Prop where
  box : h[r]? = some (.cells (bCells p tk l ys) (some T))
  tail : h[tk]? = some (.tail l.length 1 5)
  own : ownP r p
  lt : l.length < 1099511627776
theorem Bld.ne {h : List AObj} {r tk T : Nat} {p : AV} {l : List UInt8} {ys : List AV} (hb : Bld h r tk T p l ys) : r ≠ tk := fun e => by
  subst e
  have := hb.box.symm.trans hb.tail
  cases this
/-- .. behind a write. -/
def bldH (h : List AObj) (r tk T : Nat) (l : List UInt8) (ys : List AV) : List AObj := (h.set tk (.tail l.length 1 5)).set r (.cells (bCells (.bp r 0) tk l ys) (some T))
theorem Bld.next {h : List AObj} {r tk T : Nat} {p : AV} {l : List UInt8} {ys : List AV} (hb : Bld h r tk T p l ys) (m : List UInt8) (zs : List AV) (hm : m.length < 1099511627776) : Bld (bldH h r tk T m zs) r tk T (.bp r 0) m zs :=
  ⟨List.getElem?_set_self (by rw [List.length_set]; exact get_lt hb.box), by unfold bldH; rw [List.getElem?_set_ne hb.ne]; exact List.getElem?_set_self (get_lt hb.tail), .inr rfl, hm⟩
theorem bldH_bldH {h : List AObj} {r tk T : Nat} (l m : List UInt8) (ys zs : List AV) (hne : r ≠ tk) : bldH (bldH h r tk T l ys) r tk T m zs = bldH h r tk T m zs := by
  unfold bldH
  apply List.ext_getElem?
  intro i
  by_cases h1 : r = i
  · subst h1; simp [List.getElem?_set]
  · by_cases h2 : tk = i
    · subst h2; simp [List.getElem?_set, h1]
    · simp [List.getElem?_set, h1, h2]

set_option maxHeartbeats 4000000 in
theorem wbyte_ac [GlobF Tryz.prog] {h : List AObj} {r tk n T : Nat} {p : AV} {l : List UInt8} {ys : List AV} [hl : Lies Tryz.prog T n 0 57] (hn : ys.length + 2 = n) (hb : Bld h r tk T p l ys) (c : UInt8) :
    AC Tryz.prog 35 [.bp r 0, .sc (.int .u8 c.toNat)] h (fun v h' => v = .sc .nilIface ∧ h' = bldH h r tk T (l ++ [c]) ys) := by
  have hlt := hb.lt
  have hc := ccheck_ac (n := n) hb.box (by simpa using hn) hb.own
  have h1 : (h.set r (.cells (bCells (.bp r 0) tk l ys) (some T)))[r]? = some (.cells (bCells (.bp r 0) tk l ys) (some T)) := List.getElem?_set_self (get_lt hb.box)
  have h2 : (h.set r (.cells (bCells (.bp r 0) tk l ys) (some T)))[tk]? = some (.tail l.length 1 5) := get_ne hb.ne hb.tail
  have h3 : ((h.set r (.cells (bCells (.bp r 0) tk l ys) (some T))).set tk (.tail (l.length + 1) 1 5))[r]? = some (.cells (bCells (.bp r 0) tk l ys) (some T)) := get_ne hb.ne.symm h1
  refine AC.of_body Tryz.func35 Tryz.ntmps35 rfl rfl rfl ?_
  repeat' first
    | (refine m_call hc rfl rfl rfl ?_; rintro _ _ ⟨rfl, rfl⟩)
    | (refine p1L (D_loadB1 rfl h1 rfl) rfl ?_)
    | (refine idAp ?_; refine m_app rfl rfl h2 (by rw [List.length_map]) rfl rfl (by simp only [List.length_map, List.length_cons, List.length_nil]; omega) (by simp only [List.length_map, List.length_cons, List.length_nil]; omega) rfl ?_)
    | (refine pS (S_store rfl rfl rfl (by rw [List.length_map]; exact h3) rfl rfl rfl) ?_)
    | (apply p1 (hd := rfl); case hop => first | (apply D_move; rfl) | (apply D_assign; rfl) | (apply D_load1; rfl) | (apply D_fld; rfl) | (apply D_loadW; rfl; rfl) | (apply D_loadA; rfl; rfl) | (apply D_lit; rfl; rfl; rfl; rfl) | exact D_fldB rfl | (apply D_nilB; rfl) | (apply D_nilE; rfl))
    | refine W_seq ?_
    | refine W_region ?_
    | refine WL_nil ?_
    | refine tn ?_
    | refine tr ?_
    | refine br ?_
    | refine bn ?_
    | refine te ?_
    | (refine idB ?_; first | refine bh rfl ?_ | refine bm rfl ?_)
    | refine W_skip ?_
    | refine W_block ?_
    | refine W_exit ?_
    | refine W_ret ?_
    | refine W_label ?_
    | refine W_scope ?_
    | refine sn ?_
    | refine sr ?_
    | refine se ?_
    | (refine idLd ?_; first | refine p1L (D_loadB1 rfl rfl rfl) rfl ?_ | refine p1L (D_loadBA rfl rfl rfl) rfl ?_ | refine p1L (D_loadB1 rfl (by (repeat first | assumption | exact get_last | (refine get_last2 ?_; focus (simp; done)) | apply get_set | apply get_app | (apply get_ne; focus omega) | (apply get_ne; focus (simp only [List.length_set, List.length_append, List.length_cons, List.length_nil]; omega))); done) (by rfl)) rfl ?_ | refine p1L (D_loadBA rfl (by (repeat first | assumption | exact get_last | (refine get_last2 ?_; focus (simp; done)) | apply get_set | apply get_app | (apply get_ne; focus omega) | (apply get_ne; focus (simp only [List.length_set, List.length_append, List.length_cons, List.length_nil]; omega))); done) (by rfl)) rfl ?_)
    | (refine idS ?_; first | refine pS (S_store rfl rfl rfl rfl rfl rfl rfl) ?_ | refine pS (S_store rfl rfl rfl (by (repeat first | assumption | exact get_last | (refine get_last2 ?_; focus (simp; done)) | apply get_set | apply get_app | (apply get_ne; focus omega) | (apply get_ne; focus (simp only [List.length_set, List.length_append, List.length_cons, List.length_nil]; omega))); done) (by rfl) (by rfl) (by rfl)) ?_)
    | refine Le.bool ?_
    | refine Le.int ?_
    | refine Le.str ?_
    | (refine idAp ?_; refine m_app rfl rfl (by first | rfl | assumption | exact get_set (by assumption) | exact get_set (get_set (by assumption)) | exact get_set (get_set (get_set (by assumption))) | ((repeat first | assumption | exact get_last | (refine get_last2 ?_; focus (simp; done)) | apply get_set | apply get_app | (apply get_ne; focus omega)); done)) ?_ rfl rfl ?_ ?_ rfl ?_; (first | rfl | focus (simp only [List.length_map, List.length_append, List.length_cons, List.length_nil]; omega) | focus (simp; done) | focus (simp; omega)); (first | focus (simp only [List.length_map, List.length_append, List.length_cons, List.length_nil]; omega) | focus (simp; done) | focus (simp; omega)); (first | focus (simp only [List.length_map, List.length_append, List.length_cons, List.length_nil]; omega) | focus (simp; done) | focus (simp; omega)))
    | (refine idAp ?_; refine m_appB rfl rfl rfl (by first | rfl | assumption | exact get_set (by assumption) | exact get_set (get_set (by assumption)) | exact get_set (get_set (get_set (by assumption))) | ((repeat first | assumption | exact get_last | (refine get_last2 ?_; focus (simp; done)) | apply get_set | apply get_app | (apply get_ne; focus omega)); done)) ?_ rfl rfl ?_ ?_ rfl ?_; (first | rfl | focus (simp only [List.length_map, List.length_append, List.length_cons, List.length_nil]; omega) | focus (simp; done) | focus (simp; omega)); (first | focus (simp only [List.length_map, List.length_append, List.length_cons, List.length_nil]; omega) | focus (simp; done) | focus (simp; omega)); (first | focus (simp only [List.length_map, List.length_append, List.length_cons, List.length_nil]; omega) | focus (simp; done) | focus (simp; omega)))
  refine retK1 (.inl rfl) rfl rfl (ResO.tmp rfl) ⟨rfl, ?_⟩
  simp only [bldH]
  rw [List.set_comm _ _ hb.ne, List.set_set]
  simp [bCells]
set_option maxHeartbeats 4000000 in
theorem wstr_ac [GlobF Tryz.prog] {h : List AObj} {r tk n T : Nat} {p : AV} {l : List UInt8} {ys : List AV} [hl : Lies Tryz.prog T n 0 57] (hn : ys.length + 2 = n) (hb : Bld h r tk T p l ys) (s : List UInt8) (hs : s.length < 1099511627776) :
    AC Tryz.prog 36 [.bp r 0, str s] h (fun v h' => v = .tu [.sc (.int .i64 (s.length : Int)), .sc .nilIface] ∧ h' = bldH h r tk T (l ++ s) ys) := by
  have hlt := hb.lt
  have hc := ccheck_ac (n := n) hb.box (by simpa using hn) hb.own
  have h1 : (h.set r (.cells (bCells (.bp r 0) tk l ys) (some T)))[r]? = some (.cells (bCells (.bp r 0) tk l ys) (some T)) := List.getElem?_set_self (get_lt hb.box)
  have h2 : (h.set r (.cells (bCells (.bp r 0) tk l ys) (some T)))[tk]? = some (.tail l.length 1 5) := get_ne hb.ne hb.tail
  have h3 : ((h.set r (.cells (bCells (.bp r 0) tk l ys) (some T))).set tk (.tail (l.length + s.length) 1 5))[r]? = some (.cells (bCells (.bp r 0) tk l ys) (some T)) := get_ne hb.ne.symm h1
  refine AC.of_body Tryz.func36 Tryz.ntmps36 rfl rfl rfl ?_
  repeat' first
    | (refine m_call hc rfl rfl rfl ?_; rintro _ _ ⟨rfl, rfl⟩)
    | (refine p1L (D_loadB1 rfl h1 rfl) rfl ?_)
    | (refine idAp ?_; refine m_appS rfl rfl h2 (by rw [List.length_map]) (by rw [List.length_map]; omega) rfl ?_)
    | (refine pS (S_store rfl rfl rfl (by rw [List.length_map]; exact h3) rfl rfl rfl) ?_)
    | (apply p1 (hd := rfl); case hop => first | (apply D_move; rfl) | (apply D_assign; rfl) | (apply D_load1; rfl) | (apply D_fld; rfl) | (apply D_len_str; rfl) | (apply D_loadW; rfl; rfl) | (apply D_loadA; rfl; rfl) | exact D_fldB rfl | (apply D_nilB; rfl) | (apply D_nilE; rfl))
    | refine W_seq ?_
    | refine W_region ?_
    | refine WL_nil ?_
    | refine tn ?_
    | refine tr ?_
    | refine br ?_
    | refine bn ?_
    | refine te ?_
    | (refine idB ?_; first | refine bh rfl ?_ | refine bm rfl ?_)
    | refine W_skip ?_
    | refine W_block ?_
    | refine W_exit ?_
    | refine W_ret ?_
    | refine W_label ?_
    | refine W_scope ?_
    | refine sn ?_
    | refine sr ?_
    | refine se ?_
    | (refine idLd ?_; first | refine p1L (D_loadB1 rfl rfl rfl) rfl ?_ | refine p1L (D_loadBA rfl rfl rfl) rfl ?_ | refine p1L (D_loadB1 rfl (by (repeat first | assumption | exact get_last | (refine get_last2 ?_; focus (simp; done)) | apply get_set | apply get_app | (apply get_ne; focus omega) | (apply get_ne; focus (simp only [List.length_set, List.length_append, List.length_cons, List.length_nil]; omega))); done) (by rfl)) rfl ?_ | refine p1L (D_loadBA rfl (by (repeat first | assumption | exact get_last | (refine get_last2 ?_; focus (simp; done)) | apply get_set | apply get_app | (apply get_ne; focus omega) | (apply get_ne; focus (simp only [List.length_set, List.length_append, List.length_cons, List.length_nil]; omega))); done) (by rfl)) rfl ?_)
    | (refine idS ?_; first | refine pS (S_store rfl rfl rfl rfl rfl rfl rfl) ?_ | refine pS (S_store rfl rfl rfl (by (repeat first | assumption | exact get_last | (refine get_last2 ?_; focus (simp; done)) | apply get_set | apply get_app | (apply get_ne; focus omega) | (apply get_ne; focus (simp only [List.length_set, List.length_append, List.length_cons, List.length_nil]; omega))); done) (by rfl) (by rfl) (by rfl)) ?_)
    | refine Le.bool ?_
    | refine Le.int ?_
    | refine Le.str ?_
    | (refine idAp ?_; refine m_app rfl rfl (by first | rfl | assumption | exact get_set (by assumption) | exact get_set (get_set (by assumption)) | exact get_set (get_set (get_set (by assumption))) | ((repeat first | assumption | exact get_last | (refine get_last2 ?_; focus (simp; done)) | apply get_set | apply get_app | (apply get_ne; focus omega)); done)) ?_ rfl rfl ?_ ?_ rfl ?_; (first | rfl | focus (simp only [List.length_map, List.length_append, List.length_cons, List.length_nil]; omega) | focus (simp; done) | focus (simp; omega)); (first | focus (simp only [List.length_map, List.length_append, List.length_cons, List.length_nil]; omega) | focus (simp; done) | focus (simp; omega)); (first | focus (simp only [List.length_map, List.length_append, List.length_cons, List.length_nil]; omega) | focus (simp; done) | focus (simp; omega)))
    | (refine idAp ?_; refine m_appB rfl rfl rfl (by first | rfl | assumption | exact get_set (by assumption) | exact get_set (get_set (by assumption)) | exact get_set (get_set (get_set (by assumption))) | ((repeat first | assumption | exact get_last | (refine get_last2 ?_; focus (simp; done)) | apply get_set | apply get_app | (apply get_ne; focus omega)); done)) ?_ rfl rfl ?_ ?_ rfl ?_; (first | rfl | focus (simp only [List.length_map, List.length_append, List.length_cons, List.length_nil]; omega) | focus (simp; done) | focus (simp; omega)); (first | focus (simp only [List.length_map, List.length_append, List.length_cons, List.length_nil]; omega) | focus (simp; done) | focus (simp; omega)); (first | focus (simp only [List.length_map, List.length_append, List.length_cons, List.length_nil]; omega) | focus (simp; done) | focus (simp; omega)))
  refine retK (rs := [_, _]) (.inl rfl) rfl trivial (.cons (ResO.tmp rfl) (.cons (ResO.tmp rfl) .nil)) ⟨rfl, ?_⟩
  show _ = bldH h r tk T (l ++ s) ys
  simp only [bldH, kill]
  rw [List.set_comm _ _ hb.ne, List.set_set]
  simp [bCells]

/-! What a builder holds, as a text. -/
theorem drew_freeze_heap (w : World) (g n b : Nat) (hb : b ≠ g) : (w.drew.freeze ⟨g, 0, none⟩ n).heap[b]? = w.heap[b]? := by
  unfold World.freeze
  split
  · rfl
  · show (w.heap.modify g _)[b]? = w.heap[b]?
    simp [Array.getElem?_modify, Ne.symm hb]
theorem drew_freeze_cell (w : World) (g n b o : Nat) : (w.drew.freeze ⟨g, 0, none⟩ n).cell? ⟨b, o, none⟩ = w.cell? ⟨b, o, none⟩ := by
  by_cases hb : b = g
  · subst hb
    unfold World.freeze
    split
    · rfl
    · have e : ∀ f : Obj → Obj, (w.heap.modify b f)[b]? = (w.heap[b]?).map f := fun f => by rw [Array.getElem?_modify, if_pos rfl]
      simp only [World.cell?]
      rw [show w.drew.heap = w.heap from rfl, e]
      cases h : w.heap[b]? with
      | none => rfl
      | some o => cases o <;> rfl
  · unfold World.cell?
    rw [drew_freeze_heap w g n b hb]
theorem drew_freeze_size (w : World) (g n : Nat) : (w.drew.freeze ⟨g, 0, none⟩ n).heap.size = w.heap.size := by
  unfold World.freeze
  split
  · rfl
  · show (w.heap.modify g _).size = w.heap.size
    simp
theorem drew_freeze_drawn (w : World) (g n : Nat) : (w.drew.freeze ⟨g, 0, none⟩ n).drawn = w.drawn + 1 ∧ (w.drew.freeze ⟨g, 0, none⟩ n).tape = w.tape ∧ (w.drew.freeze ⟨g, 0, none⟩ n).os = w.os ∧ (w.drew.freeze ⟨g, 0, none⟩ n).output = w.output := by
  unfold World.freeze
  split <;> exact ⟨rfl, rfl, rfl, rfl⟩

set_option maxHeartbeats 4000000 in
set_option maxRecDepth 100000 in
theorem bstr_calls (b g cap : Nat) (cs cur : Array Value) (T : TypeId) (l : List UInt8) (w : World) (h0 : l ≠ []) (hbk : w.heap[b]? = some (.cells cs T (0, 0))) (hcs : cs[1]? = some (.slice (some ⟨g, 0, none⟩) l.length cap)) (hg : w.heap[g]? = some (.cells cur 5 (0, 0)))
    (hnc : l.length ≤ cap) (hcm : cap ≤ maxLen) (hsz : cur.size = cap) (hby : ∀ j x, l[j]? = some x → w.cell? ⟨g, j, none⟩ = some (.int .u8 x.toNat)) :
    Calls Tryz.prog 38 #[.pointer (some ⟨b, 0, none⟩)] w fun e w' => e = .returned (.string ⟨l.toArray⟩) ∧ w' = w.drew.freeze ⟨g, 0, none⟩ l.length := by
  have hl0 : l.length ≠ 0 := by simpa using h0
  have c1 : w.drew.cell? ⟨b, 1, none⟩ = some (.slice (some ⟨g, 0, none⟩) l.length cap) := by
    have : w.drew.heap[b]? = some (.cells cs T (0, 0)) := hbk
    rw [Lib.cell_of_heap this]; exact hcs
  have hSD : ∀ ts ty, (Builtin.unsafeSliceData_ ts ty #[.slice (some ⟨g, 0, none⟩) l.length cap]).run Tryz.prog w.drew = .ok (.pointer (some ⟨g, 0, none⟩)) w.drew := fun ts ty =>
    Lib.run_unsafeSliceData_row _ _ _ _ _ _ (by omega)
  have hUS : ∀ pt it ty, Tryz.prog.underlying pt = some (.pointer 5) → (Builtin.unsafeString_ #[pt, it] ty #[.pointer (some ⟨g, 0, none⟩), .int .i64 l.length]).run Tryz.prog w.drew = .ok (.string ⟨l.toArray⟩) (w.drew.freeze ⟨g, 0, none⟩ l.length) := fun pt it ty hpt => by
    refine Lib.run_unsafeString_row w.drew pt it ty 5 hpt (by kernel_rfl) g cur.size (by have hg' : w.drew.heap[g]? = some (.cells cur 5 (0, 0)) := hg; simp [World.shape?, hg']) l h0 (by omega) (by unfold maxLen at hcm; omega) ?_
    intro j x hx
    rw [Addr.add_lit, Nat.zero_add]
    exact hby j x hx
  have hUS' := hUS 84 3 9 Tryz.underlying84
  have hSD' := hSD #[55] 84
  have mixed : Tryz.prog.follows Departure.mixedOrders = true := by decide
  go_enter Tryz.func38, Tryz.ntmps38
  go_wp2
  go_region_o
  all_goals (go_wp2; go_ret; exact ⟨rfl, rfl⟩)
set_option maxHeartbeats 4000000 in
set_option maxRecDepth 100000 in
theorem bstr0_calls (b : Nat) (cs : Array Value) (T : TypeId) (w : World) (hbk : w.heap[b]? = some (.cells cs T (0, 0))) (hcs : cs[1]? = some (.slice none 0 0)) :
    Calls Tryz.prog 38 #[.pointer (some ⟨b, 0, none⟩)] w fun e w' => e = .returned (.string ⟨#[]⟩) ∧ w' = w.drew := by
  have c1 : w.drew.cell? ⟨b, 1, none⟩ = some (.slice none 0 0) := by
    have : w.drew.heap[b]? = some (.cells cs T (0, 0)) := hbk
    rw [Lib.cell_of_heap this]; exact hcs
  have hSD : (Builtin.unsafeSliceData_ #[55] 84 #[.slice none 0 0]).run Tryz.prog w.drew = .ok (.pointer none) w.drew := Lib.run_unsafeSliceData_nil _ _ _ _ _
  have hUS : (Builtin.unsafeString_ #[84, 3] 9 #[.pointer none, .int .i64 0]).run Tryz.prog w.drew = .ok (.string .empty) w.drew := Lib.run_unsafeString_none _ _ _ _ _
  have mixed : Tryz.prog.follows Departure.mixedOrders = true := by decide
  go_enter Tryz.func38, Tryz.ntmps38
  go_wp2
  go_region_o
  all_goals (go_wp2; go_ret; exact ⟨rfl, rfl⟩)

set_option maxHeartbeats 4000000 in
set_option maxRecDepth 100000 in
theorem bstr1_calls (b g cap : Nat) (cs : Array Value) (T : TypeId) (w : World) (hbk : w.heap[b]? = some (.cells cs T (0, 0))) (hcs : cs[1]? = some (.slice (some ⟨g, 0, none⟩) 0 cap)) (hc0 : cap ≠ 0) :
    Calls Tryz.prog 38 #[.pointer (some ⟨b, 0, none⟩)] w fun e w' => e = .returned (.string ⟨#[]⟩) ∧ w' = w.drew := by
  have c1 : w.drew.cell? ⟨b, 1, none⟩ = some (.slice (some ⟨g, 0, none⟩) 0 cap) := by
    have : w.drew.heap[b]? = some (.cells cs T (0, 0)) := hbk
    rw [Lib.cell_of_heap this]; exact hcs
  have hSD : (Builtin.unsafeSliceData_ #[55] 84 #[.slice (some ⟨g, 0, none⟩) 0 cap]).run Tryz.prog w.drew = .ok (.pointer (some ⟨g, 0, none⟩)) w.drew := Lib.run_unsafeSliceData_row _ _ _ _ _ _ hc0
  have hUS : (Builtin.unsafeString_ #[84, 3] 9 #[.pointer (some ⟨g, 0, none⟩), .int .i64 0]).run Tryz.prog w.drew = .ok (.string .empty) w.drew := Lib.run_unsafeString_none _ _ _ _ _
  clear hc0
  have mixed : Tryz.prog.follows Departure.mixedOrders = true := by decide
  go_enter Tryz.func38, Tryz.ntmps38
  go_wp2
  go_region_o
  all_goals (go_wp2; go_ret; exact ⟨rfl, rfl⟩)

set_option maxHeartbeats 4000000 in
set_option maxRecDepth 100000 in
theorem bstr2_calls (b g : Nat) (cs cur : Array Value) (T : TypeId) (w : World) (hbk : w.heap[b]? = some (.cells cs T (0, 0))) (hcs : cs[1]? = some (.slice (some ⟨g, 0, none⟩) 0 0)) (hg : w.heap[g]? = some (.cells cur 5 (0, 0))) :
    Calls Tryz.prog 38 #[.pointer (some ⟨b, 0, none⟩)] w fun e w' => e = .returned (.string ⟨#[]⟩) ∧ Grown w w' := by
  have hlt : b < w.heap.size := (Array.getElem?_eq_some_iff.1 hbk).1
  have c1 : w.drew.cell? ⟨b, 1, none⟩ = some (.slice (some ⟨g, 0, none⟩) 0 0) := by
    have : w.drew.heap[b]? = some (.cells cs T (0, 0)) := hbk
    rw [Lib.cell_of_heap this]; exact hcs
  have hSD : (Builtin.unsafeSliceData_ #[55] 84 #[.slice (some ⟨g, 0, none⟩) 0 0]).run Tryz.prog w.drew = .ok (.pointer (some ⟨w.drew.heap.size, 0, none⟩)) (w.drew.alloc (.view ⟨g, 0, none⟩ 5)) :=
    Lib.run_unsafeSliceData_zero w.drew _ _ 5 Tryz.underlying84 ⟨g, 0, none⟩ 0 (5, cur.size) (by have hg' : w.drew.heap[g]? = some (.cells cur 5 (0, 0)) := hg; simp [World.shape?, hg'])
  have c2 : (w.drew.alloc (.view ⟨g, 0, none⟩ 5)).cell? ⟨b, 1, none⟩ = some (.slice (some ⟨g, 0, none⟩) 0 0) := by
    have : (w.drew.alloc (.view ⟨g, 0, none⟩ 5)).heap[b]? = _ := (Lib.alloc_old w.drew _ b hlt).trans hbk
    rw [Lib.cell_of_heap this]; exact hcs
  have c3 : (w.alloc (.view ⟨g, 0, none⟩ 5)).drew.cell? ⟨b, 1, none⟩ = some (.slice (some ⟨g, 0, none⟩) 0 0) := c2
  have c0 : w.cell? ⟨b, 1, none⟩ = some (.slice (some ⟨g, 0, none⟩) 0 0) := c1
  have hUS : (Builtin.unsafeString_ #[84, 3] 9 #[.pointer (some ⟨w.heap.size, 0, none⟩), .int .i64 0]).run Tryz.prog (w.alloc (.view ⟨g, 0, none⟩ 5)).drew = .ok (.string .empty) (w.alloc (.view ⟨g, 0, none⟩ 5)).drew := Lib.run_unsafeString_none _ _ _ _ _
  have mixed : Tryz.prog.follows Departure.mixedOrders = true := by decide
  have hG' : Grown w (w.alloc (.view ⟨g, 0, none⟩ 5)).drew := ⟨rfl, rfl, rfl, Nat.le_succ _, by show w.heap.size ≤ (w.heap.push _).size; simp, fun k hk => Lib.alloc_old w.drew _ k hk⟩
  have hG : Grown w (w.drew.alloc (.view ⟨g, 0, none⟩ 5)) := ⟨rfl, rfl, rfl, Nat.le_succ _, by show w.heap.size ≤ (w.heap.push _).size; simp, fun k hk => Lib.alloc_old w.drew _ k hk⟩
  go_enter Tryz.func38, Tryz.ntmps38
  go_wp2
  go_region_o
  all_goals (go_wp2; go_ret; first | exact ⟨rfl, hG⟩ | exact ⟨rfl, hG'⟩)
end Go.Proofs

/- A builder's bytes as a text. -/
namespace Go.Proofs
open Go.AL

theorem bstr_ac [GlobF Tryz.prog] {h : List AObj} {r tk T : Nat} {p : AV} {l : List UInt8} {ys : List AV} (hb : Bld h r tk T p l ys) :
    AC Tryz.prog 38 [.bp r 0] h (fun v h' => v = str l ∧ h' = h.set tk .dead) :=
  ⟨enters_of Tryz.func38 (by kernel_rfl) rfl, fun B G w vs hr hc => by
    obtain ⟨v, vs', rfl, hv, hnil⟩ := hc.inv_cons
    rw [hnil.inv_nil]
    obtain ⟨b, c, t, rfl, hbk, hBb, hcs, hheap, _⟩ := box_inv2 hr hb.box hv
    have hlt1 : 1 < c.length := by rw [hcs.1]; simp [bCells]
    have hc1 : Conc G c[1] (.sl (some tk) 1 (l.map byteC)) := hcs.2 1 _ _ (List.getElem?_eq_getElem hlt1) rfl
    obtain ⟨o0, o1⟩ := hr.obj tk _ hb.tail
    have hct : c.toArray[1]? = some c[1] := by simp [hlt1]
    have hres : Conc G (.string ⟨l.toArray⟩) (str l) := .sc _
    by_cases hl : l = []
    · subst hl
      have key : Calls Tryz.prog 38 #[.pointer (some ⟨b, 0, none⟩)] w fun e w' => e = .returned (.string ⟨#[]⟩) ∧ Grown w w' := by
        have hdr : ∀ e w', (e = Ending.returned (.string ⟨#[]⟩) ∧ w' = w.drew) → (e = .returned (.string ⟨#[]⟩) ∧ Grown w w') := fun e w' h => ⟨h.1, by rw [h.2]; exact ⟨rfl, rfl, rfl, Nat.le_succ _, Nat.le_refl _, fun _ _ => rfl⟩⟩
        generalize c[1] = u at hc1 hct
        cases hc1 with
        | @sl b' o cap' _ _ _ us hk hcap him hc ht =>
          have h1 := ht tk rfl
          simp only [List.map_nil, List.length_nil] at h1 hct
          rcases o1 with ⟨_, h0⟩ | ⟨g, cap, cur, q1, q2, q3, q4, _⟩
          · rw [h0] at h1; cases h1
          · simp only [List.length_nil] at q1
            rw [q1] at h1
            simp only [Option.some.injEq, Value.slice.injEq, true_and, Addr.mk.injEq, and_true] at h1
            obtain ⟨⟨rfl, rfl⟩, rfl⟩ := h1
            by_cases h0 : cap = 0
            · subst h0; exact bstr2_calls b g _ cur _ w hheap hct q3
            · exact (bstr1_calls b g cap _ _ w hheap hct h0).mono hdr
        | slnil ht => exact (bstr0_calls b _ _ w hheap hct).mono hdr
      refine key.mono ?_
      rintro e w' ⟨rfl, hgr⟩
      obtain ⟨imm', i1, i2⟩ := grown_imm hgr hr.imm
      obtain ⟨hle, hr'⟩ := hr.grown hgr i1 i2
      exact ⟨_, _, _, _, rfl, hle, hr'.dead tk, hres.mono hle, rfl, rfl⟩
    · have hl0 : l.length ≠ 0 := by simpa using hl
      rcases o1 with ⟨h0, _⟩ | ⟨g, cap, cur, q1, q2, q3, q4, q5, q6, q7⟩
      · exact absurd h0 hl0
      have e : c[1] = .slice (some ⟨g, 0, none⟩) l.length cap ∧ ∀ j x, l[j]? = some x → G.imm g j = some (.int .u8 x.toNat) := by
        generalize c[1] = u at hc1
        generalize he : l.map byteC = els at hc1
        have hel : els.length = l.length := by rw [← he, List.length_map]
        cases hc1 with
        | @sl b o cap' _ _ _ us hk hcap him hc ht =>
          have h1 := ht tk rfl
          rw [hel, q1] at h1
          simp only [Option.some.injEq, Value.slice.injEq, true_and, Addr.mk.injEq, and_true] at h1
          obtain ⟨⟨rfl, rfl⟩, rfl⟩ := h1
          refine ⟨by rw [hel], fun j x hx => ?_⟩
          have hj : j < l.length := (List.getElem?_eq_some_iff.1 hx).1
          have hi := him j 0 (by omega) (by omega)
          have hcc := hc j (byteC x) 0 _ (by rw [← he, List.getElem?_map, hx]; rfl) rfl
          rw [conc_sc hcc] at hi
          simpa using hi
        | slnil ht => simp at hel; omega
      rw [e.1] at hct
      refine (bstr_calls b g cap _ cur _ l w hl hheap hct q3 q4 q5 (by omega) fun j x hx => hr.imm _ _ _ (e.2 j x hx)).mono ?_
      rintro e' w' ⟨rfl, rfl⟩
      obtain ⟨d1, d2, d3, d4⟩ := drew_freeze_drawn w g l.length
      refine ⟨_, G, _, _, rfl, .refl G, ?_, hres, rfl, rfl⟩
      refine hr.set (w' := w.drew.freeze ⟨g, 0, none⟩ l.length) (b := g) hb.tail (by simp only [ownBlk, q1, slBlock]) q2 d2 d3 d4 (by omega) (drew_freeze_size w g l.length) (fun b' hb' => drew_freeze_heap w g l.length b' hb') (fun i v hv => ?_) trivial (fun c hc => by cases hc)
      rw [drew_freeze_cell]; exact hr.imm _ _ _ hv⟩
end Go.Proofs
