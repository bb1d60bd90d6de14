/- The law ClaimNodes. -/
import Derived.Test.YtnjnjbombcefcaaDoorCK6
namespace Go.Proofs
open Go.AL
attribute [local irreducible] Go.AL.W Go.AL.WL Go.AL.WD Go.AL.POp Go.AL.PPOp Go.AL.POpS Go.AL.PC Go.AL.AC Go.AL.YW Go.AL.Ret Go.AL.Le Go.AL.thn Go.AL.inBlk Go.AL.scp

theorem LvlOK.nil (n : Nat) : LvlOK n [] := by
  cases n with
  | zero => rfl
  | succ n => exact ⟨by decide, fun c h => by cases h⟩
theorem lvl_V (n : Nat) (v : Val) : NodOK (LvlOK n) (nC (noV v)) := ⟨_, rfl, LvlOK.nil n⟩
theorem lvl_S (n : Nat) (s : List UInt8) : NodOK (LvlOK n) (nC (noS s)) := ⟨_, rfl, LvlOK.nil n⟩
theorem lvl_two (u v : Val) : LvlOK 1 [nC (noV u), nC (noV v)] := ⟨by simp, fun c h => by
  simp only [List.mem_cons, List.not_mem_nil, or_false] at h
  rcases h with rfl | rfl
  · exact lvl_V 0 u
  · exact lvl_V 0 v⟩
theorem lvl_who (x : Ent) : NodOK (LvlOK 1) (nC (who x)) := ⟨who x, rfl, by
  unfold who
  split
  · exact LvlOK.nil 1
  · split
    · exact LvlOK.nil 1
    · exact lvl_two _ _⟩
theorem lvl_what (t : Trm) : NodOK (LvlOK 1) (nC (what t)) := ⟨what t, rfl, by
  unfold what
  split
  · obtain ⟨y, hy, hk⟩ := lvl_who t.e
    have : (who t.e).kids = y.kids := by simp at hy; exact hy.2.2.2.2.2
    rw [this]; exact hk
  · exact LvlOK.nil 1⟩
theorem opt_mem {p : Prop} {x : Nod} {c : List AV} (h : c ∈ opt p x) : c = nC x := by
  unfold opt at h
  split at h
  · simpa using h
  · cases h
theorem opt_len (p : Prop) (x : Nod) : (opt p x).length ≤ 1 := by
  unfold opt; split <;> simp
theorem lvl_form (f : Frm) : LvlOK 2 (formL f) := by
  refine ⟨?_, fun c hc => ?_⟩
  · have h1 := opt_len (f.op ≠ 3) (noV (wordV f.a))
    have h2 := opt_len (f.op = 4) (what f.old)
    have h3 := opt_len (f.op ≠ 3) (what f.v)
    have h4 := opt_len (spanP f) (noL 4 [nC (noV ⟨6, f.fr, []⟩), nC (noV ⟨6, f.to, []⟩)])
    simp only [formL, List.length_append, List.length_cons, List.length_nil]
    omega
  · simp only [formL, List.mem_append, List.mem_cons, List.not_mem_nil, or_false] at hc
    rcases hc with (((h | h) | h) | h) | h
    · rcases h with rfl | rfl
      · exact lvl_S 1 _
      · exact lvl_who _
    · rw [opt_mem h]; exact lvl_V 1 _
    · rw [opt_mem h]; exact lvl_what _
    · rw [opt_mem h]; exact lvl_what _
    · rw [opt_mem h]; exact ⟨_, rfl, lvl_two _ _⟩
theorem lvl_wr (f : Frm) : LvlOK 3 [nC (wrN f)] := ⟨by simp, fun c hc => by
  simp only [List.mem_cons, List.not_mem_nil, or_false] at hc
  subst hc
  refine ⟨wrN f, rfl, ?_⟩
  unfold wrN
  split
  · exact lvl_form f
  · exact LvlOK.nil 2⟩
instance (f : Frm) : PurLL (wrN f).kids := by
  unfold wrN
  split
  · exact inferInstanceAs (PurLL (formL f))
  · exact inferInstanceAs (PurLL [])
attribute [local irreducible] wrN wrE in
set_option maxHeartbeats 8000000 in
theorem claimNodes_pc [GlobF Tryd.prog] (hW : WordsOK) (f : Frm) : PC Tryd.prog 6 [.ag (fC f)] (.sc (.bool true)) := by
  have hg := great_pc f
  by_cases hp : greatP f
  · rw [dP_t.mpr hp] at hg
    refine PC.of_body Tryd.func6 Tryd.ntmps6 rfl rfl rfl ?_
    repeat' first
      | (apply p1 (hd := rfl); case hop => first | (apply D_move; rfl) | (apply D_assign; rfl) | (apply D_pc hg; rfl; exact .same rfl .nil) | (apply D_load1; rfl) | (apply D_pickT; rfl; rfl) | (apply D_pickF; rfl; rfl) | (apply D_int; rfl; rfl; rfl) | (apply D_ext; rfl; rfl) | (apply D_loadW; rfl; rfl) | (apply D_loadA; rfl; rfl) | (apply D_box; rfl; rfl) | (apply D_beq; rfl; rfl) | (apply D_bne; rfl; rfl) | (apply D_lit; rfl; rfl; rfl; rfl))
      | refine W_seq ?_
      | refine W_region ?_
      | (refine idC ?_; first | refine c1 rfl ?_ | refine c0 rfl ?_ | refine cs rfl (fun _ => ?_) (fun _ => ?_))
      | refine WL_nil ?_
      | (refine idG ?_; first | refine g0t rfl rfl rfl ?_ | refine g0f rfl rfl rfl ?_ | refine g0u rfl rfl rfl ?_ | refine gr rfl rfl ?_ | refine gs rfl rfl (fun _ => ?_) (fun _ => ?_) | refine grn rfl rfl ?_)
      | refine tn ?_
      | refine tr ?_
      | refine br ?_
      | refine bn ?_
      | refine te ?_
      | (refine idB ?_; first | refine bh rfl ?_ | refine bm rfl ?_)
      | refine W_skip ?_
      | refine W_block ?_
      | refine W_exit ?_
      | refine W_ret ?_
      | refine W_label ?_
      | refine W_scope ?_
      | refine sn ?_
      | refine sr ?_
      | refine se ?_
      | (refine idR ?_; first | refine ret1 rfl rfl rfl ?_ | refine rL1 rfl (by first | exact trivial | exact ⟨rfl, trivial⟩) (by first | exact ResO.tmp rfl | exact ResO.cellBA rfl rfl rfl | exact ResO.cellB1 rfl rfl rfl | exact ResO.cellEA rfl rfl | exact ResO.cellE1 rfl) ?_)
      | (refine idLd ?_; first | refine p1L (D_loadB1 rfl rfl rfl) rfl ?_ | refine p1L (D_loadBA rfl rfl rfl) rfl ?_ | refine p1L (D_loadB1 rfl (by (repeat first | assumption | exact get_last | (refine get_last2 ?_; focus (simp; done)) | apply get_set | apply get_app | (apply get_ne; focus omega) | (apply get_ne; focus (simp only [List.length_set, List.length_append, List.length_cons, List.length_nil]; omega))); done) (by rfl)) rfl ?_ | refine p1L (D_loadBA rfl (by (repeat first | assumption | exact get_last | (refine get_last2 ?_; focus (simp; done)) | apply get_set | apply get_app | (apply get_ne; focus omega) | (apply get_ne; focus (simp only [List.length_set, List.length_append, List.length_cons, List.length_nil]; omega))); done) (by rfl)) rfl ?_)
      | (refine idA ?_; first | refine m_var rfl rfl rfl rfl rfl rfl rfl ?_ | refine m_alloc rfl ?_)
      | (refine idS ?_; first | refine pS (S_store rfl rfl rfl rfl rfl rfl rfl) ?_ | refine pS (S_store rfl rfl rfl (by (repeat first | assumption | exact get_last | (refine get_last2 ?_; focus (simp; done)) | apply get_set | apply get_app | (apply get_ne; focus omega) | (apply get_ne; focus (simp only [List.length_set, List.length_append, List.length_cons, List.length_nil]; omega))); done) (by rfl) (by rfl) (by rfl)) ?_)
      | refine Le.bool ?_
      | refine Le.int ?_
      | refine Le.str ?_
    all_goals first
      | rfl
  rw [dP_f.mpr hp] at hg
  have hs := great_s hp
  have hc := fcheck_pc f hs
  have hm := fmay1_pc f hs
  have he : wrE f = if dP (frmP f) = true then 0 else 90 := by
    unfold wrE
    by_cases h : frmP f
    · rw [if_pos h, if_pos (dP_t.mpr h)]
    · rw [if_neg h, if_neg (by rw [dP_t]; exact h)]
  refine PC.of_body Tryd.func6 Tryd.ntmps6 rfl rfl rfl ?_
  repeat' first
    | (apply p1 (hd := rfl); case hop => first | (apply D_move; rfl) | (apply D_assign; rfl) | (apply D_pc hg; rfl; exact .same rfl .nil) | (apply D_pc hc; rfl; exact .same rfl .nil) | (apply D_pc hm; rfl; exact .same rfl .nil) | (apply D_pc (fwrite_pc hW f hs); rfl; exact .same rfl .nil) | (apply D_pc (fwrite1_pc f hs); rfl; exact .same rfl .nil) | (apply D_pc (placed_pc 3 [nC (wrN f)] (lvl_wr f)); rfl; exact .same rfl (.same rfl .nil)) | (apply D_load1; rfl) | (apply D_pickT; rfl; rfl) | (apply D_pickF; rfl; rfl) | (apply D_int; rfl; rfl; rfl) | (apply D_ext; rfl; rfl) | (apply D_loadW; rfl; rfl) | (apply D_loadA; rfl; rfl) | (apply D_box; rfl; rfl) | (apply D_beq; rfl; rfl) | (apply D_bne; rfl; rfl) | (apply D_lit; rfl; rfl; rfl; rfl))
    | refine W_seq ?_
    | refine W_region ?_
    | (refine idC ?_; first | refine c1 rfl ?_ | refine c0 rfl ?_ | refine cs rfl (fun _ => ?_) (fun _ => ?_))
    | refine WL_nil ?_
    | (refine idG ?_; first | refine g0t rfl rfl rfl ?_ | refine g0f rfl rfl rfl ?_ | refine g0u rfl rfl rfl ?_ | refine gr rfl rfl ?_ | refine gs rfl rfl (fun _ => ?_) (fun _ => ?_) | refine grn rfl rfl ?_)
    | refine tn ?_
    | refine tr ?_
    | refine br ?_
    | refine bn ?_
    | refine te ?_
    | (refine idB ?_; first | refine bh rfl ?_ | refine bm rfl ?_)
    | refine W_skip ?_
    | refine W_block ?_
    | refine W_exit ?_
    | refine W_ret ?_
    | refine W_label ?_
    | refine W_scope ?_
    | refine sn ?_
    | refine sr ?_
    | refine se ?_
    | (refine idR ?_; first | refine ret1 rfl rfl rfl ?_ | refine rL1 rfl (by first | exact trivial | exact ⟨rfl, trivial⟩) (by first | exact ResO.tmp rfl | exact ResO.cellBA rfl rfl rfl | exact ResO.cellB1 rfl rfl rfl | exact ResO.cellEA rfl rfl | exact ResO.cellE1 rfl) ?_)
    | (refine idLd ?_; first | refine p1L (D_loadB1 rfl rfl rfl) rfl ?_ | refine p1L (D_loadBA rfl rfl rfl) rfl ?_ | refine p1L (D_loadB1 rfl (by (repeat first | assumption | exact get_last | (refine get_last2 ?_; focus (simp; done)) | apply get_set | apply get_app | (apply get_ne; focus omega) | (apply get_ne; focus (simp only [List.length_set, List.length_append, List.length_cons, List.length_nil]; omega))); done) (by rfl)) rfl ?_ | refine p1L (D_loadBA rfl (by (repeat first | assumption | exact get_last | (refine get_last2 ?_; focus (simp; done)) | apply get_set | apply get_app | (apply get_ne; focus omega) | (apply get_ne; focus (simp only [List.length_set, List.length_append, List.length_cons, List.length_nil]; omega))); done) (by rfl)) rfl ?_)
    | (refine idA ?_; first | refine m_var rfl rfl rfl rfl rfl rfl rfl ?_ | refine m_alloc rfl ?_)
    | (refine idS ?_; first | refine pS (S_store rfl rfl rfl rfl rfl rfl rfl) ?_ | refine pS (S_store rfl rfl rfl (by (repeat first | assumption | exact get_last | (refine get_last2 ?_; focus (simp; done)) | apply get_set | apply get_app | (apply get_ne; focus omega) | (apply get_ne; focus (simp only [List.length_set, List.length_append, List.length_cons, List.length_nil]; omega))); done) (by rfl) (by rfl) (by rfl)) ?_)
    | refine Le.bool ?_
    | refine Le.int ?_
    | refine Le.str ?_
  all_goals first
    | rfl
    | contradiction
    | (exfalso
       clear hc hm hg hs hp hW he
       cases hb : dP (frmP f) <;> simp_all [iEq_t, iEq_f])
end Go.Proofs
