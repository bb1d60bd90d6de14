/- The plain law of facts: groups of datoms, what they say, what a fold is. -/
import Derived.Test.YtfnmipagllofiaaGreatFD2
import Derived.Test.YtfnmipagllofiaaGreatFS5
import Derived.Test.YtfnmipagllofiaaGreatOps25
import Derived.Test.YtfnmipagllofiaaGreatOps26
namespace Go.Proofs
open Go.AL Go.Sort
structure Fac where
  e : Int
  a : Int
  v : Val
  sp : List Sp
abbrev fC (f : Fac) : List AV := [.sc (.int .i64 f.e), .sc (.int .i64 f.a), .sc (.int .i64 f.v.kind), .sc (.int .i64 f.v.n), str f.v.s, sl2 f.sp]
abbrev sl9 (l : List Dat) : AV := .sl none 9 (l.map dC)
abbrev sl6 (l : List Fac) : AV := .sl none 6 (l.map fC)
def alP (a b : Dat) : Prop := a.e = b.e ∧ a.a = b.a ∧ a.v = b.v
def grP (whole : Bool) (a b : Dat) : Prop := alP a b ∧ (whole = true ∨ a.t = b.t)
theorem tw_at (q : Dat → Bool) : ∀ (l : List Dat) (m : Nat), m ≤ l.length → (∀ (j : Nat) (h : j < l.length), j < m → q l[j] = true) → (∀ h : m < l.length, q l[m] = false) → l.takeWhile q = l.take m ∧ l.dropWhile q = l.drop m
  | [], m, hm, _, _ => by simp
  | x :: l, 0, _, _, h2 => by
    have := h2 (by simp)
    simp only [List.getElem_cons_zero] at this
    simp [this]
  | x :: l, m + 1, hm, h1, h2 => by
    have h0 := h1 0 (by simp) (by omega)
    simp only [List.getElem_cons_zero] at h0
    obtain ⟨a, b⟩ := tw_at q l m (by simpa using hm) (fun j h hj => by have := h1 (j + 1) (by simpa using h) (by omega); simpa using this) (fun h => by have := h2 (by simpa using h); simpa using this)
    simp [h0, a, b]
open Classical in
noncomputable def tst (p : Dat → Dat → Prop) (d : Dat) : Dat → Bool := fun x => decide (p d x)
theorem tst_t {p : Dat → Dat → Prop} {d x : Dat} : tst p d x = true ↔ p d x := by unfold tst; simp
theorem tst_f {p : Dat → Dat → Prop} {d x : Dat} : tst p d x = false ↔ ¬ p d x := by unfold tst; simp
noncomputable def grpL (p : Dat → Dat → Prop) : List Dat → List (List Dat)
  | [] => []
  | d :: l => (d :: l.takeWhile (tst p d)) :: grpL p (l.dropWhile (tst p d))
termination_by l => l.length
decreasing_by
  have := (List.dropWhile_sublist (p := tst p d) (l := l)).length_le
  simp; omega
theorem grpL_nil (p : Dat → Dat → Prop) : grpL p [] = [] := by rw [grpL]
theorem grpL_cons (p : Dat → Dat → Prop) (d : Dat) (l : List Dat) : grpL p (d :: l) = (d :: l.takeWhile (tst p d)) :: grpL p (l.dropWhile (tst p d)) := by rw [grpL]
theorem grp_at {p : Dat → Dat → Prop} {r : List Dat} {n : Nat} (h0 : 0 < n) (hn : n ≤ r.length) (h1 : ∀ (j : Nat) (h : j < r.length), 1 ≤ j → j < n → p (r[0]'(by omega)) r[j]) (h2 : ∀ h : n < r.length, ¬ p (r[0]'(by omega)) r[n]) :
    grpL p r = r.take n :: grpL p (r.drop n) := by
  cases r with
  | nil => simp at hn; omega
  | cons d l =>
    obtain ⟨m, rfl⟩ : ∃ m, n = m + 1 := ⟨n - 1, by omega⟩
    obtain ⟨a, b⟩ := tw_at (tst p d) l m (by simpa using hn) (fun j h hj => tst_t.2 (by have := h1 (j + 1) (by simpa using h) (by omega) (by omega); simpa using this)) (fun h => tst_f.2 (by have := h2 (by simpa using h); simpa using this))
    rw [grpL_cons, a, b]; rfl
def saidL (l : List Dat) (b : Bool) : List Sp := (l.filter fun d => d.add == b).map fun d => ⟨d.fr, d.to⟩
theorem saidL_len (l : List Dat) (b : Bool) : (saidL l b).length ≤ l.length := by unfold saidL; rw [List.length_map]; exact List.length_filter_le _ _
theorem saidL_snoc (l : List Dat) (b : Bool) (i : Nat) (h : i < l.length) : saidL (l.take (i + 1)) b = saidL (l.take i) b ++ (if l[i].add = b then [⟨l[i].fr, l[i].to⟩] else []) := by
  unfold saidL
  rw [List.take_succ_eq_append_getElem h, List.filter_append, List.map_append]
  congr 1
  by_cases hb : l[i].add = b <;> simp [hb]
def okD (l : List Dat) : Prop := ∀ d, d ∈ l → d.fr < d.to
theorem saidL_ne {l : List Dat} (h : okD l) (b : Bool) : neS (saidL l b) := fun s hs => by
  unfold saidL at hs
  obtain ⟨d, hd, rfl⟩ := List.mem_map.1 hs
  exact h d (List.mem_filter.1 hd).1
noncomputable def tnL (now : List Sp) (l : List Dat) : List Sp := minL (canS (now ++ canS (saidL l true))) (canS (saidL l false))
noncomputable def bothL (l : List Dat) : List Sp := meetL (canS (saidL l true)) (canS (saidL l false))
noncomputable def foldT (now : List Sp) : List (List Dat) → Option (List Sp)
  | [] => some now
  | x :: xs => if (bothL x).length = 0 then foldT (tnL now x) xs else none
noncomputable def foldG : List (List Dat) → Option (List Fac)
  | [] => some []
  | g :: gs => match foldT [] (grpL (grP false) g), foldG gs with
    | some sp, some r => some ((if sp.length = 0 then [] else [⟨(g.headD dat0).e, (g.headD dat0).a, (g.headD dat0).v, sp⟩]) ++ r)
    | _, _ => none
end Go.Proofs

namespace Go.Proofs
open Go.AL Go.Sort
attribute [local irreducible] Go.AL.W Go.AL.WL Go.AL.WD Go.AL.POp Go.AL.PPOp Go.AL.POpS Go.AL.PC Go.AL.AC Go.AL.YW Go.AL.Ret Go.AL.Le Go.AL.thn Go.AL.inBlk Go.AL.scp
theorem encV_eq {a b : Val} : [Value.int IntKind.i64 a.kind, Value.int IntKind.i64 a.n, Value.string ⟨a.s.toArray⟩] = [Value.int IntKind.i64 b.kind, Value.int IntKind.i64 b.n, Value.string ⟨b.s.toArray⟩] ↔ a = b := by
  constructor
  · intro h
    obtain ⟨k, n, s⟩ := a
    obtain ⟨k', n', s'⟩ := b
    simp at h
    obtain ⟨h1, h2, h3⟩ := h
    subst h1; subst h2; subst h3; rfl
  · rintro rfl; rfl
set_option maxHeartbeats 4000000 in
theorem alike_pc [GlobF Tryz.prog] (a b : Dat) : PC Tryz.prog 83 [eD a, eD b] (.sc (.bool (dP (alP a b)))) := by
  refine PC.of_body Tryz.func83 Tryz.ntmps83 rfl rfl rfl ?_
  repeat' first
    | (apply p1 (hd := rfl); case hop => first | (apply D_move; rfl) | (apply D_assign; rfl) | (apply D_load1; rfl) | (apply D_fld; rfl) | (apply D_pickT; rfl; rfl) | (apply D_pickF; rfl; rfl) | (apply D_int; rfl; rfl; rfl) | (apply D_loadA; rfl; rfl) | (apply D_box; rfl; rfl) | exact D_eqA rfl rfl rfl rfl rfl rfl rfl)
    | refine W_seq ?_
    | refine W_region ?_
    | refine WL_nil ?_
    | (refine idG ?_; first | refine g0t rfl rfl rfl ?_ | refine gr rfl rfl ?_ | refine gs rfl rfl (fun _ => ?_) (fun _ => ?_))
    | refine tn ?_
    | refine W_ret ?_
    | (refine idR ?_; refine ret1 rfl rfl rfl ?_)
    | refine Le.bool ?_
    | fail
  all_goals first
    | (refine dP_F ?_; rintro ⟨h1, h2, h3⟩; contradiction)
    | (refine dP_eq ?_; rw [lEq_t]; exact ⟨fun h => ⟨by assumption, by assumption, encV_eq.1 h⟩, fun h => encV_eq.2 h.2.2⟩)
    | skip
  all_goals trace_state
theorem rent {rg rg' : List (Nat × AV)} {h : List AObj} {q n k e : Nat} (hq : h[q]? = some (.tail n k e)) (hr : RenL [q] rg rg') : Ren ⟨[], 0⟩ [q] rg h rg' [.tail n k e] :=
  ⟨by simp, fun r hr => absurd hr (Nat.not_lt_zero r), fun r hr => (by cases hr), hr, ⟨⟨_, hq, .tail _ _ _⟩, trivial⟩⟩
set_option maxHeartbeats 8000000 in
theorem fsaid_pc [GlobF Tryz.prog] (l : List Dat) (b : Bool) (hl : l.length < 8796093022208) (hok : okD l) : PC Tryz.prog 84 [sl9 l, .sc (.bool b)] (sl2 (canS (saidL l b))) := by
  have hm := make_pc (saidL l b) (Nat.lt_of_le_of_lt (saidL_len l b) hl)
  rw [← dP_T (saidL_ne hok b), if_pos rfl, if_pos rfl] at hm
  refine PC.of_body Tryz.func84 Tryz.ntmps84 rfl rfl rfl ?_
  repeat' first
    | (apply p1 (hd := rfl); case hop => first | (apply D_move; rfl) | (apply D_assign; rfl) | (apply D_lenM; rfl))
    | refine W_seq ?_
    | refine W_region ?_
    | refine WL_nil ?_
    | refine tn ?_
    | refine W_block ?_
    | fail
  refine W_adopt 5 2 69 rfl ?_
  refine W_loopR (X := Nat) (fun i => [(1, .sc (.bool b)), (5, .sl (some 0) 2 ((saidL (l.take i) b).map sC)), (10, sl9 l), (11, .sc (.int .i64 (l.length : Int))), (12, .sc (.int .i64 (i : Int)))]) (fun i => [.tail (saidL (l.take i) b).length 2 69])
    (fun i => i ≤ l.length) (fun i => l.length - i) 0 (Nat.zero_le _) ⟨rfl, rfl, rfl, rfl, rfl, trivial⟩ rfl ?_
  intro i hi
  have hlen : (saidL (l.take i) b).length ≤ i := Nat.le_trans (saidL_len _ _) (by simp; omega)
  have hsn := saidL_snoc l b i
  have hfin : l.length ≤ i → saidL (l.take i) b = saidL l b := fun h => by rw [List.take_of_length_le h]
  generalize saidL (l.take i) b = O at *
  by_cases hil : i < l.length
  · have hsn := hsn hil
    repeat' first
      | (apply p1 (hd := rfl); case hop => first | (apply D_move; rfl) | (apply D_assign; rfl) | (apply D_load1; rfl) | (apply D_fld; rfl) | (apply D_int; rfl; rfl; rfl) | (apply D_loadW; rfl; rfl) | (apply D_beq; rfl; rfl) | (apply D_idxAn; rfl; rfl; (first | omega | (simp; done))) | (apply D_lit; rfl; rfl; rfl; rfl) | exact D_build rfl)
      | refine W_seq ?_
      | refine W_region ?_
      | (refine idC ?_; refine cs rfl (fun _ => ?_) (fun _ => ?_))
      | refine WL_nil ?_
      | refine tn ?_
      | refine bn ?_
      | refine te ?_
      | (refine idB ?_; refine bh rfl ?_)
      | refine W_skip ?_
      | refine W_block ?_
      | refine W_exit ?_
      | (refine idA ?_; refine m_var rfl rfl rfl rfl rfl rfl rfl ?_)
      | (refine idAp ?_; refine m_appB rfl rfl rfl (by first | rfl | assumption | exact get_set (by assumption) | exact get_set (get_set (by assumption)) | exact get_set (get_set (get_set (by assumption))) | ((repeat first | assumption | exact get_last | (refine get_last2 ?_; focus (simp; done)) | apply get_set | apply get_app | (apply get_ne; focus omega)); done)) ?_ rfl rfl ?_ ?_ rfl ?_; (first | rfl | focus (simp only [List.length_map, List.length_append, List.length_cons, List.length_nil]; omega) | focus (simp; done) | focus (simp; omega)); (first | focus (simp only [List.length_map, List.length_append, List.length_cons, List.length_nil]; omega) | focus (simp; done) | focus (simp; omega)); (first | focus (simp only [List.length_map, List.length_append, List.length_cons, List.length_nil]; omega) | focus (simp; done) | focus (simp; omega)))
      | fail
    all_goals first
      | (exfalso; omega)
      | (rw [if_pos (by assumption)] at hsn
         refine ⟨rfl, i + 1, by omega, by omega, [0], rent ?_ ⟨⟨_, rfl, .pur⟩, ⟨_, rfl, ?_⟩, ⟨_, rfl, .pur⟩, ⟨_, rfl, .pur⟩, ⟨_, rfl, by rw [wsucc i (by omega)]; exact .pur⟩, trivial⟩⟩
         · rw [show (saidL (l.take (i + 1)) b).length = (O.map sC).length + 1 by rw [hsn]; simp]; rfl
         · rw [hsn, show (O ++ [(⟨(l[i]'hil).fr, (l[i]'hil).to⟩ : Sp)]).map sC = O.map sC ++ [sC ⟨(l[i]'hil).fr, (l[i]'hil).to⟩] by simp]
           show Mv [0] (.sl (some 0) 2 (O.map sC ++ [sC ⟨(l[i]'hil).fr, (l[i]'hil).to⟩])) _
           exact .sl rfl)
      | (rw [if_neg (by assumption), List.append_nil] at hsn
         refine ⟨rfl, i + 1, by omega, by omega, [0], rent ?_ ⟨⟨_, rfl, .pur⟩, ⟨_, rfl, ?_⟩, ⟨_, rfl, .pur⟩, ⟨_, rfl, .pur⟩, ⟨_, rfl, by rw [wsucc i (by omega)]; exact .pur⟩, trivial⟩⟩
         · rw [hsn]; rfl
         · rw [hsn]; exact .sl rfl)
      | skip
    all_goals trace_state
  · have hO := hfin (by omega)
    subst hO
    repeat' first
      | (apply p1 (hd := rfl); case hop => first | (apply D_move; rfl) | (apply D_assign; rfl) | (apply D_pc hm; rfl; exact .tok rfl .nil) | (apply D_load1; rfl) | (apply D_fld; rfl) | (apply D_int; rfl; rfl; rfl) | (apply D_ext; rfl; rfl) | (apply D_loadW; rfl; rfl) | (apply D_beq; rfl; rfl) | (apply D_idxAn; rfl; rfl; (first | omega | (simp; done))) | (apply D_lit; rfl; rfl; rfl; rfl) | exact D_build rfl)
      | refine W_seq ?_
      | refine W_region ?_
      | (refine idC ?_; refine cs rfl (fun _ => ?_) (fun _ => ?_))
      | refine WL_nil ?_
      | refine tn ?_
      | refine bn ?_
      | refine te ?_
      | (refine idB ?_; refine bh rfl ?_)
      | refine W_skip ?_
      | refine W_block ?_
      | refine W_exit ?_
      | refine W_ret ?_
      | (refine idR ?_; refine ret1 rfl rfl rfl ?_)
      | (refine idA ?_; refine m_var rfl rfl rfl rfl rfl rfl rfl ?_)
      | (refine idAp ?_; refine m_appB rfl rfl rfl (by first | rfl | assumption | exact get_set (by assumption) | exact get_set (get_set (by assumption)) | exact get_set (get_set (get_set (by assumption))) | ((repeat first | assumption | exact get_last | (refine get_last2 ?_; focus (simp; done)) | apply get_set | apply get_app | (apply get_ne; focus omega)); done)) ?_ rfl rfl ?_ ?_ rfl ?_; (first | rfl | focus (simp only [List.length_map, List.length_append, List.length_cons, List.length_nil]; omega) | focus (simp; done) | focus (simp; omega)); (first | focus (simp only [List.length_map, List.length_append, List.length_cons, List.length_nil]; omega) | focus (simp; done) | focus (simp; omega)); (first | focus (simp only [List.length_map, List.length_append, List.length_cons, List.length_nil]; omega) | focus (simp; done) | focus (simp; omega)))
      | fail
    all_goals first
      | (exfalso; omega)
      | exact Le.of_eq rfl
      | skip
    all_goals trace_state
theorem said_part : ∀ l : List Dat, (saidL l true).length + (saidL l false).length = l.length
  | [] => rfl
  | d :: l => by
    have ih := said_part l
    unfold saidL at *
    rw [List.length_map, List.length_map] at *
    cases hd : d.add <;> simp [List.filter_cons, hd] at ih ⊢ <;> omega
theorem tn_len (now : List Sp) (l : List Dat) : (tnL now l).length ≤ now.length + l.length + 1 := by
  have h1 := min_len (canS (now ++ canS (saidL l true))) (canS (saidL l false))
  have h2 := canS_len (now ++ canS (saidL l true))
  have h3 := canS_len (saidL l true)
  have h4 := canS_len (saidL l false)
  have h5 := said_part l
  rw [List.length_append] at h2
  unfold tnL; omega
theorem tn_set {now : List Sp} {l : List Dat} (hn : SetP now) (hok : okD l) : SetP (canS (now ++ canS (saidL l true))) ∧ SetP (canS (saidL l true)) ∧ SetP (canS (saidL l false)) :=
  ⟨(or_ok hn (canS_ok (saidL_ne hok true)).1).1, (canS_ok (saidL_ne hok true)).1, (canS_ok (saidL_ne hok false)).1⟩
set_option maxHeartbeats 8000000 in
theorem turned_pc [GlobF Tryz.prog] (now : List Sp) (l : List Dat) (hn : SetP now) (hok : okD l) (hl : now.length + 2 * l.length + 1 < 8796093022208) : PC Tryz.prog 49 [sl2 now, sl9 l] (.tu [sl2 (tnL now l), .sc (.bool (dP ((bothL l).length = 0)))]) := by
  obtain ⟨h1, h2, h3⟩ := tn_set hn hok
  have l1 := canS_len (saidL l true)
  have l2 := canS_len (saidL l false)
  have l3 := saidL_len l true
  have l4 := saidL_len l false
  have l5 := canS_len (now ++ canS (saidL l true))
  rw [List.length_append] at l5
  have f1 := fsaid_pc l true (by omega) hok
  have f2 := fsaid_pc l false (by omega) hok
  have f3 := sand_pc _ _ h2 h3 (by omega) (by omega)
  have f4 := sor_pc now _ hn h2 (by omega) (by omega)
  have f5 := sminus_pc _ _ h1 h3 (by omega) (by omega)
  refine PC.of_body Tryz.func49 Tryz.ntmps49 rfl rfl rfl ?_
  repeat' first
    | (apply p1 (hd := rfl); case hop => first | (apply D_move; rfl) | (apply D_assign; rfl) | (apply D_pc f1; rfl; exact .same rfl (.same rfl .nil)) | (apply D_pc f2; rfl; exact .same rfl (.same rfl .nil)) | (apply D_pc f3; rfl; exact .same rfl (.same rfl .nil)) | (apply D_pc f4; rfl; exact .same rfl (.same rfl .nil)) | (apply D_pc f5; rfl; exact .same rfl (.same rfl .nil)) | (apply D_int; rfl; rfl; rfl) | (apply D_lenM; rfl) | (apply D_ext; rfl; rfl))
    | refine W_seq ?_
    | refine W_region ?_
    | refine WL_nil ?_
    | refine tn ?_
    | refine W_ret ?_
    | (refine idR ?_; refine ret2 rfl rfl rfl rfl ?_ ?_)
    | refine Le.bool ?_
    | fail
  all_goals first
    | exact Le.of_eq rfl
    | (refine dP_eq ?_; rw [iEq_t]; exact ⟨fun e => Int.ofNat.inj e, fun e => congrArg Int.ofNat e⟩)
    | skip
  all_goals trace_state
set_option maxHeartbeats 4000000 in
theorem groups_ac [GlobF Tryz.prog] (l : List Dat) (whole : Bool) (h : List AObj) : AC Tryz.prog 48 [sl9 l, .sc (.bool whole)] h (fun v h' => v = .fn (.func 82) [] [.bp h.length 0, .ep [.sc (.bool whole)]] ∧ h' = h ++ [.cells [sl9 l]]) := by
  refine AC.of_body Tryz.func48 Tryz.ntmps48 rfl rfl rfl ?_
  repeat' first
    | (refine m_box (d := 2) rfl rfl rfl ?_)
    | (apply p1 (hd := rfl); case hop => first | (apply D_assign; rfl) | (apply D_box; rfl; rfl) | exact D_mkfn rfl)
    | refine W_seq ?_
    | refine W_region ?_
    | refine WL_nil ?_
    | refine tn ?_
    | refine W_ret ?_
    | fail
  exact retK1 (.inl rfl) rfl rfl (ResO.tmp rfl) ⟨rfl, rfl⟩
end Go.Proofs

namespace Go.Proofs
open Go.AL Go.Sort
attribute [local irreducible] Go.AL.W Go.AL.WL Go.AL.WD Go.AL.POp Go.AL.PPOp Go.AL.POpS Go.AL.PC Go.AL.AC Go.AL.YW Go.AL.Ret Go.AL.Le Go.AL.thn Go.AL.inBlk Go.AL.scp
set_option maxHeartbeats 16000000 in
theorem groups1_ac [GlobF Tryz.prog] (whole : Bool) (l q : Nat) (I : List Dat → List AObj → Prop) (Stop : List AObj → Prop) {h0 : List AObj} {r0 : List Dat} (hr0 : r0.length < 4611686018427387904) (hI : I r0 h0)
    (hb : ∀ r h, I r h → h[q]? = some (.cells [sl9 r]))
    (hy : ∀ r h n, I r h → 0 < n → n ≤ r.length → grpL (grP whole) r = r.take n :: grpL (grP whole) (r.drop n) → YW Tryz.prog l [sl9 (r.take n)] h (fun bo h' => (bo = true ∧ h'[q]? = some (.cells [sl9 r]) ∧ I (r.drop n) (h'.set q (.cells [sl9 (r.drop n)]))) ∨ (bo = false ∧ Stop h'))) :
    AC Tryz.prog 82 [.sc (.func (.yield l) #[] #[]), .bp q 0, .ep [.sc (.bool whole)]] h0 (fun _ h' => I [] h' ∨ Stop h') := by
  refine AC.of_body Tryz.func82 Tryz.ntmps82 rfl rfl rfl ?_
  repeat' first
    | refine W_seq ?_
    | refine tn ?_
    | refine W_block ?_
    | refine W_label ?_
    | refine W_scope ?_
    | fail
  refine W_loopL (X := List Dat × List AObj) (fun _ => [(0, .sc (.func (.yield l) #[] #[])), (1, .bp q 0), (2, .ep [.sc (.bool whole)])]) (fun x => x.2)
    (fun x => I x.1 x.2 ∧ x.1.length ≤ r0.length) (fun x => x.1.length) (r0, h0) ⟨hI, Nat.le_refl _⟩ ⟨rfl, rfl, rfl, trivial⟩ rfl ?_
  rintro ⟨r, h⟩ ⟨hI, hlen⟩
  simp only at hI hlen ⊢
  have hq := hb r h hI
  by_cases hr : r.length = 0
  · have e : r = [] := List.length_eq_zero_iff.1 hr
    subst e
    repeat' first
      | (apply p1 (hd := rfl); case hop => first | (apply D_assign; rfl) | (apply D_int; rfl; rfl; rfl) | (apply D_lenM; rfl))
      | refine W_seq ?_
      | refine W_region ?_
      | (refine idC ?_; refine cs rfl (fun _ => ?_) (fun _ => ?_))
      | refine WL_nil ?_
      | refine tn ?_
      | refine te ?_
      | (refine idB ?_; refine bh rfl ?_)
      | refine W_skip ?_
      | refine W_block ?_
      | refine W_exit ?_
      | refine sn ?_
      | (refine idLd ?_; refine p1L (D_loadB1 rfl (by (repeat first | assumption | exact get_last | (refine get_last2 ?_; focus (simp; done)) | apply get_set | apply get_app | (apply get_ne; focus omega) | (apply get_ne; focus (simp only [List.length_set, List.length_append, List.length_cons, List.length_nil]; omega))); done) (by rfl)) rfl ?_)
      | fail
    all_goals first
      | exact ret0 (.inr rfl) rfl rfl (.inl hI)
      | (exfalso; simp at *; done)
      | skip
    all_goals trace_state
  · have hr1 : 0 < r.length := Nat.pos_of_ne_zero hr
    repeat' first
      | (apply p1 (hd := rfl); case hop => first | (apply D_assign; rfl) | (apply D_int; rfl; rfl; rfl) | (apply D_lenM; rfl))
      | refine W_seq ?_
      | refine W_region ?_
      | (refine idC ?_; refine cs rfl (fun _ => ?_) (fun _ => ?_))
      | refine WL_nil ?_
      | refine tn ?_
      | refine te ?_
      | (refine idB ?_; refine bh rfl ?_)
      | refine W_skip ?_
      | refine W_block ?_
      | refine W_exit ?_
      | refine sn ?_
      | (refine idLd ?_; refine p1L (D_loadB1 rfl (by (repeat first | assumption | exact get_last | (refine get_last2 ?_; focus (simp; done)) | apply get_set | apply get_app | (apply get_ne; focus omega) | (apply get_ne; focus (simp only [List.length_set, List.length_append, List.length_cons, List.length_nil]; omega))); done) (by rfl)) rfl ?_)
      | fail
    all_goals first
      | (exfalso; omega)
      | skip
    refine W_loopL (X := Nat) (fun n => [(0, .sc (.func (.yield l) #[] #[])), (1, .bp q 0), (2, .ep [.sc (.bool whole)]), (4, .sc (.int .i64 (n : Int)))]) (fun _ => h)
      (fun n => 1 ≤ n ∧ n ≤ r.length ∧ ∀ (j : Nat) (h : j < r.length), 1 ≤ j → j < n → grP whole (r[0]'hr1) r[j]) (fun n => r.length - n) 1 ⟨Nat.le_refl _, hr1, fun j h h1 h2 => by omega⟩ ⟨rfl, rfl, rfl, rfl, trivial⟩ rfl ?_
    rintro n ⟨h1, h2, hz⟩
    have hyn := fun (hn : ∀ h : n < r.length, ¬ grP whole (r[0]'hr1) r[n]) => hy r h n hI (by omega) h2 (grp_at (by omega) h2 hz hn)
    have hnext : ∀ hn : n < r.length, grP whole (r[0]'hr1) r[n] → ∀ (j : Nat) (h : j < r.length), 1 ≤ j → j < n + 1 → grP whole (r[0]'hr1) r[j] := fun hn k j hj h1 h2 => by
      by_cases e : j = n
      · subst e; exact k
      · exact hz j hj h1 (by omega)
    have hnt : Value.bool (bNot true) = .bool false := by simp [bNot]
    have hnf : Value.bool (bNot false) = .bool true := by simp [bNot]
    cases whole
    all_goals
      repeat' first
        | (refine dL q (fun hp' hs => D_loadB1 rfl (hs.trans hq) rfl) rfl ?_)
        | (apply p1 (hd := rfl); case hop => first | (apply D_move; rfl) | (apply D_assign; rfl) | exact D_sc (D_not rfl) hnt | exact D_sc (D_not rfl) hnf | (apply D_int; rfl; rfl; rfl) | (apply D_slVhM; rfl; rfl; all_goals first | omega | ((repeat rw [w64 _ (by omega) (by omega)]); omega) | decide) | (apply D_slVlM; rfl; rfl; all_goals first | omega | ((repeat rw [w64 _ (by omega) (by omega)]); omega) | decide))
        | refine W_seq ?_
        | refine W_region ?_
        | (refine idC ?_; first | refine c1 rfl ?_ | refine c0 rfl ?_ | refine cs rfl (fun _ => ?_) (fun _ => ?_))
        | refine WL_nil ?_
        | refine tn ?_
        | refine bn ?_
        | refine te ?_
        | (refine idB ?_; first | refine bh rfl ?_ | refine bm rfl ?_)
        | refine W_skip ?_
        | refine W_block ?_
        | refine W_exit ?_
        | refine sn ?_
        | (refine idLd ?_; refine p1L (D_loadB1 rfl (by (repeat first | assumption | exact get_last | (refine get_last2 ?_; focus (simp; done)) | apply get_set | apply get_app | (apply get_ne; focus omega) | (apply get_ne; focus (simp only [List.length_set, List.length_append, List.length_cons, List.length_nil]; omega))); done) (by rfl)) rfl ?_)
        | (refine idS ?_; refine pS (S_store rfl rfl rfl (by (repeat first | assumption | exact get_last | (refine get_last2 ?_; focus (simp; done)) | apply get_set | apply get_app | (apply get_ne; focus omega) | (apply get_ne; focus (simp only [List.length_set, List.length_append, List.length_cons, List.length_nil]; omega))); done) (by rfl) (by rfl) (by rfl)) ?_)
        | (refine m_yield rfl rfl rfl (hyn (by first | (intro h; exfalso; omega) | (intro _ g; exact absurd g.1 (by assumption)) | (rintro _ ⟨_, g⟩; exact g.elim (fun g => Bool.noConfusion g) (fun g => absurd g (by assumption))))) ?_; rintro bo h' (⟨rfl, hq', hI'⟩ | ⟨rfl, hS⟩))
        | (refine idW ?_; refine W_draw0 rfl ?_)
        | (apply d1 (hd := rfl); case hop => first | (apply D_move; rfl) | (apply D_pc (alike_pc (r[0]'hr1) (r[n]'(by omega))); rfl; exact .same rfl (.same rfl .nil)) | (apply D_load1; rfl) | (apply D_fld; rfl) | (apply D_pickT; rfl; rfl) | (apply D_pickF; rfl; rfl) | (apply D_int; rfl; rfl; rfl) | (apply D_lenM; rfl) | (apply D_loadW; rfl; rfl) | (apply D_idxAn; rfl; rfl; (first | omega | (simp; done))))
        | (refine idDg ?_; first | refine dg0t rfl rfl rfl ?_ | refine dg0f rfl rfl rfl ?_ | refine dg0u rfl rfl rfl ?_ | refine dgr rfl rfl ?_ | refine dgs rfl rfl (fun _ => ?_) (fun _ => ?_))
        | refine WD_nil (by first | decide +kernel | kernel_rfl | rfl) ?_
        | fail
    all_goals first
      | exact ret0 (.inr rfl) rfl rfl (.inr hS)
      | exact ⟨rfl, n + 1, ⟨by omega, by omega, hnext (by omega) ⟨by assumption, .inl rfl⟩⟩, by omega, ⟨rfl, rfl, rfl, ieq (wsucc n (by omega)), trivial⟩, rfl⟩
      | exact ⟨rfl, n + 1, ⟨by omega, by omega, hnext (by omega) ⟨by assumption, .inr (by assumption)⟩⟩, by omega, ⟨rfl, rfl, rfl, ieq (wsucc n (by omega)), trivial⟩, rfl⟩
      | exact ⟨rfl, (r.drop n, h'.set q (.cells [sl9 (r.drop n)])), ⟨hI', by simp; omega⟩, by simp; omega, ⟨rfl, rfl, rfl, trivial⟩, rfl⟩
      | skip
    all_goals trace_state
end Go.Proofs

namespace Go.Proofs
open Go.AL Go.Sort
attribute [local irreducible] Go.AL.W Go.AL.WL Go.AL.WD Go.AL.POp Go.AL.PPOp Go.AL.POpS Go.AL.PC Go.AL.AC Go.AL.YW Go.AL.Ret Go.AL.Le Go.AL.thn Go.AL.inBlk Go.AL.scp
noncomputable def foldR (l : List Dat) : Option (List Fac) := if dP (∀ d, d ∈ l → dmayP d) = true then foldG (grpL (grP true) (dsortL 1 l)) else none
theorem foldT_cons (now : List Sp) (x : List Dat) (xs : List (List Dat)) : foldT now (x :: xs) = if (bothL x).length = 0 then foldT (tnL now x) xs else none := rfl
def oneF (g : List Dat) (sp : List Sp) : List Fac := if sp.length = 0 then [] else [⟨(g.headD dat0).e, (g.headD dat0).a, (g.headD dat0).v, sp⟩]
theorem foldG_ok {S r : List Dat} {n : Nat} {o : List Fac} {sp : List Sp} (hJ : foldG (grpL (grP true) S) = (foldG (grpL (grP true) r)).map (o ++ ·)) (hg : grpL (grP true) r = r.take n :: grpL (grP true) (r.drop n)) (hs : foldT [] (grpL (grP false) (r.take n)) = some sp) :
    foldG (grpL (grP true) S) = (foldG (grpL (grP true) (r.drop n))).map ((o ++ oneF (r.take n) sp) ++ ·) := by
  rw [hJ, hg]
  simp only [foldG, hs]
  cases foldG (grpL (grP true) (r.drop n)) with
  | none => rfl
  | some x => simp [oneF]
theorem foldG_no {S r : List Dat} {n : Nat} {o : List Fac} (hJ : foldG (grpL (grP true) S) = (foldG (grpL (grP true) r)).map (o ++ ·)) (hg : grpL (grP true) r = r.take n :: grpL (grP true) (r.drop n)) (hs : foldT [] (grpL (grP false) (r.take n)) = none) :
    foldG (grpL (grP true) S) = none := by
  rw [hJ, hg]
  simp only [foldG, hs]
  rfl
theorem dsort_mem (o : Int) (l : List Dat) (d : Dat) (h : d ∈ dsortL o l) : d ∈ l := by
  unfold dsortL at h
  split at h
  · exact (List.mem_filter.1 ((sortC_mem _ _ _).1 h)).1
  · simp at h
theorem set_last {A : List AObj} {x y : AObj} : (A ++ [x]).set A.length y = A ++ [y] := by simp
theorem set0 {A E : List AObj} {x y z w : AObj} : (A ++ [x] ++ [y] ++ [z] ++ E).set A.length w = A ++ [w] ++ [y] ++ [z] ++ E := by simp
theorem set1 {A E : List AObj} {x y z w : AObj} : (A ++ [x] ++ [y] ++ [z] ++ E).set (A.length + 1) w = A ++ [x] ++ [w] ++ [z] ++ E := by simp [List.set_append]
theorem set2 {A E : List AObj} {x y z w : AObj} : (A ++ [x] ++ [y] ++ [z] ++ E).set (A.length + 2) w = A ++ [x] ++ [y] ++ [w] ++ E := by simp [List.set_append]
theorem get1 {A E : List AObj} {x y z : AObj} : (A ++ [x] ++ [y] ++ [z] ++ E)[A.length + 1]? = some y := by simp [List.getElem?_append]
theorem get2 {A E : List AObj} {x y z : AObj} : (A ++ [x] ++ [y] ++ [z] ++ E)[A.length + 2]? = some z := by simp [List.getElem?_append]
theorem roundQ_hq {P : Program} [GlobF P] {r l N : Nat} {ps : Array Tmp} {assign body : Code} {rg rg1 : List (Nat × AV)} {K : Bool → List AObj → Prop} {e : Exit} {h h' : List AObj} {mk : Mk} (eh : h = h') (hk : mk.l = [] ∧ RoundQ r l N ps assign body rg K e ⟨rg1, h', mk⟩) : mk.l = [] ∧ RoundQ r l N ps assign body rg K e ⟨rg1, h, mk⟩ := eh ▸ hk
def rgD (l : List Dat) : Prop := ∀ d, d ∈ l → loT ≤ d.fr ∧ d.to ≤ hiT
theorem said_rng {l : List Dat} (hok : okD l) (hr : rgD l) (b : Bool) : ∀ x, inS (saidL l b) x → loT ≤ x ∧ x < hiT := fun x ⟨s, hs, h1, h2⟩ => by
  unfold saidL at hs
  obtain ⟨d, hd, rfl⟩ := List.mem_map.1 hs
  have := hr d (List.mem_filter.1 hd).1
  simp only at h1 h2
  omega
theorem tn_ok {now : List Sp} {l : List Dat} (hn : SetP now) (rn : rngS now) (hok : okD l) (hr : rgD l) : SetP (tnL now l) ∧ rngS (tnL now l) ∧ ∀ x, inS (tnL now l) x ↔ ((inS now x ∨ inS (saidL l true) x) ∧ ¬ inS (saidL l false) x) := by
  obtain ⟨a1, a2⟩ := canS_ok (saidL_ne hok true)
  obtain ⟨b1, b2⟩ := canS_ok (saidL_ne hok false)
  obtain ⟨c1, c2⟩ := or_ok hn a1
  have rc : ∀ x, inS (canS (now ++ canS (saidL l true))) x → loT ≤ x ∧ x < hiT := fun x hx => by
    rcases (c2 x).1 hx with h | h
    · exact rng_in rn h
    · exact said_rng hok hr true x ((a2 x).1 h)
  obtain ⟨d1, d2⟩ := min_ok c1 b1 rc (rng_of b1 fun x hx => said_rng hok hr false x ((b2 x).1 hx))
  exact ⟨d1, rng_of d1 fun x hx => rc x ((d2 x).1 hx).1, fun x => by rw [show inS (tnL now l) x ↔ _ from d2 x, c2, a2, b2]⟩
abbrev fce (d : Dat) (c : AV) : List AV := [.sc (.int .i64 d.e), .sc (.int .i64 d.a), .sc (.int .i64 d.v.kind), .sc (.int .i64 d.v.n), str d.v.s, c]
abbrev HF (e : Int) (o : List Fac) (r : List Dat) (X1 X2 : AObj) : List AObj := [.cells [.sc (.slice none 0 0)], .cells [.sc (.int .i64 e)], .cells [.sl (some 3) 6 (o.map fC)], .tail o.length 6 42, .cells [sl9 r], X1, X2]
theorem HF_snoc (e : Int) (o : List Fac) (f : Fac) (r : List Dat) (X1 X2 : AObj) : HF e (o ++ [f]) r X1 X2 = [.cells [.sc (.slice none 0 0)], .cells [.sc (.int .i64 e)], .cells [.sl (some 3) 6 (o.map fC ++ [fC f])], .tail ((o.map fC).length + 1) 6 42, .cells [sl9 r], X1, X2] := by simp [HF]
set_option maxHeartbeats 64000000 in
theorem fold_pc [GlobF Tryz.prog] (l : List Dat) (hl : l.length < 1759218604500) (hsl : ∀ d, d ∈ l → d.v.s.length < 9223372036854775808) (hrg : rgD l) : PC Tryz.prog 23 [sl9 l] (.tu [sl6 ((foldR l).getD []), .sc (.int .i64 (if (foldR l).isSome then 0 else 60))]) := by
  have hS := dsort_pc 1 l hl
  have hSl := dsortL_len 1 l
  have hSm := dsort_mem 1 l
  refine PC.of_body Tryz.func23 Tryz.ntmps23 rfl rfl rfl ?_
  repeat' first
    | (apply p1 (hd := rfl); case hop => first | (apply D_move; rfl) | (apply D_lenM; rfl))
    | refine W_seq ?_
    | refine W_region ?_
    | refine WL_nil ?_
    | refine tn ?_
    | refine W_block ?_
    | (refine idA ?_; refine m_alloc rfl ?_)
    | fail
  refine W_loopL (X := Nat) (fun i => [(0, sl9 l), (2, .bp 0 0), (3, .bp 1 0), (12, sl9 l), (13, .sc (.int .i64 (l.length : Int))), (14, .sc (.int .i64 (i : Int)))]) (fun _ => [.cells [.sc (.slice none 0 0)], .cells [.sc (.int .i64 0)]])
    (fun i => i ≤ l.length ∧ ∀ (j : Nat) (h : j < l.length), j < i → dmayP l[j]) (fun i => l.length - i) 0 ⟨Nat.zero_le _, fun j h hj => absurd hj (Nat.not_lt_zero j)⟩ ⟨rfl, rfl, rfl, rfl, rfl, rfl, trivial⟩ rfl ?_
  rintro i ⟨hi, hz⟩
  by_cases hil : i < l.length
  · have hc := dcheck_pc (l[i]'hil) (hsl _ (List.getElem_mem _))
    by_cases hm : dmayP (l[i]'hil)
    · rw [← dP_T hm, if_pos rfl] at hc
      repeat' first
        | (apply p1 (hd := rfl); case hop => first | (apply D_move; rfl) | (apply D_pc hc; rfl; exact .same rfl .nil) | (apply D_int; rfl; rfl; rfl) | (apply D_loadW; rfl; rfl) | (apply D_idxAn; rfl; rfl; (first | omega | (simp; done))))
        | refine W_seq ?_
        | refine W_region ?_
        | (refine idC ?_; refine cs rfl (fun _ => ?_) (fun _ => ?_))
        | refine WL_nil ?_
        | refine tn ?_
        | refine tr ?_
        | refine br ?_
        | refine bn ?_
        | refine te ?_
        | (refine idB ?_; refine bh rfl ?_)
        | refine W_skip ?_
        | refine W_block ?_
        | refine W_exit ?_
        | refine W_ret ?_
        | (refine idR ?_; refine rL2 rfl (by first | exact trivial | exact ⟨rfl, trivial⟩) (by first | exact ResO.tmp rfl | exact ResO.cellBA rfl rfl rfl | exact ResO.cellB1 rfl rfl rfl | exact ResO.cellEA rfl rfl | exact ResO.cellE1 rfl) (by first | exact ResO.tmp rfl | exact ResO.cellBA rfl rfl rfl | exact ResO.cellB1 rfl rfl rfl | exact ResO.cellEA rfl rfl | exact ResO.cellE1 rfl) ?_ ?_)
        | (refine idA ?_; first | refine m_var rfl rfl rfl rfl rfl rfl rfl ?_ | refine m_alloc rfl ?_)
        | (refine idS ?_; refine pS (S_store rfl rfl rfl rfl rfl rfl rfl) ?_)
        | refine Le.int ?_
        | fail
      all_goals first
        | contradiction
        | (exfalso; omega)
        | (refine ⟨rfl, i + 1, ⟨by omega, fun j h hj => ?_⟩, by omega, ⟨rfl, rfl, rfl, rfl, rfl, ieq (wsucc i (by omega)), trivial⟩, rfl⟩
           by_cases e : j = i
           · subst e; exact hm
           · exact hz j h (by omega))
        | skip
      all_goals trace_state
    · rw [← dP_F hm, if_neg (by decide)] at hc
      have hR : foldR l = none := by
        unfold foldR
        rw [← dP_F (fun h => hm (h _ (List.getElem_mem _))), if_neg (by decide)]
      rw [hR]
      repeat' first
        | (apply p1 (hd := rfl); case hop => first | (apply D_move; rfl) | (apply D_pc hc; rfl; exact .same rfl .nil) | (apply D_int; rfl; rfl; rfl) | (apply D_loadW; rfl; rfl) | (apply D_idxAn; rfl; rfl; (first | omega | (simp; done))))
        | refine W_seq ?_
        | refine W_region ?_
        | (refine idC ?_; refine cs rfl (fun _ => ?_) (fun _ => ?_))
        | refine WL_nil ?_
        | refine tn ?_
        | refine tr ?_
        | refine br ?_
        | refine bn ?_
        | refine te ?_
        | (refine idB ?_; refine bh rfl ?_)
        | refine W_skip ?_
        | refine W_block ?_
        | refine W_exit ?_
        | refine W_ret ?_
        | (refine idR ?_; refine rL2 rfl (by first | exact trivial | exact ⟨rfl, trivial⟩) (by first | exact ResO.tmp rfl | exact ResO.cellBA rfl rfl rfl | exact ResO.cellB1 rfl rfl rfl | exact ResO.cellEA rfl rfl | exact ResO.cellE1 rfl) (by first | exact ResO.tmp rfl | exact ResO.cellBA rfl rfl rfl | exact ResO.cellB1 rfl rfl rfl | exact ResO.cellEA rfl rfl | exact ResO.cellE1 rfl) ?_ ?_)
        | (refine idA ?_; first | refine m_var rfl rfl rfl rfl rfl rfl rfl ?_ | refine m_alloc rfl ?_)
        | (refine idS ?_; refine pS (S_store rfl rfl rfl rfl rfl rfl rfl) ?_)
        | refine Le.int ?_
        | fail
      all_goals first
        | contradiction
        | (exfalso; omega)
        | exact Le.nil rfl
        | rfl
        | skip
      all_goals trace_state
  · have hall : ∀ d, d ∈ l → dmayP d := fun d hd => by
      obtain ⟨j, hj, rfl⟩ := List.getElem_of_mem hd
      exact hz j hj (by omega)
    have hR : foldR l = foldG (grpL (grP true) (dsortL 1 l)) := by unfold foldR; rw [← dP_T hall, if_pos rfl]
    rw [hR]
    have hok : ∀ d, d ∈ dsortL 1 l → d.fr < d.to := fun d hd => (hall d (hSm d hd)).2.2.2.2.2.2.2
    have hrS : ∀ d, d ∈ dsortL 1 l → loT ≤ d.fr ∧ d.to ≤ hiT := fun d hd => hrg d (hSm d hd)
    generalize dsortL 1 l = S at *
    repeat' first
      | (refine WL_adoptC 2 0 6 42 rfl rfl ?_)
      | (apply p1 (hd := rfl); case hop => first | (apply D_move; rfl) | (apply D_pc hS; rfl; exact .same rfl (.same rfl .nil)) | (apply D_int; rfl; rfl; rfl) | (apply D_loadW; rfl; rfl) | (apply D_idxAn; rfl; rfl; (first | omega | (simp; done))))
      | refine W_seq ?_
      | refine W_region ?_
      | (refine idC ?_; refine cs rfl (fun _ => ?_) (fun _ => ?_))
      | refine WL_nil ?_
      | refine tn ?_
      | refine te ?_
      | (refine idB ?_; refine bh rfl ?_)
      | refine W_skip ?_
      | refine W_block ?_
      | refine W_exit ?_
      | (refine idA ?_; first | refine m_var rfl rfl rfl rfl rfl rfl rfl ?_ | refine m_alloc rfl ?_)
      | (refine m_call (d := 24) (groups_ac S true _) rfl rfl rfl ?_; rintro _ _ ⟨rfl, rfl⟩)
      | fail
    · exfalso; omega
    refine W_weak (s' := ⟨[(2, .bp 0 0), (3, .bp 1 0), (6, .bp 2 0), (24, .fn (.func 82) [] [.bp 4 0, .ep [.sc (.bool true)]])], [.cells [.sc (.slice none 0 0)], .cells [.sc (.int .i64 0)], .cells [.sl (some 3) 6 []], .tail 0 6 42, .cells [sl9 S]], ⟨[], 0⟩⟩) ⟨⟨rfl, rfl, rfl, rfl, trivial⟩, rfl, rfl⟩ ?_
    refine W_rangeX (.inl rfl) fun l1 X hX => ?_
    refine AC.mono (groups1_ac true l1 4 (fun r h => ∃ o ex, h = HF 0 o r (.raw (.deferred (some []))) (X .ready none) ++ ex ∧ foldG (grpL (grP true) S) = (foldG (grpL (grP true) r)).map (o ++ ·) ∧ o.length + r.length ≤ S.length ∧ ∃ k, r = S.drop k)
      (fun h => foldG (grpL (grP true) S) = none ∧ ∃ o r ex, h = HF 60 o r (.raw (.deferred (some []))) (X .done (some .ret)) ++ ex) (r0 := S) (by omega) ⟨[], [], rfl, ?_, by simp, 0, rfl⟩ ?_ ?_) ?_
    · cases foldG (grpL (grP true) S) <;> rfl
    · rintro r h ⟨o, ex, rfl, _⟩; rfl
    · rintro r h n ⟨o, ex, rfl, hJ, hlen, k, hk⟩ hn0 hn1 hg
      refine YW.round (r := 6) (ps := [25]) ((show _ = some (X .ready none) from rfl).trans (congrArg some (hX .ready none))) rfl rfl ?_
      repeat' first
        | (apply p1 (hd := rfl); case hop => (apply D_assign; rfl))
        | refine W_region ?_
        | refine WL_nil ?_
        | fail
      refine ⟨rfl, (show _ = some (X .ready none) from rfl).trans (congrArg some (hX .ready none)), ?_⟩
      refine W_hq (h' := HF 0 o r (.raw (.deferred (some []))) (X .busy none) ++ ex) (by rw [hX .busy none]; rfl) ?_
      generalize hgd : r.take n = g at *
      obtain ⟨d0, hd0⟩ : ∃ d0, d0 = g.headD dat0 := ⟨_, rfl⟩
      have hgl : 0 < g.length := by rw [← hgd]; simp; omega
      have hg0 : g[0]'hgl = d0 := by rw [hd0]; cases g with
        | nil => simp at hgl
        | cons x t => rfl
      repeat' first
        | (refine idW ?_; refine W_dS1 (id := 10) 14 rfl rfl (by decide +kernel) ?_; simp only [List.take_succ_cons, List.take_zero, List.drop_succ_cons, List.drop_zero])
        | (refine dV (S_alloc _ get_last) (by simp [Nat.blt_eq]) rfl ?_)
        | (apply p1 (hd := rfl); case hop => (apply D_move; rfl))
        | refine W_seq ?_
        | refine W_region ?_
        | refine WL_nil ?_
        | refine tn ?_
        | refine W_block ?_
        | (refine idS ?_; refine pS (S_store rfl rfl rfl (by (repeat first | assumption | exact get_last | (refine get_last2 ?_; focus (simp; done)) | apply get_set | apply get_app | (apply get_ne; focus omega) | (apply get_ne; focus (simp only [List.length_set, List.length_append, List.length_cons, List.length_nil]; omega))); done) (by rfl) (by rfl) (by rfl)) ?_)
        | (apply d1 (hd := rfl); case hop => first | (apply D_move; rfl) | (apply D_load1; rfl) | (apply D_fld; rfl) | (apply D_loadA; rfl; rfl) | (apply D_idxAn; rfl; rfl; (first | omega | (simp; done))) | exact D_build rfl)
        | refine WD_nil (by first | decide +kernel | kernel_rfl | rfl) ?_
        | fail
      refine WL_hq (h' := HF 0 o r (.raw (.deferred (some []))) (X .busy none) ++ ex ++ [.cells (fce (g[0]'hgl) (.sc (.slice none 0 0)))]) (by rw [set_last, set_last]; rfl) ?_
      rw [hg0]
      repeat' first
        | refine WL_nil ?_
        | refine tn ?_
        | refine W_block ?_
        | (refine m_call (d := 40) (groups_ac g false _) rfl rfl rfl ?_; rintro _ _ ⟨rfl, rfl⟩)
        | fail
      obtain ⟨A, hA⟩ : ∃ A, A = HF 0 o r (.raw (.deferred (some []))) (X .busy none) ++ ex := ⟨_, rfl⟩
      have hgS : ∀ d, d ∈ g → d ∈ S := fun d hd => by
        rw [← hgd] at hd
        have := List.mem_of_mem_take hd
        rw [hk] at this
        exact List.mem_of_mem_drop this
      have hgn : g.length ≤ S.length := by rw [← hgd, hk]; simp; omega
      refine W_weak (s' := ⟨[(2, .bp 0 0), (3, .bp 1 0), (6, .bp 2 0), (8, .bp (HF 0 o r (.raw (.deferred (some []))) (X .busy none) ++ ex).length 0), (40, .fn (.func 82) [] [.bp ((HF 0 o r (.raw (.deferred (some []))) (X .busy none) ++ ex).length + 1) 0, .ep [.sc (.bool false)]])], HF 0 o r (.raw (.deferred (some []))) (X .busy none) ++ ex ++ [AObj.cells (fce d0 (.sc (.slice none 0 0)))] ++ [.cells [sl9 g]], ⟨[], _⟩⟩) ⟨⟨rfl, rfl, rfl, rfl, congrArg (fun n => some (AV.fn (.func 82) [] [.bp n 0, .ep [.sc (.bool false)]])) (by simp), trivial⟩, rfl, rfl⟩ ?_
      refine W_rangeNX (r0 := 6) ((show _ = some (X .busy none) from rfl).trans (congrArg some (hX .busy none))) (.inl rfl) fun l2 Y hY => ?_
      rw [show (HF 0 o r (.raw (.deferred (some []))) (X .busy none) ++ ex ++ [AObj.cells (fce d0 (.sc (.slice none 0 0)))] ++ [AObj.cells [sl9 g]]).length = (HF 0 o r (.raw (.deferred (some []))) (X .busy none) ++ ex).length + 2 from by simp]
      refine AC.mono (groups1_ac false l2 _ (fun r2 h => ∃ now c ex2, h = HF 0 o r (.raw (.deferred (some []))) (X .busy none) ++ ex ++ [.cells (fce d0 c)] ++ [.cells [sl9 r2]] ++ [Y .ready none] ++ ex2 ∧ ((c = .sc (.slice none 0 0) ∧ now = []) ∨ c = sl2 now) ∧ SetP now ∧ rngS now ∧ foldT [] (grpL (grP false) g) = foldT now (grpL (grP false) r2) ∧ now.length + 2 * r2.length ≤ 2 * g.length ∧ ∃ k, r2 = g.drop k)
        (fun h => foldT [] (grpL (grP false) g) = none ∧ ∃ c r2 ex2, h = HF 60 o r (.raw (.deferred (some []))) (X .busy none) ++ ex ++ [.cells (fce d0 c)] ++ [.cells [sl9 r2]] ++ [Y .done (some .ret)] ++ ex2) (r0 := g) (by omega) ⟨[], .sc (.slice none 0 0), [], by simp, .inl ⟨rfl, rfl⟩, .nil, fun s hs => by simp at hs, rfl, by simp, 0, rfl⟩ ?_ ?_) ?_
      · rintro r2 h ⟨now, c, ex2, rfl, _⟩; exact get1
      · rintro r2 h n2 ⟨now, c, ex2, rfl, hc, hset, hrn, hT, hl2, k2, hk2⟩ hn2 hn3 hg2
        have hx0 : ∀ d, d ∈ r2.take n2 → d ∈ g := fun d hd => by
          have := List.mem_of_mem_take hd
          rw [hk2] at this
          exact List.mem_of_mem_drop this
        have hxo : okD (r2.take n2) := fun d hd => hok d (hgS d (hx0 d hd))
        have hxr : rgD (r2.take n2) := fun d hd => hrS d (hgS d (hx0 d hd))
        have hxl : (r2.take n2).length = n2 := by simp; omega
        have htl := tn_len now (r2.take n2)
        have ht := turned_pc now (r2.take n2) hset hxo (by omega)
        obtain ⟨hts, htr, _⟩ := tn_ok hset hrn hxo hxr
        have hdl : (r2.drop n2).length = r2.length - n2 := by simp
        have hkk : ∃ k, r2.drop n2 = g.drop k := ⟨k2 + n2, by rw [hk2, List.drop_drop]⟩
        rw [hg2, foldT_cons] at hT
        generalize hxd : r2.take n2 = x at *
        refine YW.round (r := (HF 0 o r (.raw (.deferred (some []))) (X .busy none) ++ ex).length + 2) (ps := [41]) (get2.trans (congrArg some (hY .ready none))) rfl rfl ?_
        repeat' first
          | (apply p1 (hd := rfl); case hop => (apply D_assign; rfl))
          | refine W_region ?_
          | refine WL_nil ?_
          | fail
        refine ⟨rfl, get2.trans (congrArg some (hY .ready none)), ?_⟩
        refine W_hq (h' := HF 0 o r (.raw (.deferred (some []))) (X .busy none) ++ ex ++ [.cells (fce d0 c)] ++ [.cells [sl9 r2]] ++ [Y .busy none] ++ ex2) (by rw [hY .busy none, set2]) ?_
        have hnt : Value.bool (bNot true) = .bool false := by simp [bNot]
        have hnf : Value.bool (bNot false) = .bool true := by simp [bNot]
        by_cases hb0 : (bothL x).length = 0
        · rw [if_pos hb0] at hT
          rw [← dP_T hb0] at ht
          rcases hc with ⟨rfl, rfl⟩ | rfl
          all_goals
            repeat' first
              | (apply p1 (hd := rfl); case hop => first | (apply D_move; rfl) | (apply D_assign; rfl) | exact D_sc (D_not rfl) hnt | (apply D_pc ht; rfl; first | exact .same rfl (.same rfl .nil) | exact .niln rfl (.same rfl .nil)) | (apply D_ext; rfl; rfl) | exact D_fldB rfl)
              | refine W_seq ?_
              | refine W_region ?_
              | (refine idC ?_; refine c0 rfl ?_)
              | refine WL_nil ?_
              | refine tn ?_
              | refine bn ?_
              | refine W_skip ?_
              | refine W_block ?_
              | (refine idLd ?_; refine p1L (D_loadB1 rfl (by (repeat first | assumption | exact get_last | (refine get_last2 ?_; focus (simp; done)) | apply get_set | apply get_app | (apply get_ne; focus omega) | (apply get_ne; focus (simp only [List.length_set, List.length_append, List.length_cons, List.length_nil]; omega))); done) (by rfl)) rfl ?_)
              | (refine idS ?_; refine pS (S_store rfl rfl rfl (by (repeat first | assumption | exact get_last | (refine get_last2 ?_; focus (simp; done)) | apply get_set | apply get_app | (apply get_ne; focus omega) | (apply get_ne; focus (simp only [List.length_set, List.length_append, List.length_cons, List.length_nil]; omega))); done) (by rfl) (by rfl) (by rfl)) ?_)
              | fail
          all_goals
            refine roundQ_hq (P := Tryz.prog) (h' := HF 0 o r (.raw (.deferred (some []))) (X .busy none) ++ ex ++ [.cells (fce d0 (sl2 (tnL _ x)))] ++ [.cells [sl9 r2]] ++ [Y .busy none] ++ ex2) (by rw [set0]; rfl) ?_
            refine ⟨rfl, ⟨_, _, get2.trans (congrArg some (hY .busy none))⟩, .inl ⟨rfl, ?_⟩⟩
            dsimp only
            rw [← hY .ready none, set2]
            refine ⟨get1, _, _, ex2, set1, .inr rfl, hts, htr, hT, ?_, hkk⟩
            omega
        · rw [if_neg hb0] at hT
          rw [← dP_F hb0] at ht
          rcases hc with ⟨rfl, rfl⟩ | rfl
          all_goals
            repeat' first
              | (apply p1 (hd := rfl); case hop => first | (apply D_move; rfl) | (apply D_assign; rfl) | exact D_sc (D_not rfl) hnf | (apply D_pc ht; rfl; first | exact .same rfl (.same rfl .nil) | exact .niln rfl (.same rfl .nil)) | (apply D_ext; rfl; rfl) | exact D_fldB rfl)
              | refine W_seq ?_
              | refine W_region ?_
              | (refine idC ?_; refine c1 rfl ?_)
              | refine WL_nil ?_
              | refine tn ?_
              | refine tr ?_
              | refine br ?_
              | refine W_block ?_
              | refine W_ret ?_
              | (refine idLd ?_; refine p1L (D_loadB1 rfl (by (repeat first | assumption | exact get_last | (refine get_last2 ?_; focus (simp; done)) | apply get_set | apply get_app | (apply get_ne; focus omega) | (apply get_ne; focus (simp only [List.length_set, List.length_append, List.length_cons, List.length_nil]; omega))); done) (by rfl)) rfl ?_)
              | (refine idS ?_; refine pS (S_store rfl rfl rfl rfl rfl rfl rfl) ?_)
              | fail
          all_goals
            refine roundQ_hq (P := Tryz.prog) (h' := HF 60 o r (.raw (.deferred (some []))) (X .busy none) ++ ex ++ [.cells (fce d0 _)] ++ [.cells [sl9 r2]] ++ [Y .busy none] ++ ex2) rfl ?_
            refine ⟨rfl, ⟨_, _, get2.trans (congrArg some (hY .busy none))⟩, .inr ⟨rfl, hT, ?_⟩⟩
            dsimp only
            rw [← hY .done (some .ret)]
            exact ⟨_, r2, ex2, set2⟩
      · rintro v h' (⟨now, c, ex2, rfl, hc, hset, hrn, hT, hl2, _⟩ | ⟨hT, c, r2, ex2, rfl⟩)
        · refine ⟨.ready, none, get2.trans (congrArg some (hY .ready none)), by decide, ?_⟩
          dsimp only
          rw [grpL_nil] at hT
          have hT' : foldT [] (grpL (grP false) g) = some now := hT
          rw [set2]
          have hok1 := foldG_ok hJ (by rw [hgd]; exact hg) (by rw [hgd]; exact hT')
          rw [hgd] at hok1
          have hdl : (r.drop n).length = r.length - n := by simp
          have hkk : ∃ k, r.drop n = S.drop k := ⟨k + n, by rw [hk, List.drop_drop]⟩
          have hno : now.length = 0 → foldG (grpL (grP true) S) = (foldG (grpL (grP true) (r.drop n))).map (o ++ ·) := fun e => by
            rw [hok1, oneF, if_pos e, List.append_nil]
          have hyes : ¬ now.length = 0 → foldG (grpL (grP true) S) = (foldG (grpL (grP true) (r.drop n))).map ((o ++ [⟨d0.e, d0.a, d0.v, now⟩]) ++ ·) := fun e => by
            rw [hok1, oneF, if_neg e, hd0]
          rcases hc with ⟨rfl, rfl⟩ | rfl
          · repeat' first
              | (apply p1 (hd := rfl); case hop => first | (apply D_int; rfl; rfl; rfl) | (apply D_len_nil; rfl) | (apply D_lit; rfl; rfl; rfl; rfl) | exact D_fldB rfl)
              | refine W_seq ?_
              | refine W_region ?_
              | (refine idC ?_; refine cs rfl (fun _ => ?_) (fun _ => ?_))
              | refine WL_nil ?_
              | refine tn ?_
              | refine bn ?_
              | refine W_skip ?_
              | (refine idLd ?_; first | refine p1L (D_loadB1 rfl rfl rfl) rfl ?_ | refine p1L (D_loadB1 rfl (by (repeat first | assumption | exact get_last | (refine get_last2 ?_; focus (simp; done)) | apply get_set | apply get_app | (apply get_ne; focus omega) | (apply get_ne; focus (simp only [List.length_set, List.length_append, List.length_cons, List.length_nil]; omega))); done) (by rfl)) rfl ?_ | refine p1L (D_loadBA rfl (by (repeat first | assumption | exact get_last | (refine get_last2 ?_; focus (simp; done)) | apply get_set | apply get_app | (apply get_ne; focus omega) | (apply get_ne; focus (simp only [List.length_set, List.length_append, List.length_cons, List.length_nil]; omega))); done) (by rfl)) rfl ?_)
              | (refine idS ?_; refine pS (S_store rfl rfl rfl rfl rfl rfl rfl) ?_)
              | (refine idAp ?_; refine m_appB rfl rfl rfl (by first | rfl | assumption | exact get_set (by assumption) | exact get_set (get_set (by assumption)) | exact get_set (get_set (get_set (by assumption))) | ((repeat first | assumption | exact get_last | (refine get_last2 ?_; focus (simp; done)) | apply get_set | apply get_app | (apply get_ne; focus omega)); done)) ?_ rfl rfl ?_ ?_ rfl ?_; (first | rfl | focus (simp only [List.length_map, List.length_append, List.length_cons, List.length_nil]; omega) | focus (simp; done) | focus (simp; omega)); (first | focus (simp only [List.length_map, List.length_append, List.length_cons, List.length_nil]; omega) | focus (simp; done) | focus (simp; omega)); (first | focus (simp only [List.length_map, List.length_append, List.length_cons, List.length_nil]; omega) | focus (simp; done) | focus (simp; omega)))
              | fail
            all_goals first
              | (exfalso; omega)
              | skip
            refine ⟨rfl, ⟨_, _, (show _ = some (X .busy none) from rfl).trans (congrArg some (hX .busy none))⟩, .inl ⟨rfl, ?_⟩⟩
            dsimp only
            rw [← hX .ready none]
            exact ⟨rfl, o, ex ++ [.cells (fce d0 (.sc (.slice none 0 0)))] ++ [.cells [sl9 []]] ++ [.dead] ++ ex2, rfl, hno rfl, by omega, hkk⟩
          · repeat' first
              | (apply p1 (hd := rfl); case hop => first | (apply D_int; rfl; rfl; rfl) | (apply D_lenM; rfl) | (apply D_lit; rfl; rfl; rfl; rfl) | exact D_fldB rfl)
              | refine W_seq ?_
              | refine W_region ?_
              | (refine idC ?_; refine cs rfl (fun _ => ?_) (fun _ => ?_))
              | refine WL_nil ?_
              | refine tn ?_
              | refine bn ?_
              | refine W_skip ?_
              | (refine idLd ?_; first | refine p1L (D_loadB1 rfl rfl rfl) rfl ?_ | refine p1L (D_loadB1 rfl (by (repeat first | assumption | exact get_last | (refine get_last2 ?_; focus (simp; done)) | apply get_set | apply get_app | (apply get_ne; focus omega) | (apply get_ne; focus (simp only [List.length_set, List.length_append, List.length_cons, List.length_nil]; omega))); done) (by rfl)) rfl ?_ | refine p1L (D_loadBA rfl (by (repeat first | assumption | exact get_last | (refine get_last2 ?_; focus (simp; done)) | apply get_set | apply get_app | (apply get_ne; focus omega) | (apply get_ne; focus (simp only [List.length_set, List.length_append, List.length_cons, List.length_nil]; omega))); done) (by rfl)) rfl ?_)
              | (refine idS ?_; refine pS (S_store rfl rfl rfl rfl rfl rfl rfl) ?_)
              | (refine idAp ?_; refine m_appB rfl rfl rfl (by first | rfl | assumption | exact get_set (by assumption) | exact get_set (get_set (by assumption)) | exact get_set (get_set (get_set (by assumption))) | ((repeat first | assumption | exact get_last | (refine get_last2 ?_; focus (simp; done)) | apply get_set | apply get_app | (apply get_ne; focus omega)); done)) ?_ rfl rfl ?_ ?_ rfl ?_; (first | rfl | focus (simp only [List.length_map, List.length_append, List.length_cons, List.length_nil]; omega) | focus (simp; done) | focus (simp; omega)); (first | focus (simp only [List.length_map, List.length_append, List.length_cons, List.length_nil]; omega) | focus (simp; done) | focus (simp; omega)); (first | focus (simp only [List.length_map, List.length_append, List.length_cons, List.length_nil]; omega) | focus (simp; done) | focus (simp; omega)))
              | fail
            all_goals first
              | (have e : now.length = 0 := by omega
                 refine ⟨rfl, ⟨_, _, (show _ = some (X .busy none) from rfl).trans (congrArg some (hX .busy none))⟩, .inl ⟨rfl, ?_⟩⟩
                 dsimp only
                 rw [← hX .ready none]
                 exact ⟨rfl, o, ex ++ [.cells (fce d0 (sl2 now))] ++ [.cells [sl9 []]] ++ [.dead] ++ ex2, rfl, hno e, by omega, hkk⟩)
              | (have e : ¬ now.length = 0 := by omega
                 refine roundQ_hq (P := Tryz.prog) (h' := HF 0 (o ++ [⟨d0.e, d0.a, d0.v, now⟩]) r (.raw (.deferred (some []))) (X .busy none) ++ (ex ++ [.cells (fce d0 (sl2 now))] ++ [.cells [sl9 []]] ++ [.dead] ++ ex2)) (by rw [HF_snoc]; rfl) ?_
                 refine ⟨rfl, ⟨_, _, (show _ = some (X .busy none) from rfl).trans (congrArg some (hX .busy none))⟩, .inl ⟨rfl, ?_⟩⟩
                 dsimp only
                 rw [← hX .ready none]
                 refine ⟨rfl, o ++ [⟨d0.e, d0.a, d0.v, now⟩], ex ++ [.cells (fce d0 (sl2 now))] ++ [.cells [sl9 []]] ++ [.dead] ++ ex2, rfl, hyes e, ?_, hkk⟩
                 rw [List.length_append, List.length_singleton]; omega)
              | skip
            all_goals trace_state
        · refine ⟨.done, some .ret, get2.trans (congrArg some (hY .done (some .ret))), by decide, ?_⟩
          dsimp only
          rw [show (HF 0 o r (.raw (.deferred (some []))) (X .busy none) ++ ex).length = (HF 60 o r (.raw (.deferred (some []))) (X .busy none) ++ ex).length from rfl, set2]
          have hno1 := foldG_no hJ (by rw [hgd]; exact hg) (by rw [hgd]; exact hT)
          repeat' first
            | refine tr ?_
            | refine br ?_
            | fail
          refine ⟨rfl, ⟨_, _, (show _ = some (X .busy none) from rfl).trans (congrArg some (hX .busy none))⟩, .inr ⟨rfl, hno1, ?_⟩⟩
          dsimp only
          rw [← hX .done (some .ret)]
          exact ⟨o, r, ex ++ [.cells (fce d0 c)] ++ [.cells [sl9 r2]] ++ [.dead] ++ ex2, rfl⟩
    · rintro v h' (⟨o, ex, rfl, hJ, _⟩ | ⟨hJ, o, r, ex, rfl⟩)
      · refine ⟨.ready, none, (show _ = some (X .ready none) from rfl).trans (congrArg some (hX .ready none)), by decide, ?_⟩
        rw [hJ, grpL_nil]
        have e : (foldG []).map (o ++ ·) = some o := by simp [foldG]
        rw [e]
        repeat' first
          | refine W_seq ?_
          | refine W_region ?_
          | refine WL_nil ?_
          | refine tn ?_
          | refine bn ?_
          | refine W_ret ?_
          | (refine idR ?_; refine rL2 rfl (by first | exact trivial | exact ⟨rfl, trivial⟩) (by first | exact ResO.tmp rfl | exact ResO.cellBA rfl rfl rfl | exact ResO.cellB1 rfl rfl rfl | exact ResO.cellEA rfl rfl | exact ResO.cellE1 rfl) (by first | exact ResO.tmp rfl | exact ResO.cellBA rfl rfl rfl | exact ResO.cellB1 rfl rfl rfl | exact ResO.cellEA rfl rfl | exact ResO.cellE1 rfl) ?_ ?_)
          | (refine idLd ?_; refine p1L (D_loadB1 rfl rfl rfl) rfl ?_)
          | (refine idS ?_; refine pS (S_store rfl rfl rfl rfl rfl rfl rfl) ?_)
          | refine Le.int ?_
          | fail
        all_goals first
          | exact Le.tokq rfl
          | rfl
      · refine ⟨.done, some .ret, (show _ = some (X .done (some .ret)) from rfl).trans (congrArg some (hX .done (some .ret))), by decide, ?_⟩
        rw [hJ]
        repeat' first
          | refine tr ?_
          | refine br ?_
          | (refine idR ?_; refine rL2 rfl (by first | exact trivial | exact ⟨rfl, trivial⟩) (by first | exact ResO.tmp rfl | exact ResO.cellBA rfl rfl rfl | exact ResO.cellB1 rfl rfl rfl | exact ResO.cellEA rfl rfl | exact ResO.cellE1 rfl) (by first | exact ResO.tmp rfl | exact ResO.cellBA rfl rfl rfl | exact ResO.cellB1 rfl rfl rfl | exact ResO.cellEA rfl rfl | exact ResO.cellE1 rfl) ?_ ?_)
          | refine Le.int ?_
          | fail
        all_goals first
          | exact Le.nil rfl
          | rfl
end Go.Proofs
