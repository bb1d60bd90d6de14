/- The rules of the abstract logic, fourth part: a region whose order is open, of operations that only compute: walked in the order of its text. No condition. -/
import Derived.Test.YtnjnjbombcefcaaOps2
namespace Go.AL

/-- Two states that tell the same. -/
structure Eqv (s s' : AS) : Prop where
  regs : ∀ t, look s.regs t = look s'.regs t
  heap : s.heap = s'.heap
  marks : s.marks = s'.marks

theorem Eqv.refl (s : AS) : Eqv s s := ⟨fun _ => rfl, rfl, rfl⟩
theorem Eqv.symm {s s' : AS} (h : Eqv s s') : Eqv s' s := ⟨fun t => (h.regs t).symm, h.heap.symm, h.marks.symm⟩
theorem Eqv.trans {a b c : AS} (h : Eqv a b) (h' : Eqv b c) : Eqv a c := ⟨fun t => (h.regs t).trans (h'.regs t), h.heap.trans h'.heap, h.marks.trans h'.marks⟩
theorem Eqv.put {s s' : AS} (h : Eqv s s') (d : Nat) (v : AV) : Eqv (s.put d v) (s'.put d v) := ⟨fun t => by simp only [AS.put, look]; cases Nat.beq d t; exact h.regs t; rfl, h.heap, h.marks⟩
theorem Eqv.evO {s s' : AS} (h : Eqv s s') : s.evO = s'.evO := funext fun x => by
  rw [evO_some, evO_some]; cases x <;> simp only [AS.ev]; rw [h.regs]
theorem Eqv.R {s s' : AS} (h : Eqv s s') {B : Base} {N : Nat} {G : Gh} {a : Act} {w : World} (hr : R B N G s a w) : R B N G s' a w :=
  ⟨h.heap ▸ hr.heap, hr.size, fun t => h.regs t ▸ hr.regs t, h.marks ▸ hr.defers⟩

section
variable {P : Program} {fr : Option Nat} {N : Nat} {ops : Array Oper}

/-- What an operation of such a region yields in a state, its guard looked at. -/
def OpOK (P : Program) (ops : Array Oper) (o : Oper) (s : AS) (v : AV) : Prop :=
  (o.guard = none ∧ POp P o s.evO s.heap v) ∨
  (∃ j want t b, o.guard = some (j, want) ∧ gdst ops j = some t ∧ look s.regs t = .sc (.bool b) ∧ ((b = want ∧ POp P o s.evO s.heap v) ∨ (b ≠ want ∧ v = .sc undef))) ∨
  (∃ j want t, o.guard = some (j, want) ∧ gdst ops j = some t ∧ look s.regs t = .sc undef ∧ v = .sc undef)

/-- The judgement on what is left of such a region, in the order of the text. -/
def WD (P : Program) (N : Nat) (ops : Array Oper) : List Oper → (AS → Prop) → AS → Prop
  | [], K, s => ∃ s', Eqv s s' ∧ K s'
  | o :: l, K, s => ∃ d v, o.dst = some d ∧ d < N ∧ OpOK P ops o s v ∧ WD P N ops l K (s.put d v)

theorem OpOK.congr {o : Oper} {s s' : AS} {v : AV} (he : Eqv s s') (h : OpOK P ops o s v) : OpOK P ops o s' v := by
  rcases h with ⟨h1, h2⟩ | ⟨j, want, t, b, h1, h2, h3, h4⟩ | ⟨j, want, t, h1, h2, h3, h4⟩
  · exact .inl ⟨h1, he.evO ▸ he.heap ▸ h2⟩
  · exact .inr (.inl ⟨j, want, t, b, h1, h2, (he.regs t) ▸ h3, h4.imp (fun h => ⟨h.1, he.evO ▸ he.heap ▸ h.2⟩) id⟩)
  · exact .inr (.inr ⟨j, want, t, h1, h2, (he.regs t) ▸ h3, h4⟩)

theorem WD.congr : ∀ {l : List Oper} {K : AS → Prop} {s s' : AS}, Eqv s s' → WD P N ops l K s → WD P N ops l K s'
  | [], _, _, _, he, ⟨s1, h1, h2⟩ => ⟨s1, he.symm.trans h1, h2⟩
  | _ :: _, _, _, _, he, ⟨d, v, h1, h2, h3, h4⟩ => ⟨d, v, h1, h2, h3.congr he, h4.congr (he.put d v)⟩

variable {K : AS → Prop} {s : AS} {rest : List Oper} {op : Op} {ty : TypeId} {pos : String} {af : Array Edge} {d : Nat} {v : AV}

theorem WD_nil (h : K s) : WD P N ops [] K s := ⟨s, .refl s, h⟩
theorem WD_p (hop : POp P { dst := some d, op := op, type := ty, pos := pos, after := af, guard := none } s.evO s.heap v) (hd : Nat.blt d N = true) (h : WD P N ops rest K (s.put d v)) :
    WD P N ops ({ dst := some d, op := op, type := ty, pos := pos, after := af, guard := none } :: rest) K s := ⟨d, v, rfl, by simpa [Nat.blt_eq] using hd, .inl ⟨rfl, hop⟩, h⟩
theorem WD_run {j t : Nat} {want : Bool} (hj : gdst ops j = some t) (hb : look s.regs t = .sc (.bool want)) (hop : POp P { dst := some d, op := op, type := ty, pos := pos, after := af, guard := some (j, want) } s.evO s.heap v) (hd : Nat.blt d N = true) (h : WD P N ops rest K (s.put d v)) :
    WD P N ops ({ dst := some d, op := op, type := ty, pos := pos, after := af, guard := some (j, want) } :: rest) K s := ⟨d, v, rfl, by simpa [Nat.blt_eq] using hd, .inr (.inl ⟨j, want, t, want, rfl, hj, hb, .inl ⟨rfl, hop⟩⟩), h⟩
theorem WD_skip {j t : Nat} {want b : Bool} (hj : gdst ops j = some t) (hb : look s.regs t = .sc (.bool b)) (hne : (b == want) = false) (hd : Nat.blt d N = true) (h : WD P N ops rest K (s.put d (.sc undef))) :
    WD P N ops ({ dst := some d, op := op, type := ty, pos := pos, after := af, guard := some (j, want) } :: rest) K s := ⟨d, .sc undef, rfl, by simpa [Nat.blt_eq] using hd, .inr (.inl ⟨j, want, t, b, rfl, hj, hb, .inr ⟨by simpa using hne, rfl⟩⟩), h⟩
theorem WD_undef {j t : Nat} {want : Bool} (hj : gdst ops j = some t) (hb : look s.regs t = .sc undef) (hd : Nat.blt d N = true) (h : WD P N ops rest K (s.put d (.sc undef))) :
    WD P N ops ({ dst := some d, op := op, type := ty, pos := pos, after := af, guard := some (j, want) } :: rest) K s := ⟨d, .sc undef, rfl, by simpa [Nat.blt_eq] using hd, .inr (.inr ⟨j, want, t, rfl, hj, hb, rfl⟩), h⟩
theorem WD_split {t : Nat} {b : Bool} {l : List Oper} (hb : look s.regs t = .sc (.bool b)) (ht : b = true → WD P N ops l K (s.put t (.sc (.bool true)))) (hf : b = false → WD P N ops l K (s.put t (.sc (.bool false)))) : WD P N ops l K s := by
  have key : ∀ c, b = c → Eqv (s.put t (.sc (.bool c))) s := fun c hc => ⟨fun u => by
    simp only [AS.put, look]
    cases hq : Nat.beq t u with
    | true => have : t = u := Nat.eq_of_beq_eq_true hq; subst this; rw [hb, hc]
    | false => rfl, rfl, rfl⟩
  cases b with
  | true => exact (ht rfl).congr (key _ rfl)
  | false => exact (hf rfl).congr (key _ rfl)

theorem WD_gsplit {o : Oper} {j t : Nat} {want b : Bool} (_ho : o.guard = some (j, want)) (_hj : gdst ops j = some t) (hb : look s.regs t = .sc (.bool b)) (ht : b = true → WD P N ops (o :: rest) K (s.put t (.sc (.bool true))))
    (hf : b = false → WD P N ops (o :: rest) K (s.put t (.sc (.bool false)))) : WD P N ops (o :: rest) K s := WD_split hb ht hf

/-! ### Any order -/
/-- The state behind those operations that are listed, of the first ones, put in the order of the text. -/
def stS (ds : Nat → Nat) (vs : Nat → AV) (S : Nat → Bool) (s : AS) : Nat → AS
  | 0 => s
  | n + 1 => if S n then (stS ds vs S s n).put (ds n) (vs n) else stS ds vs S s n

/-- The last operation among the first n that is listed and writes t. -/
def lastW (ds : Nat → Nat) (S : Nat → Bool) (t : Nat) : Nat → Option Nat
  | 0 => none
  | n + 1 => if S n && ds n == t then some n else lastW ds S t n

theorem look_stS (ds : Nat → Nat) (vs : Nat → AV) (S : Nat → Bool) (s : AS) (t : Nat) : ∀ n, look (stS ds vs S s n).regs t = match lastW ds S t n with
    | none => look s.regs t
    | some i => vs i
  | 0 => rfl
  | n + 1 => by
    simp only [stS, lastW]
    by_cases hS : S n = true
    · simp only [hS, if_true, Bool.true_and]
      simp only [AS.put, look]
      cases hq : Nat.beq (ds n) t with
      | true => have : ds n = t := Nat.eq_of_beq_eq_true hq; simp [this]
      | false =>
        have : ¬ ds n = t := fun e => by rw [e] at hq; simp at hq
        have hb : (ds n == t) = false := by simpa using this
        rw [hb]; simp only [Bool.false_eq_true, if_false]; exact look_stS ds vs S s t n
    · simp only [hS, Bool.false_and, Bool.false_eq_true, if_false]; exact look_stS ds vs S s t n

theorem stS_heap (ds : Nat → Nat) (vs : Nat → AV) (S : Nat → Bool) (s : AS) : ∀ n, (stS ds vs S s n).heap = s.heap ∧ (stS ds vs S s n).marks = s.marks
  | 0 => ⟨rfl, rfl⟩
  | n + 1 => by simp only [stS]; split <;> simpa [AS.put] using stS_heap ds vs S s n

theorem lastW_congr {ds : Nat → Nat} {S S' : Nat → Bool} {t : Nat} : ∀ {n : Nat}, (∀ j, j < n → ds j = t → S j = S' j) → lastW ds S t n = lastW ds S' t n
  | 0, _ => rfl
  | n + 1, h => by
    have ih := lastW_congr (n := n) fun j hj => h j (by omega)
    simp only [lastW, ih]
    by_cases hd : ds n = t
    · rw [h n (by omega) hd]
    · have hb : (ds n == t) = false := by simpa using hd
      simp [hb]

theorem lastW_lt {ds : Nat → Nat} {S : Nat → Bool} {t : Nat} : ∀ {n m : Nat}, n ≤ m → (∀ j, n ≤ j → j < m → S j = false ∨ ds j ≠ t) → lastW ds S t m = lastW ds S t n
  | n, 0, h, _ => by have : n = 0 := by omega
                     subst this; rfl
  | n, m + 1, h, hj => by
    by_cases e : n = m + 1
    · subst e; rfl
    · simp only [lastW]
      have : (S m && ds m == t) = false := by
        rcases hj m (by omega) (by omega) with h1 | h1
        · simp [h1]
        · have : (ds m == t) = false := by simpa using h1
          simp [this]
      rw [this]; exact lastW_lt (by omega) fun j h1 h2 => hj j h1 (by omega)

theorem lastW_hit {ds : Nat → Nat} {S : Nat → Bool} {t i n : Nat} (hi : i < n) (hS : S i = true) (hd : ds i = t) (hj : ∀ j, i < j → j < n → S j = false ∨ ds j ≠ t) : lastW ds S t n = some i := by
  rw [lastW_lt (n := i + 1) hi fun j h1 h2 => hj j h1 h2]
  simp [lastW, hS]
  exact fun h => absurd hd h

/-- What must lie ahead of each operation, as masks. -/
def masks : List Oper → List Nat → List Nat
  | [], acc => acc
  | o :: l, acc => masks l (acc ++ [o.after.foldl (fun m e => if Region.binds .any e then m ||| 2 ^ e.on ||| acc.getD e.on 0 else m) 0])

def temps (xs : Array Operand) : List Nat := xs.toList.filterMap fun | .tmp t => some t | _ => none

/-- The temporaries that an operation looks at. -/
def looks (ops : Array Oper) (o : Oper) : List Nat := temps o.op.operands ++ (match o.guard with | some (j, _) => (gdst ops j).toList | none => [])

def ordOK (ms : List Nat) (l : List Oper) : Bool :=
  (List.range l.length).all fun i => match l[i]? with
    | some o => o.after.all (fun e => !Region.binds .any e || Nat.blt e.on i) &&
      (List.range l.length).all fun j => (i == j) || (match l[j]? with
        | some p => (match p.dst with
          | some d => if (looks l.toArray o).contains d || o.dst == some d then (ms.getD i 0).testBit j || (ms.getD j 0).testBit i else true
          | none => false)
        | none => true)
    | none => true

/-- The closed test on a region. -/
def drawOK (l : List Oper) : Bool := ordOK (masks l []) l

/-- A set of operations that holds whatever must lie ahead of its members. -/
def Closed (l : List Oper) (S : Nat → Prop) : Prop := ∀ i o, l[i]? = some o → S i → ∀ e, e ∈ o.after.toList → Region.binds .any e = true → S e.on

theorem mask_bit (acc : List Nat) (j : Nat) : ∀ (es : List Edge) (m0 : Nat), (es.foldl (fun m e => if Region.binds .any e then m ||| 2 ^ e.on ||| acc.getD e.on 0 else m) m0).testBit j = true →
    m0.testBit j = true ∨ ∃ e, e ∈ es ∧ Region.binds .any e = true ∧ (e.on = j ∨ (acc.getD e.on 0).testBit j = true)
  | [], m0, h => .inl h
  | e :: es, m0, h => by
    rw [List.foldl_cons] at h
    rcases mask_bit acc j es _ h with h | ⟨e', h1, h2, h3⟩
    · by_cases hb : Region.binds .any e = true
      · rw [if_pos hb] at h
        simp only [Nat.testBit_or, Nat.testBit_two_pow, Bool.or_eq_true, decide_eq_true_eq] at h
        rcases h with (h | h) | h
        · exact .inl h
        · exact .inr ⟨e, .head _, hb, .inl h⟩
        · exact .inr ⟨e, .head _, hb, .inr h⟩
      · rw [if_neg hb] at h; exact .inl h
    · exact .inr ⟨e', .tail _ h1, h2, h3⟩

theorem masks_ok {L : List Oper} {S : Nat → Prop} (hS : Closed L S) : ∀ (l : List Oper) (acc : List Nat), (∀ k, l[k]? = L[acc.length + k]?) → (∀ i j, (acc.getD i 0).testBit j = true → S i → S j) →
    ∀ i j, ((masks l acc).getD i 0).testBit j = true → S i → S j
  | [], acc, _, h => h
  | o :: l, acc, hl, h => by
    refine masks_ok hS l _ (fun k => by have := hl (k + 1); simpa [Nat.add_assoc, Nat.add_comm 1 k] using this) fun i j hb hi => ?_
    have ho : L[acc.length]? = some o := by simpa using (hl 0).symm
    rcases Nat.lt_trichotomy i acc.length with hlt | heq | hgt
    · rw [List.getD_eq_getElem?_getD, List.getElem?_append_left hlt, ← List.getD_eq_getElem?_getD] at hb
      exact h i j hb hi
    · subst heq
      rw [List.getD_eq_getElem?_getD, List.getElem?_append_right (Nat.le_refl _)] at hb
      simp only [Nat.sub_self, List.getElem?_cons_zero, Option.getD_some] at hb
      rw [← Array.foldl_toList] at hb
      rcases mask_bit acc j _ 0 hb with hz | ⟨e, h1, h2, h3⟩
      · simp at hz
      · have he := hS _ o ho hi e h1 h2
        rcases h3 with rfl | h3
        · exact he
        · exact h e.on j h3 he
    · rw [List.getD_eq_getElem?_getD, List.getElem?_eq_none (by simp; omega)] at hb
      simp at hb

theorem reach {l : List Oper} {S : Nat → Prop} (hS : Closed l S) {i j : Nat} (h : ((masks l []).getD i 0).testBit j = true) (hi : S i) : S j :=
  masks_ok hS l [] (fun k => by simp) (fun i j h => by simp at h) i j h hi

theorem WD_facts : ∀ {l : List Oper} {K : AS → Prop} {s : AS}, WD P N ops l K s → ∃ (ds : Nat → Nat) (vs : Nat → AV), (∀ i o, l[i]? = some o → o.dst = some (ds i) ∧ ds i < N ∧ OpOK P ops o (stS ds vs (fun _ => true) s i) (vs i)) ∧
    ∃ s', Eqv (stS ds vs (fun _ => true) s l.length) s' ∧ K s'
  | [], K, s, ⟨s', h1, h2⟩ => ⟨fun _ => 0, fun _ => .any, fun i o h => by simp at h, s', h1, h2⟩
  | o :: l, K, s, ⟨d, v, h1, h2, h3, h4⟩ => by
    obtain ⟨ds, vs, hf, s', he, hk⟩ := WD_facts h4
    let ds' : Nat → Nat := fun | 0 => d | i + 1 => ds i
    let vs' : Nat → AV := fun | 0 => v | i + 1 => vs i
    have hst : ∀ i, stS ds' vs' (fun _ => true) s (i + 1) = stS ds vs (fun _ => true) (s.put d v) i := fun i => by
      induction i with
      | zero => rfl
      | succ i ih => show (if true = true then (stS ds' vs' (fun _ => true) s (i + 1)).put (ds i) (vs i) else _) = (if true = true then (stS ds vs (fun _ => true) (s.put d v) i).put (ds i) (vs i) else _); simp only [if_true]; rw [ih]
    refine ⟨ds', vs', fun i o' hi => ?_, s', by rw [List.length_cons, hst]; exact he, hk⟩
    cases i with
    | zero => simp at hi; subst hi; exact ⟨h1, h2, h3⟩
    | succ i => have := hf i o' (by simpa using hi); rw [hst]; exact this

theorem POp.congr {o : Oper} {ρ ρ' : Operand → Option AV} {hp : List AObj} {v : AV} (h : POp P o ρ hp v) (he : ∀ x, x ∈ o.op.operands.toList → ρ' x = ρ x) : POp P o ρ' hp v :=
  fun fr B G a w hr hE => h fr B G a w hr fun x hx u hu => hE x hx u ((he x hx).trans hu)

theorem temps_mem {xs : Array Operand} {t : Nat} (h : Operand.tmp t ∈ xs.toList) : t ∈ temps xs := List.mem_filterMap.2 ⟨_, h, rfl⟩

theorem evO_eq_of {s s' : AS} {x : Operand} (h : ∀ t, x = .tmp t → look s.regs t = look s'.regs t) : s.evO x = s'.evO x := by
  rw [evO_some, evO_some]
  cases x with
  | tmp t => simp only [AS.ev]; rw [h t rfl]
  | _ => rfl

theorem OpOK.looks {o : Oper} {s s' : AS} {v : AV} (h : OpOK P ops o s v) (hl : ∀ t, t ∈ looks ops o → look s'.regs t = look s.regs t) (hh : s'.heap = s.heap) : OpOK P ops o s' v := by
  have he : ∀ x, x ∈ o.op.operands.toList → s'.evO x = s.evO x := fun x hx => evO_eq_of fun t ht => hl t (List.mem_append_left _ (temps_mem (ht ▸ hx)))
  rcases h with ⟨h1, h2⟩ | ⟨j, want, t, b, h1, h2, h3, h4⟩ | ⟨j, want, t, h1, h2, h3, h4⟩
  · exact .inl ⟨h1, hh ▸ h2.congr he⟩
  · have ht : look s'.regs t = look s.regs t := hl t (List.mem_append_right _ (by simp [h1, h2]))
    exact .inr (.inl ⟨j, want, t, b, h1, h2, ht ▸ h3, h4.imp (fun h => ⟨h.1, hh ▸ h.2.congr he⟩) id⟩)
  · have ht : look s'.regs t = look s.regs t := hl t (List.mem_append_right _ (by simp [h1, h2]))
    exact .inr (.inr ⟨j, want, t, h1, h2, ht ▸ h3, h4⟩)

class Mix (P : Program) : Prop where
  h : P.follows .mixedOrders = true

/-- **A region whose order is open, of operations that only compute.** -/
theorem W_draw {Q : Exit → AS → Prop} {s : AS} [hm : Mix P] {id : Nat} {l : List Oper} (hok : drawOK l = true) (h : WD P N l.toArray l (fun s' => Q .normal s') s) : W P fr N (.region id l.toArray true) Q s := by
  obtain ⟨ds, vs, hf, sn, hsn, hk⟩ := WD_facts h
  have hnone : ∀ i, l.length ≤ i → l[i]? = none := fun i h => List.getElem?_eq_none h
  -- the closed test, read
  have hedge : ∀ i o, l[i]? = some o → ∀ e, e ∈ o.after.toList → Region.binds .any e = true → e.on < i := by
    intro i o hi e he hb
    have hlt : i < l.length := (List.getElem?_eq_some_iff.1 hi).1
    have := List.all_eq_true.1 hok i (List.mem_range.2 hlt)
    simp only [hi, Bool.and_eq_true] at this
    have h1 := Array.all_eq_true_iff_forall_mem.1 this.1 e (Array.mem_toList_iff.1 he)
    simpa [hb, Nat.blt_eq] using h1
  have hord : ∀ i o j p, l[i]? = some o → l[j]? = some p → i ≠ j → (ds j ∈ looks l.toArray o ∨ ds i = ds j) → ((masks l []).getD i 0).testBit j = true ∨ ((masks l []).getD j 0).testBit i = true := by
    intro i o j p hi hj hne hd
    have hlt : i < l.length := (List.getElem?_eq_some_iff.1 hi).1
    have hltj : j < l.length := (List.getElem?_eq_some_iff.1 hj).1
    have h0 := List.all_eq_true.1 hok i (List.mem_range.2 hlt)
    simp only [hi, Bool.and_eq_true] at h0
    have h1 := List.all_eq_true.1 h0.2 j (List.mem_range.2 hltj)
    have hb : (i == j) = false := by simpa using hne
    simp only [hj, hb, Bool.false_or, (hf j p hj).1, (hf i o hi).1] at h1
    have hc : ((looks l.toArray o).contains (ds j) || (some (ds i) == some (ds j))) = true := by
      rcases hd with hd | hd
      · have : (looks l.toArray o).contains (ds j) = true := by simpa using hd
        rw [this]; rfl
      · simp [hd]
    rw [if_pos hc] at h1
    simpa using h1
  have hle : ∀ k, Closed l (fun j => j ≤ k) := fun k i o hi hik e he hb => by have := hedge i o hi e he hb; omega
  intro B G0 a w hr0
  refine wpIn_region_any hm.h ?_
  have key : ∀ (fuel : Nat) (listed : Array Bool) (G : Gh) (a : Act) (w : World), listed.size = l.length → Closed l (fun j => listed.getD j false = true) → (∀ j, l.length ≤ j → listed.getD j false = false) → G0.le G → R B N G (stS ds vs (fun j => listed.getD j false) s l.length) a w →
      ((listed.toList.filter (fun b => !b)).length ≤ fuel) → wpAnyIn (fence fr) 0 P .any l.toArray (Post B N G0 Q) fuel listed a w := by
    intro fuel
    induction fuel with
    | zero =>
      intro listed G a w hsz hcl hout hg hr hfu
      have hall : ∀ j, j < l.length → listed.getD j false = true := fun j hj => by
        have hz : listed.toList.filter (fun b => !b) = [] := List.length_eq_zero_iff.1 (Nat.le_zero.1 hfu)
        have := List.filter_eq_nil_iff.1 hz (listed.getD j false) (by rw [Array.getD_eq_getD_getElem?, Array.getElem?_eq_getElem (by omega)]; simp)
        simpa using this
      refine ⟨?_, G, sn, hg, ?_, hk⟩
      · apply List.eq_nil_iff_forall_not_mem.2
        intro j hj
        obtain ⟨h1, o, h2, _⟩ := mem_ready.1 hj
        have hj' : j < l.length := by simpa using (Array.getElem?_eq_some_iff.1 h2).1
        have := hall j hj'
        rw [Array.getD_eq_getD_getElem?, Array.getElem?_eq_getElem (by omega)] at h1 this
        simp at h1 this; rw [h1] at this; cases this
      · refine (Eqv.trans ⟨fun t => ?_, ?_, ?_⟩ hsn).R hr
        · rw [look_stS, look_stS, lastW_congr fun j hj _ => by rw [hall j hj]]
        · rw [(stS_heap ds vs _ s _).1, (stS_heap ds vs _ s _).1]
        · rw [(stS_heap ds vs _ s _).2, (stS_heap ds vs _ s _).2]
    | succ fuel ih =>
      intro listed G a w hsz hcl hout hg hr hfu
      refine ⟨fun hnil => ?_, fun i hi => ?_⟩
      · -- nothing is ready: all are listed
        have hall : ∀ j, j < l.length → listed.getD j false = true := fun j => by
          induction j using Nat.strongRecOn with
          | _ j ihj =>
            intro hj
            cases hb : listed.getD j false with
            | true => rfl
            | false =>
              exfalso
              have : j ∈ Region.ready .any l.toArray listed := mem_ready.2 ⟨by
                rw [Array.getD_eq_getD_getElem?, Array.getElem?_eq_getElem (by omega)] at hb ⊢; simpa using hb, l[j], by simp [hj], fun e he hbd => by
                have hlt := hedge j l[j] (List.getElem?_eq_getElem hj) e (Array.mem_toList_iff.2 he) hbd
                exact ihj e.on hlt (by omega)⟩
              rw [hnil] at this; cases this
        refine ⟨G, sn, hg, ?_, hk⟩
        refine (Eqv.trans ⟨fun t => ?_, ?_, ?_⟩ hsn).R hr
        · rw [look_stS, look_stS, lastW_congr fun j hj _ => by rw [hall j hj]]
        · rw [(stS_heap ds vs _ s _).1, (stS_heap ds vs _ s _).1]
        · rw [(stS_heap ds vs _ s _).2, (stS_heap ds vs _ s _).2]
      · obtain ⟨h1, o, h2, hed⟩ := mem_ready.1 hi
        have hio : l[i]? = some o := by simpa using h2
        have hilt : i < l.length := (List.getElem?_eq_some_iff.1 hio).1
        have hi0 : listed.getD i false = false := by
          rw [Array.getD_eq_getD_getElem?, Array.getElem?_eq_getElem (by omega)] at h1 ⊢; simpa using h1
        obtain ⟨hdst, hdN, hop⟩ := hf i o hio
        -- with i the set stays closed
        have hcl' : Closed l (fun j => j = i ∨ listed.getD j false = true) := fun j p hj hs e he hb => by
          rcases hs with rfl | hs
          · rw [hio] at hj; cases hj; exact .inr (hed e (Array.mem_toList_iff.1 he) hb)
          · exact .inr (hcl j p hj hs e he hb)
        -- writers of what it looks at, or writes
        have hwr : ∀ j, j < l.length → j ≠ i → (ds j ∈ looks l.toArray o ∨ ds i = ds j) → listed.getD j false = decide (j < i) := fun j hj hne hd => by
          rcases hord i o j l[j] hio (List.getElem?_eq_getElem hj) (Ne.symm hne) hd with hb | hb
          · have r1 := reach hcl' hb (.inl rfl)
            have r2 : j ≤ i := reach (hle i) hb (Nat.le_refl i)
            rcases r1 with r1 | r1
            · exact absurd r1 hne
            · rw [r1]; symm; simp; omega
          · have r2 : i ≤ j := reach (hle j) hb (Nat.le_refl j)
            have : listed.getD j false = false := by
              cases hbj : listed.getD j false with
              | false => rfl
              | true => have := reach hcl hb hbj; rw [hi0] at this; cases this
            rw [this]; symm; simp; omega
        have hlook : ∀ t, t ∈ looks l.toArray o → look (stS ds vs (fun j => listed.getD j false) s l.length).regs t = look (stS ds vs (fun _ => true) s i).regs t := fun t ht => by
          rw [look_stS, look_stS]
          have e1 : lastW ds (fun j => listed.getD j false) t l.length = lastW ds (fun j => decide (j < i)) t l.length := lastW_congr fun j hj hdj => by
            by_cases e : j = i
            · subst e; rw [hi0]; symm; simp
            · exact hwr j hj e (.inl (hdj ▸ ht))
          rw [e1, lastW_lt (n := i) (by omega) fun j hj _ => .inl (by simp; omega), lastW_congr (S' := fun _ => true) fun j hj _ => by simp; omega]
        have hop' : OpOK P l.toArray o (stS ds vs (fun j => listed.getD j false) s l.length) (vs i) := hop.looks hlook (by rw [(stS_heap ds vs _ s _).1, (stS_heap ds vs _ s _).1])
        have hnext : ∀ (G' : Gh) (a' : Act) (w' : World), G.le G' → R B N G' ((stS ds vs (fun j => listed.getD j false) s l.length).put (ds i) (vs i)) a' w' →
            wpAnyIn (fence fr) 0 P .any l.toArray (Post B N G0 Q) fuel (listed.setIfInBounds i true) a' w' := fun G' a' w' hg' hr' => by
          have hset : ∀ j, (listed.setIfInBounds i true).getD j false = if j = i then true else listed.getD j false := fun j => by
            simp only [Array.getD_eq_getD_getElem?, Array.getElem?_setIfInBounds]
            by_cases e : j = i
            · subst e; have : j < listed.size := by omega
              simp [this]
            · rw [if_neg e, if_neg (Ne.symm e)]
          refine ih (listed.setIfInBounds i true) G' a' w' (by simpa using hsz) (fun j p hj hs e he hb => ?_) (fun j hj => ?_) (hg.trans hg') ?_ ?_
          · have := hcl' j p hj (by
              dsimp only at hs; rw [hset] at hs
              by_cases e' : j = i
              · exact .inl e'
              · rw [if_neg e'] at hs; exact .inr hs) e he hb
            dsimp only; rw [hset]
            rcases this with h | h
            · simp [h]
            · split
              · rfl
              · exact h
          · rw [hset, if_neg (by omega)]; exact hout j hj
          · refine Eqv.R ⟨fun t => ?_, ?_, ?_⟩ hr'
            · simp only [AS.put, look]
              cases hq : Nat.beq (ds i) t with
              | true =>
                have e : ds i = t := Nat.eq_of_beq_eq_true hq
                dsimp only
                rw [look_stS, lastW_hit (i := i) hilt (by rw [hset]; simp) e fun j h1 h2 => ?_]
                by_cases e2 : ds j = t
                · left
                  rw [hset, if_neg (by omega), hwr j h2 (by omega) (.inr (e.trans e2.symm))]; simp; omega
                · exact .inr e2
              | false =>
                have e : ¬ ds i = t := fun e => by rw [e] at hq; simp at hq
                dsimp only
                rw [look_stS, look_stS, lastW_congr (S' := fun j => (listed.setIfInBounds i true).getD j false) fun j hj hdj => by
                  have hji : j ≠ i := fun e' => by subst e'; exact e hdj
                  show listed.getD j false = (listed.setIfInBounds i true).getD j false
                  rw [hset, if_neg hji]]
            · show (stS ds vs _ s _).heap = _
              rw [(stS_heap ds vs _ s _).1, (stS_heap ds vs _ s _).1]
            · show (stS ds vs _ s _).marks = _
              rw [(stS_heap ds vs _ s _).2, (stS_heap ds vs _ s _).2]
          · have hlen : (listed.setIfInBounds i true).toList = listed.toList.set i true := by simp
            rw [hlen]
            have : ∀ (xs : List Bool) (k : Nat), xs[k]? = some false → ((xs.set k true).filter (fun b => !b)).length + 1 = (xs.filter (fun b => !b)).length := fun xs => by
              induction xs with
              | nil => intro k h; simp at h
              | cons b xs ih =>
                intro k h
                cases k with
                | zero => simp at h; subst h; simp
                | succ k => simp at h; have := ih k h; cases b <;> simp at this ⊢ <;> omega
            have := this listed.toList i (by
              rw [Array.getD_eq_getD_getElem?, Array.getElem?_eq_getElem (by omega)] at hi0
              simp at hi0
              rw [Array.getElem?_toList, Array.getElem?_eq_getElem (by omega), hi0])
            omega
        simp only [wpOpIn, h2]
        have run : POp P o (stS ds vs (fun j => listed.getD j false) s l.length).evO (stS ds vs (fun j => listed.getD j false) s l.length).heap (vs i) →
            o.wpIn (fence fr) 0 P a w (wpAnyIn (fence fr) 0 P .any l.toArray (Post B N G0 Q) fuel (listed.setIfInBounds i true)) (Post B N G0 Q) := fun hp => by
          refine wpIn_false ?_ (hp fr B G a w hr.heap fun x _ u hu => by rw [evO_some] at hu; cases hu; exact hr.ev x)
          rintro a' w' ⟨r, G', rfl, hg', hh, hv⟩
          rw [hdst]
          exact hnext G' _ w' hg' ((hr.step hg' hh).put hdN hv)
        rcases hop' with ⟨g1, g2⟩ | ⟨j, want, t, b, g1, g2, g3, g4⟩ | ⟨j, want, t, g1, g2, g3, g4⟩
        · rw [if_pos (by simp [Region.wanted, g1])]; exact run g2
        · have hy := yielded_of g2 hr g3
          rcases g4 with ⟨rfl, g4⟩ | ⟨hne, g4⟩
          · rw [if_pos (by simp [Region.wanted, g1, hy])]; exact run g4
          · rw [if_neg (by simp [Region.wanted, g1, hy, hne])]
            refine ⟨fun f _ => fence_fn fr f, ?_⟩
            rw [hdst]
            refine hnext G _ w (.refl G) ?_
            rw [g4]; exact hr.put hdN (.sc _)
        · have hy := yielded_undef g2 hr g3
          rw [if_neg (by simp [Region.wanted, g1, hy])]
          refine ⟨fun f _ => fence_fn fr f, ?_⟩
          rw [hdst]
          refine hnext G _ w (.refl G) ?_
          rw [g4]; exact hr.put hdN (.sc _)
  refine key _ _ G0 a _ (by simp) (fun j p hj hs => ?_) (fun j hj => ?_) (.refl G0) ?_ ?_
  · dsimp only at hs
    rw [Array.getD_eq_getD_getElem?, Array.getElem?_replicate] at hs
    split at hs <;> simp at hs
  · rw [Array.getD_eq_getD_getElem?, Array.getElem?_replicate]; split <;> simp
  · have e : Eqv s (stS ds vs (fun j => (Array.replicate l.toArray.size false).getD j false) s l.length) := by
      have : ∀ n, stS ds vs (fun j => (Array.replicate l.toArray.size false).getD j false) s n = s := fun n => by
        induction n with
        | zero => rfl
        | succ n ih =>
          simp only [stS, ih]
          rw [if_neg]
          rw [Array.getD_eq_getD_getElem?, Array.getElem?_replicate]; split <;> simp
      rw [this]; exact .refl s
    refine e.R ⟨?_, hr0.size, hr0.regs, hr0.defers⟩
    have := hr0.heap
    exact ⟨this.tape, this.os, this.output, Nat.le_succ_of_le this.drawn, this.size, this.out, this.imm, this.low, this.obj, this.inj, this.fresh⟩
  · have := List.length_filter_le (fun b : Bool => !b) (Array.replicate l.toArray.size false).toList
    refine Nat.le_trans this ?_
    simp

end
end Go.AL
