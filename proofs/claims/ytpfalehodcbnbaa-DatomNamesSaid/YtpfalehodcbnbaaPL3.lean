/- The plain law of keys: they stand as the datoms do; a key is read as it was written. No program in sight. -/
import Derived.Test.YtpfalehodcbnbaaPL2
import Derived.Test.YtpfalehodcbnbaaAD10
namespace Go.Proofs
open Go.AL

/-! The order of bytes. -/
theorem cb_lt {x y : UInt8} {a b : List UInt8} (h : x.toNat < y.toNat) : Lib.compareBytes (x :: a) (y :: b) = -1 := by
  rw [Lib.compareBytes, if_pos (UInt8.lt_iff_toNat_lt.2 h)]
theorem cb_gt {x y : UInt8} {a b : List UInt8} (h : y.toNat < x.toNat) : Lib.compareBytes (x :: a) (y :: b) = 1 := by
  rw [Lib.compareBytes, if_neg (by rw [UInt8.lt_iff_toNat_lt]; omega), if_pos (UInt8.lt_iff_toNat_lt.2 h)]
theorem cb_eq (x : UInt8) (a b : List UInt8) : Lib.compareBytes (x :: a) (x :: b) = Lib.compareBytes a b := by
  rw [Lib.compareBytes, if_neg (by rw [UInt8.lt_iff_toNat_lt]; omega), if_neg (by rw [UInt8.lt_iff_toNat_lt]; omega)]
theorem cb_lowb (V W : Nat) (x y : List UInt8) : ∀ i, Lib.compareBytes (lowb V i ++ x) (lowb W i ++ y) = if V % 256 ^ i = W % 256 ^ i then Lib.compareBytes x y else if V % 256 ^ i < W % 256 ^ i then -1 else 1
  | 0 => by simp [lowb, Nat.mod_one]
  | i + 1 => by
    have ih := cb_lowb V W x y i
    have hp : 0 < 256 ^ i := Nat.pow_pos (by decide)
    have e1 := Nat.mod_mul (x := V) (a := 256 ^ i) (b := 256)
    have e2 := Nat.mod_mul (x := W) (a := 256 ^ i) (b := 256)
    rw [Nat.pow_succ, e1, e2]
    have l1 := Nat.mod_lt V hp
    have l2 := Nat.mod_lt W hp
    have n1 : (nb V i).toNat = V / 256 ^ i % 256 := by simp [nb]
    have n2 : (nb W i).toNat = W / 256 ^ i % 256 := by simp [nb]
    simp only [lowb, List.cons_append]
    generalize V / 256 ^ i % 256 = a at *
    generalize W / 256 ^ i % 256 = b at *
    generalize V % 256 ^ i = r at *
    generalize W % 256 ^ i = q at *
    generalize 256 ^ i = m at *
    rcases Nat.lt_trichotomy a b with h | h | h
    · have hm : m * (a + 1) ≤ m * b := Nat.mul_le_mul_left m h
      rw [Nat.mul_add] at hm
      rw [cb_lt (by omega), if_neg (by omega), if_pos (by omega)]
    · subst h
      have e : nb V i = nb W i := UInt8.toNat.inj (by rw [n1, n2])
      rw [e, cb_eq, ih]
      by_cases hq : r = q
      · rw [if_pos hq, if_pos (show r + m * a = q + m * a by omega)]
      · by_cases hl : r < q
        · rw [if_neg hq, if_pos hl, if_neg (show ¬ r + m * a = q + m * a by omega), if_pos (show r + m * a < q + m * a by omega)]
        · rw [if_neg hq, if_neg hl, if_neg (show ¬ r + m * a = q + m * a by omega), if_neg (show ¬ r + m * a < q + m * a by omega)]
    · have hm : m * (b + 1) ≤ m * a := Nat.mul_le_mul_left m h
      rw [Nat.mul_add] at hm
      rw [cb_gt (by omega), if_neg (by omega), if_neg (by omega)]
theorem cb_num {n m : Int} (hn : i64P n) (hm : i64P m) (x y : List UInt8) : Lib.compareBytes (num8 n ++ x) (num8 m ++ y) = if n = m then Lib.compareBytes x y else cmpI n m := by
  have h1 := num64_i n
  have h2 := num64_lt n
  have h3 := num64_i m
  have h4 := num64_lt m
  unfold num8
  rw [cb_lowb, pow256, Nat.mod_eq_of_lt h2, Nat.mod_eq_of_lt h4]
  unfold i64P at hn hm
  by_cases e : n = m
  · subst e; simp
  · rw [if_neg (by omega), if_neg e]
    unfold cmpI
    by_cases hl : n < m
    · rw [if_pos hl, if_pos (by omega)]
    · rw [if_neg hl, if_neg (by omega), if_pos (by omega)]
theorem cb_text (x y : List UInt8) : ∀ (s t : List UInt8), Lib.compareBytes (textB s ++ x) (textB t ++ y) = if s = t then Lib.compareBytes x y else Lib.compareBytes s t
  | [], [] => by
    simp only [textB, esc, List.flatMap_nil, List.nil_append, List.cons_append, if_true, cb_eq]
  | [], c :: t => by
    rw [if_neg (by simp)]
    by_cases h : c = 0
    · have e : textB (c :: t) ++ y = 0 :: 255 :: (textB t ++ y) := by simp [textB, esc, h]
      rw [e]
      show Lib.compareBytes (0 :: 1 :: x) (0 :: 255 :: (textB t ++ y)) = _
      rw [cb_eq, cb_lt (by decide)]; rfl
    · have e : textB (c :: t) ++ y = c :: (textB t ++ y) := by simp [textB, esc, h]
      rw [e]
      show Lib.compareBytes (0 :: 1 :: x) (c :: (textB t ++ y)) = _
      have : c.toNat ≠ 0 := fun h0 => h (UInt8.toNat.inj h0)
      rw [cb_lt (by show 0 < c.toNat; omega)]; rfl
  | c :: s, [] => by
    rw [if_neg (by simp)]
    by_cases h : c = 0
    · have e : textB (c :: s) ++ x = 0 :: 255 :: (textB s ++ x) := by simp [textB, esc, h]
      rw [e]
      show Lib.compareBytes (0 :: 255 :: (textB s ++ x)) (0 :: 1 :: y) = _
      rw [cb_eq, cb_gt (by decide)]; rfl
    · have e : textB (c :: s) ++ x = c :: (textB s ++ x) := by simp [textB, esc, h]
      rw [e]
      show Lib.compareBytes (c :: (textB s ++ x)) (0 :: 1 :: y) = _
      have : c.toNat ≠ 0 := fun h0 => h (UInt8.toNat.inj h0)
      rw [cb_gt (by show 0 < c.toNat; omega)]; rfl
  | a :: s, c :: t => by
    have ih := cb_text x y s t
    have e0 : ∀ (q : List UInt8) (z : List UInt8), textB (0 :: q) ++ z = 0 :: 255 :: (textB q ++ z) := fun q z => by simp [textB, esc]
    have e1 : ∀ (d : UInt8) (q : List UInt8) (z : List UInt8), d ≠ 0 → textB (d :: q) ++ z = d :: (textB q ++ z) := fun d q z h => by simp [textB, esc, h]
    have step : ∀ d : UInt8, (if s = t then Lib.compareBytes x y else Lib.compareBytes s t) = if d :: s = d :: t then Lib.compareBytes x y else Lib.compareBytes (d :: s) (d :: t) := fun d => by
      by_cases h : s = t
      · rw [if_pos h, if_pos (by rw [h])]
      · rw [if_neg h, if_neg (by simp [h]), cb_eq]
    by_cases ha : a = 0
    · by_cases hc : c = 0
      · subst ha; subst hc
        rw [e0, e0, cb_eq, cb_eq, ih, step 0]
      · subst ha
        have : c.toNat ≠ 0 := fun h0 => hc (UInt8.toNat.inj h0)
        rw [e0, e1 c t y hc, cb_lt (by show 0 < c.toNat; omega), if_neg (by intro h; injection h with h _; exact hc h.symm), cb_lt (by show 0 < c.toNat; omega)]
    · by_cases hc : c = 0
      · subst hc
        have : a.toNat ≠ 0 := fun h0 => ha (UInt8.toNat.inj h0)
        rw [e0, e1 a s x ha, cb_gt (by show 0 < a.toNat; omega), if_neg (by intro h; injection h with h _; exact ha h), cb_gt (by show 0 < a.toNat; omega)]
      · rw [e1 a s x ha, e1 c t y hc]
        rcases Nat.lt_trichotomy a.toNat c.toNat with h | h | h
        · rw [cb_lt h, if_neg (by intro e; injection e with e _; rw [e] at h; omega), cb_lt h]
        · have : a = c := UInt8.toNat.inj h
          subst this
          rw [cb_eq, ih, step a]
        · rw [cb_gt h, if_neg (by intro e; injection e with e _; rw [e] at h; omega), cb_gt h]
noncomputable instance : DecidableEq Val := fun _ _ => Classical.propDecidable _
theorem cmpI_self (n : Int) : cmpI n n = 0 := (cmpI_z n n).2 rfl
theorem cb_val {v w : Val} (hv : mayB v = true) (hw : mayB w = true) (iv : i64P v.n) (iw : i64P w.n) (x y : List UInt8) : Lib.compareBytes (valB v ++ x) (valB w ++ y) = if v = w then Lib.compareBytes x y else cmpV v w := by
  have k1 := kind_of hv
  have k2 := kind_of hw
  have c1 := MayP_cases hv
  have c2 := MayP_cases hw
  have n1 := u8i_nat v.kind (by omega) (by omega)
  have n2 := u8i_nat w.kind (by omega) (by omega)
  obtain ⟨k, n, s⟩ := v
  obtain ⟨k', n', s'⟩ := w
  simp only at *
  simp only [valB, List.cons_append, List.nil_append, cmpV, orI, Val.mk.injEq]
  by_cases hk : k = k'
  · subst hk
    rw [cb_eq, cmpI_self, if_pos rfl]
    by_cases h2 : k = 2
    · rw [if_pos h2, if_pos h2]
      have g : (s = [] ∧ 0 ≤ n ∧ n ≤ 1) ∧ (s' = [] ∧ 0 ≤ n' ∧ n' ≤ 1) := by
        subst h2; constructor <;> simp_all
      obtain ⟨⟨rfl, g1, g2⟩, ⟨rfl, g3, g4⟩⟩ := g
      have m1 := u8i_nat n g1 (by omega)
      have m2 := u8i_nat n' g3 (by omega)
      simp only [List.cons_append, List.nil_append]
      rcases Int.lt_trichotomy n n' with h | h | h
      · rw [cb_lt (by omega), if_neg (by intro e; omega)]
        simp [cmpI, h]
      · subst h; rw [cb_eq, if_pos (by simp)]
      · rw [cb_gt (by omega), if_neg (by intro e; omega)]
        have : ¬ n < n' := by omega
        simp [cmpI, this, h]
    · rw [if_neg h2, if_neg h2]
      by_cases h3 : k = 3 ∨ k = 4 ∨ k = 7
      · rw [if_pos h3, if_pos h3, cb_text]
        have g : n = 0 ∧ n' = 0 := by
          constructor
          · rcases c1 with h | h | h | h
            · omega
            · omega
            · exact h.2
            · omega
          · rcases c2 with h | h | h | h
            · omega
            · omega
            · exact h.2
            · omega
        obtain ⟨rfl, rfl⟩ := g
        rw [cmpI_self, if_pos rfl]
        by_cases e : s = s'
        · rw [if_pos e, if_pos (by simp [e])]
        · rw [if_neg e, if_neg (by simp [e])]
          have hz := cmpB_z s s'
          rw [if_neg (fun h => e (hz.1 h))]
      · rw [if_neg h3, if_neg h3, cb_num iv iw]
        have g : s = [] ∧ s' = [] := by
          constructor
          · rcases c1 with h | h | h | h
            · exact h.2
            · exact h.2.1
            · exact absurd h.1 h3
            · exact h.2
          · rcases c2 with h | h | h | h
            · exact h.2
            · exact h.2.1
            · exact absurd h.1 h3
            · exact h.2
        obtain ⟨rfl, rfl⟩ := g
        by_cases e : n = n'
        · rw [if_pos e, if_pos (by simp [e])]
        · rw [if_neg e, if_neg (by simp [e]), if_neg (fun h => e ((cmpI_z _ _).1 h))]
  · rw [if_neg (show ¬(k = k' ∧ n = n' ∧ s = s') from fun e => hk e.1)]
    have hne : cmpI k k' ≠ 0 := fun h => hk ((cmpI_z _ _).1 h)
    rw [if_neg hne]
    rcases Int.lt_trichotomy k k' with h | h | h
    · rw [cb_lt (by omega)]; simp [cmpI, h]
    · exact absurd h hk
    · rw [cb_gt (by omega)]
      have : ¬ k < k' := by omega
      simp [cmpI, this, h]
theorem cb_part {p q : Prt} (hf : p.value = q.value) (hp : PartP p) (hq : PartP q) (ip : prtI p) (iq : prtI q) (x y : List UInt8) : Lib.compareBytes (partB p ++ x) (partB q ++ y) = if standI p q = 0 then Lib.compareBytes x y else standI p q := by
  unfold partB standI
  by_cases e : p.value = true
  · have e' : q.value = true := hf ▸ e
    rw [if_pos e, if_pos e', cb_val (hp e) (hq e') ip.2 iq.2]
    simp only [if_pos e]
    by_cases h : p.v = q.v
    · rw [if_pos h, if_pos ((cmpV_z _ _).2 h)]
    · rw [if_neg h, if_neg (fun h' => h ((cmpV_z _ _).1 h'))]
  · have e' : ¬ q.value = true := hf ▸ e
    rw [if_neg e, if_neg e', cb_num ip.1 iq.1]
    simp only [if_neg e]
    by_cases h : p.n = q.n
    · rw [if_pos h, if_pos ((cmpI_z _ _).2 h)]
    · rw [if_neg h, if_neg (fun h' => h ((cmpI_z _ _).1 h'))]
theorem cb_key : ∀ (l m : List Prt), l.map Prt.value = m.map Prt.value → (∀ p, p ∈ l → PartP p ∧ prtI p) → (∀ p, p ∈ m → PartP p ∧ prtI p) → Lib.compareBytes (l.flatMap partB) (m.flatMap partB) = cmpPs l m
  | [], [], _, _, _ => by simp [cmpPs, Lib.compareBytes]
  | [], _ :: _, h, _, _ => by simp at h
  | _ :: _, [], h, _, _ => by simp at h
  | p :: l, q :: m, h, hl, hm => by
    simp only [List.map_cons, List.cons.injEq] at h
    have hp := hl p (.head _)
    have hq := hm q (.head _)
    rw [List.flatMap_cons, List.flatMap_cons, cb_part h.1 hp.1 hq.1 hp.2 hq.2, cb_key l m h.2 (fun p hp => hl p (.tail _ hp)) (fun p hp => hm p (.tail _ hp)), cmpPs]

/-! Datoms. -/
def datI (d : Dat) : Prop := i64P d.e ∧ i64P d.a ∧ i64P d.v.n ∧ i64P d.t ∧ i64P d.fr ∧ i64P d.to
theorem part7_I {o : Int} {d : Dat} (h : datI d) : ∀ p, p ∈ part7 o d → prtI p := by
  have h0 : i64P val0.n := by unfold i64P val0; decide
  have h0' : i64P 0 := h0
  have hadd : i64P (if d.add then 0 else 1) := by unfold i64P; split <;> decide
  obtain ⟨h1, h2, h3, h4, h5, h6⟩ := h
  intro p hp
  simp only [part7, List.mem_cons, List.not_mem_nil, or_false] at hp
  rcases hp with rfl | rfl | rfl | rfl | rfl | rfl | rfl
  · unfold fst1; split <;> (try split) <;> (try split) <;> first | exact ⟨h0', h3⟩ | exact ⟨h1, h0⟩ | exact ⟨h2, h0⟩
  · unfold fst2; split <;> (try split) <;> (try split) <;> first | exact ⟨h0', h3⟩ | exact ⟨h1, h0⟩ | exact ⟨h2, h0⟩
  · unfold fst3; split <;> (try split) <;> (try split) <;> first | exact ⟨h0', h3⟩ | exact ⟨h1, h0⟩ | exact ⟨h2, h0⟩
  · exact ⟨h4, h0⟩
  · exact ⟨hadd, h0⟩
  · exact ⟨h5, h0⟩
  · exact ⟨h6, h0⟩
theorem part7_can {o : Int} {d : Dat} : ∀ p, p ∈ part7 o d → canP p := part7_all rfl (fun _ => rfl)
theorem part7_val (o : Int) (d : Dat) : (part7 o d).map Prt.value = kindsO o := by
  apply List.ext_getElem?
  intro i
  rcases Nat.lt_or_ge i 7 with h | h
  · have := part7_flag o d i h
    simp only [kindsO, List.getElem?_map]
    rw [List.getElem?_eq_getElem (show i < (part7 o d).length from h), List.getElem?_eq_getElem (show i < (part7 o dat0).length from h)]
    exact congrArg some this
  · rw [List.getElem?_eq_none (by simp [part7_len]; exact h), List.getElem?_eq_none (by simp [kindsO, part7_len]; exact h)]
theorem iEq_add (b : Bool) : iEq (if b then 0 else 1) 0 = b := by cases b <;> simp [iEq]
theorem datOf_part7 {o : Int} (d : Dat) : datOf o (part7 o d) = d := by
  obtain ⟨e, a, v, t, add, fr, to⟩ := d
  simp only [part7, datOf]
  by_cases h1 : o = 1
  · subst h1; simp [fst1, fst2, fst3, prtN, prtV, iEq_add]
  · by_cases h2 : o = 2
    · subst h2; simp [fst1, fst2, fst3, prtN, prtV, iEq_add]
    · by_cases h3 : o = 3
      · subst h3; simp [fst1, fst2, fst3, prtN, prtV, iEq_add]
      · simp [fst1, fst2, fst3, prtN, prtV, iEq_add, h1, h2, h3]
theorem dkey_ok {o : Int} {d : Dat} (h : dkeyE o d = 0) : (1 ≤ o ∧ o ≤ 4) ∧ dmayP d ∧ hasP o d ∧ dkeyB o d = (part7 o d).flatMap partB := by
  unfold dkeyE at h
  split at h
  · rename_i h1
    split at h
    · rename_i h2
      refine ⟨h1, h2.1, h2.2, ?_⟩
      rw [dkeyB, if_pos h1, if_pos h2]
    · cases h
  · cases h
theorem key_read {o : Int} {d : Dat} (hi : datI d) (h : dkeyE o d = 0) : drdE o (dkeyB o d) = 0 ∧ drdD o (dkeyB o d) = d := by
  obtain ⟨h1, h2, h3, h4⟩ := dkey_ok h
  have hr := rdAll_key (part7 o d) [] fun p hp => ⟨part7_P h2.2.2.2.2.1 p hp, part7_I hi p hp, part7_can p hp⟩
  rw [List.append_nil, part7_val, ← h4] at hr
  have hok : rdOK (kindsO o) (dkeyB o d) := by rw [rdOK, hr]; exact ⟨rfl, rfl⟩
  have hL : rdL (kindsO o) (dkeyB o d) = part7 o d := by rw [rdL, if_pos hok, hr]
  have hP : drdP o (dkeyB o d) := by
    refine ⟨h1, hok, ?_⟩
    rw [hL, datOf_part7]
    exact ⟨h2, h3, rfl⟩
  refine ⟨by rw [drdE, if_pos h1, if_pos hP], by rw [drdD, if_pos hP, hL, datOf_part7]⟩
theorem seven_map {l : List Prt} {a b c d e f g : Bool} (h : l.map Prt.value = [a, b, c, d, e, f, g]) : ∃ p0 p1 p2 p3 p4 p5 p6, l = [p0, p1, p2, p3, p4, p5, p6] ∧ p0.value = a ∧ p1.value = b ∧ p2.value = c ∧ p3.value = d ∧ p4.value = e ∧ p5.value = f ∧ p6.value = g := by
  have hl : l.length = 7 := by have := congrArg List.length h; simpa using this
  obtain ⟨p0, p1, p2, p3, p4, p5, p6, rfl⟩ := seven hl
  simp only [List.map_cons, List.map_nil, List.cons.injEq, and_true] at h
  exact ⟨p0, p1, p2, p3, p4, p5, p6, rfl, h.1, h.2.1, h.2.2.1, h.2.2.2.1, h.2.2.2.2.1, h.2.2.2.2.2.1, h.2.2.2.2.2.2⟩
theorem can_n {p : Prt} (h : canP p) (hv : p.value = false) : p = prtN p.n := by rw [canP, hv] at h; exact h
theorem can_v {p : Prt} (h : canP p) (hv : p.value = true) : p = prtV p.v := by rw [canP, hv] at h; exact h
theorem part7_datOf {o : Int} {l : List Prt} (hk : l.map Prt.value = kindsO o) (hc : ∀ p, p ∈ l → canP p) (h4 : fourN l = if (datOf o l).add then 0 else 1) : part7 o (datOf o l) = l := by
  have hk' : ∃ a b c, kindsO o = [a, b, c, false, false, false, false] := ⟨_, _, _, rfl⟩
  have ek : kindsO o = if o = 1 then [false, false, true, false, false, false, false] else if o = 2 then [false, false, true, false, false, false, false] else if o = 3 then [false, true, false, false, false, false, false] else [true, false, false, false, false, false, false] := by
    by_cases h1 : o = 1
    · subst h1; rfl
    · by_cases h2 : o = 2
      · subst h2; rfl
      · by_cases h3 : o = 3
        · subst h3; rfl
        · simp [kindsO, part7, fst1, fst2, fst3, prtN, prtV, h1, h2, h3]
  rw [ek] at hk
  by_cases h1 : o = 1
  · rw [if_pos h1] at hk
    obtain ⟨p0, p1, p2, p3, p4, p5, p6, rfl, g0, g1, g2, g3, g4, g5, g6⟩ := seven_map hk
    have c0 := can_n (hc p0 (by simp)) g0
    have c1 := can_n (hc p1 (by simp)) g1
    have c2 := can_v (hc p2 (by simp)) g2
    have c3 := can_n (hc p3 (by simp)) g3
    have c4 := can_n (hc p4 (by simp)) g4
    have c5 := can_n (hc p5 (by simp)) g5
    have c6 := can_n (hc p6 (by simp)) g6
    subst h1
    simp only [datOf, if_true, fourN] at h4 ⊢
    simp only [part7, fst1, fst2, fst3, if_true]
    rw [← h4, ← c0, ← c1, ← c2, ← c3, ← c4, ← c5, ← c6]
  · rw [if_neg h1] at hk
    by_cases h2 : o = 2
    · rw [if_pos h2] at hk
      obtain ⟨p0, p1, p2, p3, p4, p5, p6, rfl, g0, g1, g2, g3, g4, g5, g6⟩ := seven_map hk
      have c0 := can_n (hc p0 (by simp)) g0
      have c1 := can_n (hc p1 (by simp)) g1
      have c2 := can_v (hc p2 (by simp)) g2
      have c3 := can_n (hc p3 (by simp)) g3
      have c4 := can_n (hc p4 (by simp)) g4
      have c5 := can_n (hc p5 (by simp)) g5
      have c6 := can_n (hc p6 (by simp)) g6
      simp only [datOf, if_neg h1, if_pos h2, fourN] at h4 ⊢
      simp only [part7, fst1, fst2, fst3, if_neg h1, if_pos h2]
      rw [← h4, ← c0, ← c1, ← c2, ← c3, ← c4, ← c5, ← c6]
    · rw [if_neg h2] at hk
      by_cases h3 : o = 3
      · rw [if_pos h3] at hk
        obtain ⟨p0, p1, p2, p3, p4, p5, p6, rfl, g0, g1, g2, g3, g4, g5, g6⟩ := seven_map hk
        have c0 := can_n (hc p0 (by simp)) g0
        have c1 := can_v (hc p1 (by simp)) g1
        have c2 := can_n (hc p2 (by simp)) g2
        have c3 := can_n (hc p3 (by simp)) g3
        have c4 := can_n (hc p4 (by simp)) g4
        have c5 := can_n (hc p5 (by simp)) g5
        have c6 := can_n (hc p6 (by simp)) g6
        simp only [datOf, if_neg h1, if_neg h2, if_pos h3, fourN] at h4 ⊢
        simp only [part7, fst1, fst2, fst3, if_neg h1, if_neg h2, if_pos h3]
        rw [← h4, ← c0, ← c1, ← c2, ← c3, ← c4, ← c5, ← c6]
      · rw [if_neg h3] at hk
        obtain ⟨p0, p1, p2, p3, p4, p5, p6, rfl, g0, g1, g2, g3, g4, g5, g6⟩ := seven_map hk
        have c0 := can_v (hc p0 (by simp)) g0
        have c1 := can_n (hc p1 (by simp)) g1
        have c2 := can_n (hc p2 (by simp)) g2
        have c3 := can_n (hc p3 (by simp)) g3
        have c4 := can_n (hc p4 (by simp)) g4
        have c5 := can_n (hc p5 (by simp)) g5
        have c6 := can_n (hc p6 (by simp)) g6
        simp only [datOf, if_neg h1, if_neg h2, if_neg h3, fourN] at h4 ⊢
        simp only [part7, fst1, fst2, fst3, if_neg h1, if_neg h2, if_neg h3]
        rw [← h4, ← c0, ← c1, ← c2, ← c3, ← c4, ← c5, ← c6]
theorem read_key {o : Int} {k : List UInt8} (h : drdE o k = 0) : dkeyE o (drdD o k) = 0 ∧ dkeyB o (drdD o k) = k := by
  have hP : drdP o k := by
    unfold drdE at h
    split at h
    · split at h
      · assumption
      · cases h
    · cases h
  obtain ⟨h1, h2, h3, h4, h5⟩ := hP
  obtain ⟨g1, g2, g3⟩ := key_rdAll (kindsO o) k h2.1
  have hL : rdL (kindsO o) k = (rdAll (kindsO o) (k, false)).1 := by rw [rdL, if_pos h2]
  have hx : (rdAll (kindsO o) (k, false)).2.1 = [] := List.length_eq_zero_iff.1 h2.2
  rw [hx, List.append_nil, ← hL] at g1
  rw [← hL] at g2 g3
  have hp := part7_datOf g2 (fun p hp => (g3 p hp).2.2) h5
  have hD : drdD o k = datOf o (rdL (kindsO o) k) := by rw [drdD, if_pos ⟨h1, h2, h3, h4, h5⟩]
  rw [hD]
  exact ⟨by rw [dkeyE, if_pos h1, if_pos ⟨h3, h4⟩], by rw [dkeyB, if_pos h1, if_pos ⟨h3, h4⟩, hp, g1]⟩
theorem key_cmp {o : Int} {a b : Dat} (ia : datI a) (ib : datI b) (ha : dkeyE o a = 0) (hb : dkeyE o b = 0) : Lib.compareBytes (dkeyB o a) (dkeyB o b) = if 1 ≤ o ∧ o ≤ 4 then cmpPs (part7 o a) (part7 o b) else 0 := by
  obtain ⟨h1, h2, h3, h4⟩ := dkey_ok ha
  obtain ⟨_, g2, g3, g4⟩ := dkey_ok hb
  rw [if_pos h1, h4, g4]
  exact cb_key _ _ (by rw [part7_val, part7_val]) (fun p hp => ⟨part7_P h2.2.2.2.2.1 p hp, part7_I ia p hp⟩) (fun p hp => ⟨part7_P g2.2.2.2.2.1 p hp, part7_I ib p hp⟩)
end Go.Proofs
