/- Plain facts on the document's reader of texts, place by place. No condition. -/
import Derived.Test.YtnjnjbombcefcaaDoorCDInst
set_option linter.all false
namespace Go.Txt
theorem skipL_end (s : List UInt8) {i : Nat} (h : s.length ≤ i) : skipL (s.drop i) = 0:=by
  rw [List.drop_of_length_le h];unfold skipL;rfl
theorem skipL_stop {s : List UInt8} {i : Nat} (h : i < s.length) (h59 : s[i] ≠ 59) (hb : blankB s[i] = false) : skipL (s.drop i) = 0:=by
  rw [drop_c h,skipL,if_neg h59,if_neg (by rw [hb];decide)]
theorem skipL_bl {s : List UInt8} {i : Nat} (h : i < s.length) (h59 : s[i] ≠ 59) (hb : blankB s[i] = true) : i + skipL (s.drop i) = (i + 1) + skipL (s.drop (i + 1)):=by
  rw [drop_c h,skipL,if_neg h59,if_pos hb];omega
theorem rem_tw {s : List UInt8} {i j : Nat} (h : i < s.length) (hc : s[i] = 59) (hij0 : i ≤ j) (hj : j ≤ s.length) (h1 : ∀ (m : Nat) (h : m < s.length),i ≤ m → m < j → s[m] ≠ 10) (h2 : ∀ (h : j < s.length),s[j] = 10) :
    i < j ∧ (s.drop (i + 1)).dropWhile nnl = s.drop j ∧ ((s.drop (i + 1)).takeWhile nnl).length = j - (i + 1):=by
  have hij : i < j:=by
    rcases Nat.lt_or_ge i j with h'|h'
    · exact h'
    · exfalso
      have e : j = i:=by omega
      subst e
      have:=h2 h
      rw [hc] at this
      exact absurd this (by decide)
  obtain ⟨e1,e2⟩:=tw_n nnl (s.drop (i + 1)) (j - (i + 1)) (by rw [List.length_drop];omega) (fun m hm hmj=>by
    rw [List.length_drop] at hm
    rw [List.getElem_drop]
    have:=h1 (i + 1 + m) (by omega) (by omega) (by omega)
    simpa [nnl] using this) (fun hl=>by
    rw [List.length_drop] at hl
    rw [List.getElem_drop]
    have:=h2 (by omega)
    have e : i + 1 + (j - (i + 1)) = j:=by omega
    simp only [e,nnl,this];decide)
  refine ⟨hij,?_,?_⟩
  · rw [e2,List.drop_drop];congr 1;omega
  · rw [e1,List.length_take,List.length_drop];omega
theorem skipL_rem {s : List UInt8} {i j : Nat} (h : i < s.length) (hc : s[i] = 59) (hij0 : i ≤ j) (hj : j ≤ s.length) (h1 : ∀ (m : Nat) (h : m < s.length),i ≤ m → m < j → s[m] ≠ 10) (h2 : ∀ (h : j < s.length),s[j] = 10) :
    i < j ∧ i + skipL (s.drop i) = j + skipL (s.drop j):=by
  obtain ⟨hij,e1,e2⟩:=rem_tw h hc hij0 hj h1 h2
  refine ⟨hij,?_⟩
  rw [drop_c h,skipL,if_pos hc,e1,e2];omega
def rwI (l : List UInt8) : Int:=match rsz l with
  | none=>-1
  | some n=>(n : Int)
theorem rsz_word {s : List UInt8} {a k : Nat} (ha : a < s.length) (h34 : s[a] ≠ 34) (hak : a ≤ k) (hk : k ≤ s.length) (h1 : ∀ (m : Nat) (h : m < s.length),a ≤ m → m < k → wordC s[m] = true) (h2 : ∀ (h : k < s.length),wordC s[k] = false) : rsz (s.drop a) = some (k - a):=by
  obtain ⟨e1,_⟩:=tw_n wordC (s.drop a) (k - a) (by rw [List.length_drop];omega) (fun m hm hmj=>by
    rw [List.length_drop] at hm
    rw [List.getElem_drop]
    exact h1 (a + m) (by omega) (by omega) (by omega)) (fun hl=>by
    rw [List.length_drop] at hl
    rw [List.getElem_drop]
    have:=h2 (by omega)
    have e : a + (k - a) = k:=by omega
    simp only [e,this])
  have hw : wordN (s.drop a) = k - a:=by unfold wordN;rw [e1,List.length_take,List.length_drop];omega
  have hr : rsz (s.drop a) = some (wordN (s.drop a)):=by
    rw [drop_c ha];simp only [rsz,if_neg h34]
  rw [hr,hw]
theorem rsz_no {s : List UInt8} {a : Nat} (ha : a < s.length) (h34 : s[a] = 34) (h1 : ∀ (m : Nat) (h : m < s.length),a < m → s[m] ≠ 34) : rsz (s.drop a) = none:=by
  rw [drop_c ha]
  simp only [rsz,if_pos h34]
  rw [if_neg]
  intro hm
  obtain ⟨j,hj,e⟩:=List.getElem_of_mem hm
  rw [List.length_drop] at hj
  rw [List.getElem_drop] at e
  exact h1 (a + 1 + j) (by omega) (by omega) e
theorem rsz_quo {s : List UInt8} {a k : Nat} (ha : a < s.length) (h34 : s[a] = 34) (hak : a < k) (hk : k < s.length) (hc : s[k] = 34) (h1 : ∀ (m : Nat) (h : m < s.length),a < m → m < k → s[m] ≠ 34) : rsz (s.drop a) = some (k + 1 - a):=by
  obtain ⟨e1,_⟩:=tw_n nqt (s.drop (a + 1)) (k - (a + 1)) (by rw [List.length_drop];omega) (fun m hm hmj=>by
    rw [List.length_drop] at hm
    rw [List.getElem_drop]
    have:=h1 (a + 1 + m) (by omega) (by omega) (by omega)
    simpa [nqt] using this) (fun hl=>by
    rw [List.length_drop] at hl
    rw [List.getElem_drop]
    have e : a + 1 + (k - (a + 1)) = k:=by omega
    simp only [e,nqt,hc];decide)
  have hm : (34 : UInt8) ∈ s.drop (a + 1):=by
    have : (s.drop (a + 1))[k - (a + 1)]'(by rw [List.length_drop];omega) = 34:=by
      rw [List.getElem_drop]
      have e : a + 1 + (k - (a + 1)) = k:=by omega
      simp only [e,hc]
    exact this ▸ List.getElem_mem _
  rw [drop_c ha]
  simp only [rsz,if_pos h34,if_pos hm,e1,List.length_take,List.length_drop]
  congr 1;omega
def rnode (leaf : Leaf) (s : List UInt8) (f : Nat) (c : UInt8) (i deep many : Nat) : Except Nat (Nd × Nat × Nat) :=
  if c ∈ opn then
    (if 50 ≤ deep ∨ 5000 < many + 1 then .error i
     else match rnodes leaf s f (some (cls.getD (opn.idxOf c) 0)) (i + 1) (deep + 1) (many + 1) with
       | .error q=>.error q
       | .ok (ks,i2,m2)=>.ok (opnN c (place s i).1 (place s i).2 ks,i2,m2))
  else rleaf leaf s i many
theorem rnodes_end {leaf : Leaf} {s : List UInt8} {f : Nat} {e : Option UInt8} {i deep many : Nat} (h : s.length ≤ i + skipL (s.drop i)) :
    rnodes leaf s (f + 1) e i deep many = if e.isSome = true then .error (i + skipL (s.drop i)) else .ok ([],i + skipL (s.drop i),many):=by
  rw [rnodes,List.drop_of_length_le h]
theorem rnodes_cl {leaf : Leaf} {s : List UInt8} {f : Nat} {e : Option UInt8} {i deep many : Nat} (h : i + skipL (s.drop i) < s.length) (hc : s[i + skipL (s.drop i)] ∈ cls) :
    rnodes leaf s (f + 1) e i deep many = if e = some (s[i + skipL (s.drop i)]) then .ok ([],i + skipL (s.drop i) + 1,many) else .error (i + skipL (s.drop i)):=by
  rw [rnodes,drop_c h];simp only [if_pos hc]
theorem rnodes_nd {leaf : Leaf} {s : List UInt8} {f : Nat} {e : Option UInt8} {i deep many : Nat} (h : i + skipL (s.drop i) < s.length) (hc : ¬ s[i + skipL (s.drop i)] ∈ cls) :
    rnodes leaf s (f + 1) e i deep many = match rnode leaf s f (s[i + skipL (s.drop i)]) (i + skipL (s.drop i)) deep many with
      | .error q=>.error q
      | .ok (x,i2,m2)=>match rnodes leaf s f e i2 deep m2 with
        | .error q=>.error q
        | .ok (xs,i3,m3)=>.ok (x :: xs,i3,m3):=by
  rw [rnodes,drop_c h];simp only [if_neg hc];rfl
theorem rleaf_le {leaf : Leaf} {s : List UInt8} {i many : Nat} {x : Nd} {i2 m2 : Nat} (hi : i ≤ s.length) (h : rleaf leaf s i many = .ok (x,i2,m2)) : i < i2 ∧ i2 ≤ s.length:=by
  unfold rleaf at h
  split at h
  · cases h
  · next n hn =>
    have hl:=rsz_le hn
    rw [List.length_drop] at hl
    split at h
    · cases h
    · next hz =>
      split at h
      · cases h
      · split at h
        · cases h;omega
        · cases h
theorem rnodes_le (leaf : Leaf) (s : List UInt8) : ∀ (f : Nat) (e : Option UInt8) (i deep many : Nat) (xs : List Nd) (i2 m2 : Nat),i ≤ s.length → rnodes leaf s f e i deep many = .ok (xs,i2,m2) → i ≤ i2 ∧ i2 ≤ s.length
  | 0,_,_,_,_,_,_,_,_,h=>by rw [rnodes] at h;cases h
  | f + 1, e, i,deep,many,xs,i2,m2,hi,h=>by
    have hkl:=skipL_le _ (s.drop i) (Nat.le_refl _)
    rw [List.length_drop] at hkl
    rcases Nat.lt_or_ge (i + skipL (s.drop i)) s.length with hj|hj
    · by_cases hc : s[i + skipL (s.drop i)] ∈ cls
      · rw [rnodes_cl hj hc] at h
        split at h
        · cases h;omega
        · cases h
      · rw [rnodes_nd hj hc] at h
        split at h
        · cases h
        · next x i3 m3 hx =>
          have h3 : i + skipL (s.drop i) ≤ i3 ∧ i3 ≤ s.length:=by
            unfold rnode at hx
            split at hx
            · split at hx
              · cases hx
              · split at hx
                · cases hx
                · next ks i4 m4 hks =>
                  cases hx
                  have:=rnodes_le leaf s f _ _ _ _ _ _ _ (by omega) hks
                  omega
            · have:=rleaf_le (by omega) hx
              omega
          split at h
          · cases h
          · next hy =>
            cases h
            have:=rnodes_le leaf s f _ _ _ _ _ _ _ h3.2 hy
            omega
    · rw [rnodes_end hj] at h
      split at h
      · cases h
      · cases h;omega
theorem rnode_le {leaf : Leaf} {s : List UInt8} {f : Nat} {c : UInt8} {i deep many : Nat} {x : Nd} {i2 m2 : Nat} (hi : i < s.length) (h : rnode leaf s f c i deep many = .ok (x,i2,m2)) : i < i2 ∧ i2 ≤ s.length:=by
  unfold rnode at h
  split at h
  · split at h
    · cases h
    · split at h
      · cases h
      · next ks i4 m4 hks =>
        cases h
        have:=rnodes_le leaf s f _ _ _ _ _ _ _ (by omega) hks
        omega
  · exact rleaf_le (by omega) h
end Go.Txt
namespace Go.Txt
theorem sz_le {l : List UInt8} {n : Nat} (h : sz l = some n) : n ≤ l.length ∧ 0 < n:=by
  refine ⟨?_,sz_pos h⟩
  cases l with
  | nil=>simp [sz] at h
  | cons c r =>
    rw [rsz_sz] at h
    cases hr : rsz (c :: r) with
    | none=>rw [hr] at h;cases h
    | some k =>
      rw [hr] at h
      simp only at h
      split at h
      · cases h
      · cases h;exact rsz_le hr
end Go.Txt
