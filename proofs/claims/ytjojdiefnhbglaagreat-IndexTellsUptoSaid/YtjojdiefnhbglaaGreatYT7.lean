/- The plain law of an index: its trees have the keys of the datoms, sorted. -/
import Derived.Test.YtjojdiefnhbglaaGreatYT6
import Derived.Test.YtjojdiefnhbglaaGreatYD3
set_option linter.all false
namespace Go.Proofs
open Go.AL Go.Sort
structure TreeOf (o : Int) (L : List Dat) (t : Option Tr) : Prop where
  ok : okT (topT t)
  rise : RiseT (topT t)
  nov : NoV (topT t)
  keys : ∀ k,k ∈ keysT (topT t) ↔ ∃ d,d ∈ L ∧ dkeyE o d = 0 ∧ dkeyB o d = k
  len : sz (topT t) ≤ L.length
theorem TreeOf.init (o : Int) : TreeOf o [] none:=⟨trivial,List.Pairwise.nil,trivial,fun k=>by simp [topT,keysT,toL],Nat.le_refl _⟩
theorem TreeOf.skip {o : Int} {L : List Dat} {t : Option Tr} {d : Dat} (h : TreeOf o L t) (hd : dkeyE o d ≠ 0) : TreeOf o (L ++ [d]) t :=
  ⟨h.ok,h.rise,h.nov,fun k=>by
    rw [h.keys]
    constructor
    · rintro ⟨x,hx,h1⟩;exact ⟨x,List.mem_append_left _ hx,h1⟩
    · rintro ⟨x,hx,h1⟩
      rcases List.mem_append.1 hx with hx|hx
      · exact ⟨x,hx,h1⟩
      · rw [List.mem_singleton.1 hx] at h1;exact absurd h1.1 hd,by have:=h.len;simp;omega⟩
theorem TreeOf.put {o : Int} {L : List Dat} {t : Option Tr} {d : Dat} (h : TreeOf o L t) (hd : dkeyE o d = 0) (hl : L.length < 1152921504606846975) : TreeOf o (L ++ [d]) (some (putT (dkeyB o d) [] (topT t))):=by
  have hs : sz (topT t) < 1152921504606846976:=by have:=h.len;omega
  obtain ⟨a1,a2,a3⟩:=put_ok (dkeyB o d) [] h.ok hs
  refine ⟨a1,put_rise _ _ h.ok h.rise hs,put_noV _ h.ok h.nov hs,fun k=>?_,?_⟩
  · show k ∈ keysT (putT (dkeyB o d) [] (topT t)) ↔ _
    rw [put_keys _ _ h.ok h.rise hs,insC_mem cbz,h.keys]
    constructor
    · rintro (rfl | ⟨x,hx,h1⟩)
      · exact ⟨d,by simp,hd,rfl⟩
      · exact ⟨x,List.mem_append_left _ hx,h1⟩
    · rintro ⟨x,hx,h1,h2⟩
      rcases List.mem_append.1 hx with hx|hx
      · exact .inr ⟨x,hx,h1,h2⟩
      · rw [List.mem_singleton.1 hx] at h2;exact .inl h2.symm
  · have:=h.len
    show sz (putT (dkeyB o d) [] (topT t)) ≤ _
    simp;omega
theorem key_ok {o : Int} {d : Dat} (ho : 1 ≤ o ∧ o ≤ 4) : dkeyE o d = 0 ↔ dmayP d ∧ hasP o d:=by
  unfold dkeyE
  rw [if_pos ho]
  split
  · exact ⟨fun _=>by assumption,fun _=>rfl⟩
  · exact ⟨fun h=>absurd h (by decide),fun h=>absurd h (by assumption)⟩
theorem key_cmpD {o : Int} {a b : Dat} (ho : 1 ≤ o ∧ o ≤ 4) (ia : datI a) (ib : datI b) (ha : dkeyE o a = 0) (hb : dkeyE o b = 0) : cbB (dkeyB o a) (dkeyB o b) = cmpD o a b:=by
  have:=key_cmp ia ib ha hb
  rw [if_pos ho] at this
  exact this
def okL (L : List Dat) : Prop:=∀ d,d ∈ L → dmayP d ∧ datI d
theorem hasB_t (o : Int) (d : Dat) : hasB o d = true ↔ hasP o d:=by unfold hasB;rw [dP_t]
theorem dsort_mem {o : Int} (ho : 1 ≤ o ∧ o ≤ 4) (L : List Dat) (d : Dat) : d ∈ dsortL o L ↔ d ∈ L ∧ hasP o d:=by
  unfold dsortL
  rw [if_pos ho,sortC_mem,List.mem_filter,hasB_t]
theorem dsort_rise {o : Int} (ho : 1 ≤ o ∧ o ≤ 4) (L : List Dat) : Rise (cmpD o) (dsortL o L):=by
  unfold dsortL
  rw [if_pos ho];exact sortC_rise (wc_cmpD o) (cmpD_z o) _
theorem TreeOf.sorted {o : Int} {L : List Dat} {t : Option Tr} (h : TreeOf o L t) (ho : 1 ≤ o ∧ o ≤ 4) (hL : okL L) : keysT (topT t) = (dsortL o L).map (dkeyB o):=by
  have hk : ∀ d,d ∈ dsortL o L → dkeyE o d = 0 ∧ datI d:=fun d hd=>by
    obtain ⟨h1,h2⟩:=(dsort_mem ho L d).1 hd
    exact ⟨(key_ok ho).2 ⟨(hL d h1).1,h2⟩,(hL d h1).2⟩
  refine rise_eq wc_cb h.rise ?_ fun k=>?_
  · have key : ∀ l : List Dat,(∀ d,d ∈ l → dkeyE o d = 0 ∧ datI d) → Rise (cmpD o) l → Rise cbB (l.map (dkeyB o)):=by
      intro l
      induction l with
      | nil=>exact fun _ _=>List.Pairwise.nil
      | cons x l ih =>
        intro hx hr
        unfold Rise at *
        obtain ⟨h1,h2⟩:=List.pairwise_cons.1 hr
        refine List.pairwise_cons.2 ⟨fun k hk=>?_,ih (fun d hd=>hx d (.tail _ hd)) h2⟩
        obtain ⟨y,hy,rfl⟩:=List.mem_map.1 hk
        have e1:=hx x (.head _)
        have e2:=hx y (.tail _ hy)
        rw [key_cmpD ho e1.2 e2.2 e1.1 e2.1]
        exact h1 y hy
    exact key _ hk (dsort_rise ho L)
  · rw [h.keys,List.mem_map]
    constructor
    · rintro ⟨d,hd,h1,h2⟩
      exact ⟨d,(dsort_mem ho L d).2 ⟨hd,((key_ok ho).1 h1).2⟩,h2⟩
    · rintro ⟨d,hd,h2⟩
      exact ⟨d,((dsort_mem ho L d).1 hd).1,(hk d hd).1,h2⟩
theorem TreeOf.size {o : Int} {L : List Dat} {t : Option Tr} (h : TreeOf o L t) (ho : 1 ≤ o ∧ o ≤ 4) (hL : okL L) : sz (topT t) = (dsortL o L).length:=by
  rw [← keys_len,h.sorted ho hL,List.length_map]
end Go.Proofs
