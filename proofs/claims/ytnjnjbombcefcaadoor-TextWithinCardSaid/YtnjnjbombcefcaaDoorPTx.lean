/- The plain law of texts' nodes: a machine over tokens, and a reader by descent, say the same. No condition. -/
import Derived.Test.YtnjnjbombcefcaaDoorCT11
import Derived.Lib.Bytealg
set_option linter.all false
namespace Go.Txt
inductive Nd where
  | mk (k vk vn : Int) (vs s : List UInt8) (kids : List Nd) (ln cl : Int)
def Nd.k : Nd → Int | .mk k _ _ _ _ _ _ _=>k
def Nd.within : Nd → List Nd → Nd | .mk k a b c d _ x y,l=>.mk k a b c d l x y
structure Tok where
  s : List UInt8
  ln : Nat
  cl : Nat
  bad : Bool
def blankB (c : UInt8) : Bool:=c == 32 || c == 9 || c == 10 || c == 13
abbrev opn : List UInt8:=[40,91,123]
abbrev cls : List UInt8:=[41,93,125]
abbrev stp : List UInt8:=[40,41,91,93,123,125,34,59]
abbrev fit : List UInt8:=[32,9,10,13,40,41,91,93,123,125,59]
def wordC (c : UInt8) : Bool:=decide (32 < c.toNat) && decide (c.toNat ≤ 126) && !(stp.contains c)
def nnl (c : UInt8) : Bool:=c != 10
def nqt (c : UInt8) : Bool:=c != 34
def wordN (l : List UInt8) : Nat:=(l.takeWhile wordC).length
def sz : List UInt8 → Option Nat
  | []=>none
  | c :: r=>if c = 34 then (if 34 ∈ r then some ((r.takeWhile nqt).length + 2) else none) else if wordN (c :: r) = 0 then none else some (wordN (c :: r))
theorem sz_pos {l : List UInt8} {n : Nat} (h : sz l = some n) : 0 < n:=by
  cases l with
  | nil=>simp [sz] at h
  | cons c r =>
    simp only [sz] at h
    split at h
    · split at h
      · cases h;omega
      · cases h
    · split at h
      · cases h
      · cases h;omega
def adv (p : Nat × Nat) (c : UInt8) : Nat × Nat:=if c = 10 then (p.1 + 1,1) else (p.1,p.2 + 1)
def advL (p : Nat × Nat) (l : List UInt8) : Nat × Nat:=l.foldl adv p
def place (s : List UInt8) (i : Nat) : Nat × Nat:=advL (1,1) (s.take i)
def toks (l : List UInt8) (ln cl : Nat) (w : Bool) : List Tok :=
  match l with
  | []=>[⟨[],ln,cl,false⟩]
  | c :: r =>
    if c = 10 then toks r (ln + 1) 1 false
    else if blankB c = true then toks r ln (cl + 1) false
    else if c = 59 then toks (r.dropWhile nnl) ln (cl + 1 + (r.takeWhile nnl).length) w
    else if c ∈ opn ++ cls then ⟨[c],ln,cl,false⟩ :: toks r ln (cl + 1) false
    else match _h : sz (c :: r) with
      | none=>if w = false ∧ c = 34 then [⟨[],(advL (ln,cl) (c :: r)).1,(advL (ln,cl) (c :: r)).2,true⟩] else [⟨[],ln,cl,true⟩]
      | some n=>if w = true then [⟨[],ln,cl,true⟩] else ⟨(c :: r).take n,ln,cl,false⟩ :: toks ((c :: r).drop n) ln (cl + n) true
termination_by l.length
decreasing_by
  · simp
  · simp
  · have : (r.dropWhile nnl).length ≤ r.length:=(List.dropWhile_suffix _).length_le
    simp only [List.length_cons];omega
  · simp
  · have:=sz_pos _h
    simp only [List.length_drop,List.length_cons];omega
inductive Res where
  | ok (l : List Nd)
  | err (ln cl : Nat)
abbrev Leaf : Type:=List UInt8 → Option (Int × Int × Int × List UInt8 × List UInt8)
def leafN (x : Int × Int × Int × List UInt8 × List UInt8) (ln cl : Nat) : Nd:=.mk x.1 x.2.1 x.2.2.1 x.2.2.2.1 x.2.2.2.2 [] ln cl
def opnN (c : UInt8) (ln cl : Nat) (kids : List Nd) : Nd:=.mk (3 + (opn.idxOf c : Nat)) 0 0 [] [] kids ln cl
def mach (leaf : Leaf) : List Tok → List Nd → List (List Nd × Nd) → Nat → Res
  | [],_,_,_=>.ok []
  | t :: ts,cur,stk,many =>
    if t.bad = true ∨ (t.s = [] ∧ stk ≠ []) then .err t.ln t.cl
    else match t.s with
      | []=>.ok cur
      | c :: r =>
        if r = [] ∧ c ∈ cls then
          match stk with
          | []=>.err t.ln t.cl
          | (o,h) :: stk'=>if h.k = 3 + (cls.idxOf c : Nat) then mach leaf ts (o ++ [h.within cur]) stk' many else .err t.ln t.cl
        else if 5000 < many + 1 then .err t.ln t.cl
        else if r = [] ∧ c ∈ opn then (if stk.length = 50 then .err t.ln t.cl else mach leaf ts [] ((cur,opnN c t.ln t.cl []) :: stk) (many + 1))
        else match leaf (c :: r) with
          | some x=>mach leaf ts (cur ++ [leafN x t.ln t.cl]) stk (many + 1)
          | none=>.err t.ln t.cl
def rsz : List UInt8 → Option Nat
  | []=>some 0
  | c :: r=>if c = 34 then (if 34 ∈ r then some ((r.takeWhile nqt).length + 2) else none) else some (wordN (c :: r))
def fits : List UInt8 → Bool
  | []=>true
  | c :: _=>fit.contains c
theorem advL_app (p : Nat × Nat) (l m : List UInt8) : advL p (l ++ m) = advL (advL p l) m:=List.foldl_append
theorem drop_tw {α : Type} (p : α → Bool) (l : List α) : l.drop (l.takeWhile p).length = l.dropWhile p:=by
  conv=>lhs;arg 2;rw [← List.takeWhile_append_dropWhile (p:=p) (l:=l)]
  rw [List.drop_left]
theorem rsz_sz {c : UInt8} {r : List UInt8} : sz (c :: r) = match rsz (c :: r) with|none=>none|some n=>if n = 0 then none else some n:=by
  simp only [sz,rsz]
  by_cases h : c = 34
  · rw [if_pos h,if_pos h]
    split <;> simp
  · rw [if_neg h,if_neg h]
theorem rsz_le {l : List UInt8} {n : Nat} (h : rsz l = some n) : n ≤ l.length:=by
  cases l with
  | nil=>simp [rsz] at h;omega
  | cons c r =>
    simp only [rsz] at h
    by_cases h34 : c = 34
    · rw [if_pos h34] at h
      split at h
      · next hm =>
        cases h
        have h1 : (r.takeWhile nqt).length + (r.dropWhile nqt).length = r.length:=by rw [← List.length_append,List.takeWhile_append_dropWhile]
        have h2 : r.dropWhile nqt ≠ []:=fun e=>by
          have:=List.takeWhile_append_dropWhile (p:=nqt) (l:=r)
          rw [e,List.append_nil] at this
          rw [← this] at hm
          have:=List.all_eq_true.1 (List.all_takeWhile (p:=nqt) (l:=r)) 34 hm
          simp [nqt] at this
        have h3:=List.length_pos_iff.2 h2
        simp only [List.length_cons];omega
      · cases h
    · rw [if_neg h34] at h
      cases h
      exact (List.takeWhile_prefix _).length_le
end Go.Txt

namespace Go.Txt
def toksF : Nat → List UInt8 → Nat → Nat → Bool → List Tok
  | 0,_,_,_,_=>[]
  | _ + 1,[],ln,cl,_=>[⟨[],ln,cl,false⟩]
  | f + 1,c :: r,ln,cl,w =>
    if c = 10 then toksF f r (ln + 1) 1 false
    else if blankB c = true then toksF f r ln (cl + 1) false
    else if c = 59 then toksF f (r.dropWhile nnl) ln (cl + 1 + (r.takeWhile nnl).length) w
    else if c ∈ opn ++ cls then ⟨[c],ln,cl,false⟩ :: toksF f r ln (cl + 1) false
    else match sz (c :: r) with
      | none=>if w = false ∧ c = 34 then [⟨[],(advL (ln,cl) (c :: r)).1,(advL (ln,cl) (c :: r)).2,true⟩] else [⟨[],ln,cl,true⟩]
      | some n=>if w = true then [⟨[],ln,cl,true⟩] else ⟨(c :: r).take n,ln,cl,false⟩ :: toksF f ((c :: r).drop n) ln (cl + n) true
theorem toksF_eq : ∀ (f : Nat) (l : List UInt8) (ln cl : Nat) (w : Bool),l.length < f → toksF f l ln cl w = toks l ln cl w
  | 0,l,_,_,_,h=>absurd h (Nat.not_lt_zero _)
  | f + 1,[],ln,cl,w,_=>by rw [toks];rfl
  | f + 1,c :: r,ln,cl,w,h=>by
    simp only [List.length_cons] at h
    rw [toks,toksF]
    split
    · exact toksF_eq f r _ _ _ (by omega)
    · split
      · exact toksF_eq f r _ _ _ (by omega)
      · split
        · have : (r.dropWhile nnl).length ≤ r.length:=(List.dropWhile_suffix _).length_le
          exact toksF_eq f _ _ _ _ (by omega)
        · split
          · rw [toksF_eq f r _ _ _ (by omega)]
          · generalize hL : (match sz (c :: r) with
              | none=>if w = false ∧ c = 34 then [(⟨[],(advL (ln,cl) (c :: r)).1,(advL (ln,cl) (c :: r)).2,true⟩ : Tok)] else [⟨[],ln,cl,true⟩]
              | some n=>if w = true then [⟨[],ln,cl,true⟩] else ⟨(c :: r).take n,ln,cl,false⟩ :: toksF f ((c :: r).drop n) ln (cl + n) true) = L
            split
            · next hs=>rw [← hL,hs]
            · next n hs =>
              have:=sz_pos hs
              rw [← hL,hs]
              dsimp only
              rw [toksF_eq f _ _ _ _ (by simp only [List.length_drop,List.length_cons];omega)]
mutual
def nsz : Nd → Nat
  | .mk _ _ _ _ _ kids _ _=>1 + nszL kids
def nszL : List Nd → Nat
  | []=>0
  | x :: l=>nsz x + nszL l
end
mutual
def ndp : Nd → Nat
  | .mk k _ _ _ _ kids _ _=>if k < 3 then 0 else 1 + ndpL kids
def ndpL : List Nd → Nat
  | []=>0
  | x :: l=>max (ndp x) (ndpL l)
end
mutual
def era : Nd → Nd
  | .mk k a b c d kids _ _=>.mk k a b c d (eraL kids) 0 0
def eraL : List Nd → List Nd
  | []=>[]
  | x :: l=>era x :: eraL l
end
theorem nszL_app (l m : List Nd) : nszL (l ++ m) = nszL l + nszL m:=by
  induction l with
  | nil=>simp [nszL]
  | cons x l ih=>simp only [List.cons_append,nszL,ih];omega
theorem ndpL_app (l m : List Nd) : ndpL (l ++ m) = max (ndpL l) (ndpL m):=by
  induction l with
  | nil=>simp [ndpL]
  | cons x l ih=>simp only [List.cons_append,ndpL,ih];omega
theorem eraL_app (l m : List Nd) : eraL (l ++ m) = eraL l ++ eraL m:=by
  induction l with
  | nil=>simp [eraL]
  | cons x l ih=>simp only [List.cons_append,eraL,ih]
end Go.Txt

namespace Go.Proofs
open Go.AL Go.Txt
attribute [local irreducible] Go.AL.W Go.AL.WL Go.AL.WD Go.AL.POp Go.AL.PPOp Go.AL.POpS Go.AL.PC Go.AL.AC Go.AL.YW Go.AL.Ret Go.AL.Le Go.AL.thn Go.AL.inBlk Go.AL.scp
open Classical in
noncomputable def leafT : Leaf:=fun w=>if parseE w = 0 then some (1,(parseV w).kind,(parseV w).n,(parseV w).s,[]) else if NamedP w then some (2,0,0,[],w) else none
theorem leaf_v {w : List UInt8} (h : parseE w = 0) : leafT w = some (1,(parseV w).kind,(parseV w).n,(parseV w).s,[]):=by unfold leafT;rw [if_pos h]
theorem leaf_n {w : List UInt8} (h : parseE w ≠ 0) (hn : NamedP w) : leafT w = some (2,0,0,[],w):=by unfold leafT;rw [if_neg h,if_pos hn]
theorem leaf_no {w : List UInt8} (h : parseE w ≠ 0) (hn : ¬ NamedP w) : leafT w = none:=by unfold leafT;rw [if_neg h,if_neg hn]
theorem parseE_cases (w : List UInt8) : parseE w = 0 ∨ (parseE w = 11 ∧ parseV w = zV):=by
  rcases parse_cases w with ⟨v,hv,hm⟩|hno
  · exact .inl (parse_ok hv hm).2
  · exact .inr ⟨(parse_no hno).2,(parse_no hno).1⟩
mutual
def ndC : Nd → List AV
  | .mk k vk vn vs s kids ln cl=>[.sc (.int .i64 k),.sc (.int .i64 vk),.sc (.int .i64 vn),str vs,str s,.sl none 8 (ndCs kids),.sc (.int .i64 ln),.sc (.int .i64 cl)]
def ndCs : List Nd → List (List AV)
  | []=>[]
  | x :: l=>ndC x :: ndCs l
end
mutual
theorem ndC_pur : (x : Nd) → PurL (ndC x)
  | .mk k vk vn vs s kids ln cl=>by
    haveI:=ndCs_pur kids
    unfold ndC;infer_instance
theorem ndCs_pur : (l : List Nd) → PurLL (ndCs l)
  | []=>by unfold ndCs;infer_instance
  | x :: l=>by
    haveI:=ndC_pur x
    haveI:=ndCs_pur l
    unfold ndCs;infer_instance
end
instance (x : Nd) : PurL (ndC x):=ndC_pur x
instance (l : List Nd) : PurLL (ndCs l):=ndCs_pur l
theorem ndC_len (x : Nd) : (ndC x).length = 8:=by cases x;unfold ndC;rfl
theorem ndCs_map (l : List Nd) : ndCs l = l.map ndC:=by
  induction l with
  | nil=>unfold ndCs;rfl
  | cons x l ih=>unfold ndCs;rw [ih];rfl
theorem ndCs_len (l : List Nd) : (ndCs l).length = l.length:=by rw [ndCs_map,List.length_map]
theorem ndCs_app (l m : List Nd) : ndCs (l ++ m) = ndCs l ++ ndCs m:=by rw [ndCs_map,ndCs_map,ndCs_map,List.map_append]
theorem ndCs_w (l : List Nd) : ∀ x,x ∈ ndCs l → x.length = 8:=fun x hx=>by
  rw [ndCs_map] at hx
  obtain ⟨a,_,rfl⟩:=List.mem_map.1 hx
  exact ndC_len a
def resV : Res → AV
  | .ok l=>.tu [.sl none 8 (ndCs l),.sc (.int .i64 0),.sc (.int .i64 0),.sc (.int .i64 0)]
  | .err ln cl=>.tu [.sl none 8 [],.sc (.int .i64 (ln : Nat)),.sc (.int .i64 (cl : Nat)),.sc (.int .i64 50)]
end Go.Proofs

namespace Go.Txt
theorem tw_n {α : Type} (p : α → Bool) : ∀ (l : List α) (n : Nat),n ≤ l.length → (∀ (i : Nat) (h : i < l.length),i < n → p l[i] = true) → (∀ (h : n < l.length),p l[n] = false) →
    l.takeWhile p = l.take n ∧ l.dropWhile p = l.drop n
  | [],n,hn,_,_=>by simp
  | x :: l,0,_,_,h=>by
    have:=h (by simp)
    simp only [List.getElem_cons_zero] at this
    simp [this]
  | x :: l,n + 1,hn,h1,h2=>by
    have hx:=h1 0 (by simp) (by omega)
    simp only [List.getElem_cons_zero] at hx
    obtain ⟨e1,e2⟩:=tw_n p l n (by simpa using hn) (fun i hi hin=>by have:=h1 (i + 1) (by simp;omega) (by omega);simpa using this) (fun hl=>by have:=h2 (by simp;omega);simpa using this)
    simp [hx,e1,e2]
theorem drop_c {s : List UInt8} {i : Nat} (h : i < s.length) : s.drop i = s[i] :: s.drop (i + 1):=(List.drop_eq_getElem_cons h)
theorem toks_end (s : List UInt8) {i : Nat} (h : s.length ≤ i) (ln cl : Nat) (w : Bool) : toks (s.drop i) ln cl w = [⟨[],ln,cl,false⟩]:=by
  rw [List.drop_of_length_le h,toks]
theorem toks_nl {s : List UInt8} {i : Nat} (h : i < s.length) (hc : s[i] = 10) (ln cl : Nat) (w : Bool) : toks (s.drop i) ln cl w = toks (s.drop (i + 1)) (ln + 1) 1 false:=by
  rw [drop_c h,toks,if_pos hc]
theorem toks_bl {s : List UInt8} {i : Nat} (h : i < s.length) (hc : s[i] ≠ 10) (hb : blankB s[i] = true) (ln cl : Nat) (w : Bool) : toks (s.drop i) ln cl w = toks (s.drop (i + 1)) ln (cl + 1) false:=by
  rw [drop_c h,toks,if_neg hc,if_pos hb]
theorem toks_rem {s : List UInt8} {i j : Nat} (h : i < s.length) (hc : s[i] = 59) (hij0 : i ≤ j) (hj : j ≤ s.length) (h1 : ∀ (m : Nat) (h : m < s.length),i ≤ m → m < j → s[m] ≠ 10) (h2 : ∀ (h : j < s.length),s[j] = 10) (ln cl : Nat) (w : Bool) :
    i < j ∧ toks (s.drop i) ln cl w = toks (s.drop j) ln (cl + (j - i)) w:=by
  have hij : i < j:=by
    rcases Nat.lt_or_ge i j with h'|h'
    · exact h'
    · exfalso
      have e : j = i:=by omega
      subst e
      have:=h2 h
      rw [hc] at this
      exact absurd this (by decide)
  refine ⟨hij,?_⟩
  rw [drop_c h,toks,if_neg (by rw [hc];decide),if_neg (by rw [hc];decide),if_pos hc]
  obtain ⟨e1,e2⟩:=tw_n nnl (s.drop (i + 1)) (j - (i + 1)) (by rw [List.length_drop];omega) (fun m hm hmj=>by
    rw [List.length_drop] at hm
    rw [List.getElem_drop]
    have:=h1 (i + 1 + m) (by omega) (by omega) (by omega)
    simpa [nnl] using this) (fun hl=>by
    rw [List.length_drop] at hl
    rw [List.getElem_drop]
    have:=h2 (by omega)
    have e : i + 1 + (j - (i + 1)) = j:=by omega
    simp only [e,nnl,this];decide)
  rw [e1,e2,List.drop_drop,List.length_take,List.length_drop]
  congr 1
  · congr 1;omega
  · omega
theorem toks_br {s : List UInt8} {i : Nat} (h : i < s.length) (h10 : s[i] ≠ 10) (hb : blankB s[i] = false) (h59 : s[i] ≠ 59) (hk : s[i] ∈ opn ++ cls) (ln cl : Nat) (w : Bool) :
    toks (s.drop i) ln cl w = ⟨[s[i]],ln,cl,false⟩ :: toks (s.drop (i + 1)) ln (cl + 1) false:=by
  rw [drop_c h,toks,if_neg h10,if_neg (by rw [hb];decide),if_neg h59,if_pos hk]
theorem toks_sz {s : List UInt8} {i : Nat} (h : i < s.length) (h10 : s[i] ≠ 10) (hb : blankB s[i] = false) (h59 : s[i] ≠ 59) (hk : ¬ s[i] ∈ opn ++ cls) (ln cl : Nat) (w : Bool) :
    (∀ n,sz (s.drop i) = some n → w = true → toks (s.drop i) ln cl w = [⟨[],ln,cl,true⟩])
    ∧ (∀ n,sz (s.drop i) = some n → w = false → toks (s.drop i) ln cl w = ⟨(s.drop i).take n,ln,cl,false⟩ :: toks (s.drop (i + n)) ln (cl + n) true)
    ∧ (sz (s.drop i) = none → w = false → s[i] = 34 → toks (s.drop i) ln cl w = [⟨[],(advL (ln,cl) (s.drop i)).1,(advL (ln,cl) (s.drop i)).2,true⟩])
    ∧ (sz (s.drop i) = none → ¬ (w = false ∧ s[i] = 34) → toks (s.drop i) ln cl w = [⟨[],ln,cl,true⟩]):=by
  have hd:=drop_c h
  have ht : toks (s.drop i) ln cl w = match sz (s.drop i) with
      | none=>if w = false ∧ s[i] = 34 then [⟨[],(advL (ln,cl) (s.drop i)).1,(advL (ln,cl) (s.drop i)).2,true⟩] else [⟨[],ln,cl,true⟩]
      | some n=>if w = true then [⟨[],ln,cl,true⟩] else ⟨(s.drop i).take n,ln,cl,false⟩ :: toks ((s.drop i).drop n) ln (cl + n) true:=by
    rw [hd,toks,if_neg h10,if_neg (by rw [hb];decide),if_neg h59,if_neg hk]
    split <;> simp_all
  refine ⟨fun n e hw=>?_,fun n e hw=>?_,fun e hw h34=>?_,fun e hw=>?_⟩
  · rw [ht,e];simp only [if_pos hw]
  · rw [ht,e];simp only [hw,Bool.false_eq_true,if_false]
    rw [List.drop_drop]
  · rw [ht,e];simp only [if_pos (And.intro hw h34)]
  · rw [ht,e];simp only [if_neg hw]
theorem sz_word {l : List UInt8} {n : Nat} (hl : 0 < l.length) (h34 : l[0] ≠ 34) (hn : n ≤ l.length) (h1 : ∀ (i : Nat) (h : i < l.length),i < n → wordC l[i] = true) (h2 : ∀ (h : n < l.length),wordC l[n] = false) :
    sz l = if n = 0 then none else some n:=by
  cases l with
  | nil=>simp at hl
  | cons c r =>
    simp only [List.getElem_cons_zero] at h34
    have e:=(tw_n wordC (c :: r) n hn h1 h2).1
    have hw : wordN (c :: r) = n:=by unfold wordN;rw [e,List.length_take];omega
    simp only [sz,if_neg h34,hw]
theorem advL_snoc (p : Nat × Nat) (l : List UInt8) (i : Nat) (h : i < l.length) : advL p (l.take (i + 1)) = adv (advL p (l.take i)) l[i]:=by
  rw [List.take_succ_eq_append_getElem h,advL_app];rfl
theorem ixb_tw (r : List UInt8) : Lib.indexByte r 34 = if 34 ∈ r then (((r.takeWhile nqt).length : Nat) : Int) else -1:=by
  induction r with
  | nil=>simp [Lib.indexByte]
  | cons b r ih =>
    unfold Lib.indexByte
    by_cases hb : b = 34
    · subst hb;simp [nqt]
    · have h1 : (b == 34) = false:=by simpa using hb
      have h2 : nqt b = true:=by simpa [nqt] using hb
      rw [h1,ih]
      by_cases hm : 34 ∈ r
      · simp [hm,h2]
      · have h34 : ¬ (34 : UInt8) = b:=fun e=>hb e.symm
        simp [hm,h34]
theorem advL_le (l : List UInt8) : ∀ (p : Nat × Nat),(advL p l).1 ≤ p.1 + l.length ∧ (advL p l).2 ≤ p.2 + l.length + 1:=by
  induction l with
  | nil=>intro p;exact ⟨Nat.le_refl _,Nat.le_succ _⟩
  | cons c l ih =>
    intro p
    have h:=ih (adv p c)
    have e : advL p (c :: l) = advL (adv p c) l:=rfl
    rw [e,List.length_cons]
    have h1 : (adv p c).1 ≤ p.1 + 1:=by unfold adv;split <;> simp
    have h2 : (adv p c).2 ≤ p.2 + 1:=by unfold adv;split <;> simp
    omega
def szI (s : List UInt8) : Int:=match sz s with
  | some n=>(n : Int)
  | none=>if s.head? = some 34 then 1 else 0
theorem sz_q {s : List UInt8} (h0 : 0 < s.length) (h34 : s[0] = 34) : szI s = Lib.indexByte (s.drop 1) 34 + 2 ∧ ((sz s).isSome = true ↔ 0 ≤ Lib.indexByte (s.drop 1) 34) ∧ Lib.indexByte (s.drop 1) 34 ≤ s.length ∧ -1 ≤ Lib.indexByte (s.drop 1) 34:=by
  cases s with
  | nil=>simp at h0
  | cons c r =>
    simp only [List.getElem_cons_zero] at h34
    subst h34
    simp only [List.drop_succ_cons,List.drop_zero]
    rw [ixb_tw]
    have hl:=(List.takeWhile_prefix (p:=nqt) (l:=r)).length_le
    by_cases hm : (34 : UInt8) ∈ r
    · simp only [szI,sz,if_pos hm,if_true,List.length_cons,Option.isSome_some,true_iff]
      omega
    · simp only [szI,sz,if_neg hm,if_true,List.length_cons,List.head?_cons]
      simp
      omega
def TokOK (t : Tok) : Prop:=t.s.length ≤ 1 ∨ ∃ c r,t.s = c :: r ∧ c ∉ opn ++ cls
theorem toks_ok (N : Nat) : ∀ (l : List UInt8) (ln cl : Nat) (w : Bool),l.length ≤ N → ∀ t,t ∈ toks l ln cl w → TokOK t ∧ t.s.length ≤ N:=by
  induction N with
  | zero =>
    intro l ln cl w h t ht
    have : l = []:=List.length_eq_zero_iff.1 (by omega)
    subst this
    rw [toks,List.mem_singleton] at ht
    subst ht
    exact ⟨.inl (by simp),by simp⟩
  | succ N ih =>
    intro l ln cl w h t ht
    have up : ∀ {l' : List UInt8} {ln' cl' : Nat} {w' : Bool},l'.length ≤ N → t ∈ toks l' ln' cl' w' → TokOK t ∧ t.s.length ≤ N + 1:=fun hl hm=>⟨(ih _ _ _ _ hl t hm).1,Nat.le_succ_of_le (ih _ _ _ _ hl t hm).2⟩
    cases l with
    | nil =>
      rw [toks,List.mem_singleton] at ht
      subst ht
      exact ⟨.inl (by simp),by simp⟩
    | cons c r =>
      simp only [List.length_cons] at h
      rw [toks] at ht
      split at ht
      · exact up (by omega) ht
      split at ht
      · exact up (by omega) ht
      split at ht
      · exact up (Nat.le_trans (List.dropWhile_suffix _).length_le (by omega)) ht
      split at ht
      · rcases List.mem_cons.1 ht with rfl|ht
        · exact ⟨.inl (by simp),by simp⟩
        · exact up (by omega) ht
      · next hk =>
        split at ht
        · split at ht <;> (rw [List.mem_singleton] at ht;subst ht;exact ⟨.inl (by simp),by simp⟩)
        · next n hn =>
          split at ht
          · rw [List.mem_singleton] at ht;subst ht;exact ⟨.inl (by simp),by simp⟩
          · rcases List.mem_cons.1 ht with rfl|ht
            · have hp:=sz_pos hn
              refine ⟨.inr ⟨c,r.take (n - 1),?_,hk⟩,?_⟩
              · obtain ⟨m,rfl⟩ : ∃ m,n = m + 1:=⟨n - 1,by omega⟩
                rfl
              · simp only [List.length_take,List.length_cons];omega
            · have hp:=sz_pos hn
              exact up (by simp only [List.length_drop,List.length_cons];omega) ht
end Go.Txt

namespace Go.Txt
def stkN : List (List Nd × Nd) → Nat
  | []=>0
  | x :: l=>nszL x.1 + 1 + stkN l
def cD (d : Nat) : List (List Nd × Nd) → Nat
  | []=>d
  | x :: l=>cD (max (ndpL x.1) (1 + d)) l
theorem cD_max : ∀ (stk : List (List Nd × Nd)) (d : Nat),cD d stk = max (cD 0 stk) (d + stk.length)
  | [],d=>by simp [cD]
  | x :: l,d=>by
    simp only [cD,List.length_cons]
    rw [cD_max l (max (ndpL x.1) (1 + d)),cD_max l (max (ndpL x.1) (1 + 0))]
    omega
theorem nsz_leafN (x : Int × Int × Int × List UInt8 × List UInt8) (a b : Nat) : nsz (leafN x a b) = 1:=by simp [leafN,nsz,nszL]
theorem ndp_leafN {x : Int × Int × Int × List UInt8 × List UInt8} (hx : x.1 < 3) (a b : Nat) : ndp (leafN x a b) = 0:=by simp [leafN,ndp,hx]
theorem nsz_within (h : Nd) (l : List Nd) : nsz (h.within l) = 1 + nszL l:=by cases h;simp [Nd.within,nsz]
theorem ndp_within {h : Nd} (hk : 3 ≤ h.k) (l : List Nd) : ndp (h.within l) = 1 + ndpL l:=by
  cases h with
  | mk k a b c d ks x y =>
    simp only [Nd.k] at hk
    simp only [Nd.within,ndp]
    rw [if_neg (by omega)]
theorem nszL_one (x : Nd) : nszL [x] = nsz x:=by simp [nszL]
theorem ndpL_one (x : Nd) : ndpL [x] = ndp x:=by simp [ndpL]
theorem mach_many (leaf : Leaf) (hk : ∀ w x,leaf w = some x → x.1 < 3) (a b : Nat) : ∀ (ts : List Tok) (cur : List Nd) (stk : List (List Nd × Nd)) (many : Nat) (l : List Nd),
    mach leaf (ts ++ [⟨[],a,b,false⟩]) cur stk many = .ok l → nszL cur + stkN stk = many → many ≤ 5000 → cD (ndpL cur) stk ≤ 50 →
    many ≤ nszL l ∧ nszL l ≤ 5000 ∧ cD (ndpL cur) stk ≤ ndpL l ∧ ndpL l ≤ 50
  | [],cur,stk,many,l,h,h1,h2,h3=>by
    rw [List.nil_append,mach] at h
    cases stk with
    | nil =>
      simp only [Bool.false_eq_true,ne_eq,not_true_eq_false,and_false,or_self,if_false] at h
      cases h
      simp only [stkN,cD] at h1 h3 ⊢
      omega
    | cons x stk=>simp at h
  | t :: ts,cur,stk,many,l,h,h1,h2,h3=>by
    rw [List.cons_append,mach] at h
    split at h
    · cases h
    next hb =>
    obtain ⟨w,ln,cl,bd⟩:=t
    cases w with
    | nil =>
      simp only at h hb
      cases h
      have hs : stk = []:=by
        rcases Classical.em (stk = []) with e|e
        · exact e
        · exact absurd (.inr ⟨trivial,e⟩) hb
      subst hs
      simp only [stkN,cD] at h1 h3 ⊢
      omega
    | cons c r =>
      simp only at h
      split at h
      · next hc =>
        cases stk with
        | nil=>cases h
        | cons x stk =>
          obtain ⟨o,hd⟩:=x
          simp only at h
          split at h
          · next he =>
            have hk3 : 3 ≤ hd.k:=by omega
            have ih:=mach_many leaf hk a b ts _ stk many l h (by
              rw [nszL_app,nszL_one,nsz_within]
              simp only [stkN] at h1
              omega) h2 (by
              rw [ndpL_app,ndpL_one,ndp_within hk3]
              exact h3)
            rw [ndpL_app,ndpL_one,ndp_within hk3] at ih
            exact ih
          · cases h
      · split at h
        · cases h
        · next hm =>
          split at h
          · split at h
            · cases h
            · next hl =>
              have ih:=mach_many leaf hk a b ts [] ((cur,opnN c ln cl []) :: stk) (many + 1) l h (by
                simp only [stkN,nszL];omega) (by omega) (by
                simp only [cD,ndpL]
                rw [cD_max]
                rw [cD_max] at h3
                have:=cD_max stk (ndpL cur)
                have h5 : stk.length ≤ 50:=by omega
                omega)
              have e : cD (ndpL cur) stk ≤ cD (ndpL []) ((cur,opnN c ln cl []) :: stk):=by
                simp only [cD,ndpL]
                rw [cD_max stk (ndpL cur),cD_max stk (max (ndpL cur) (1 + 0))]
                omega
              omega
          · cases hlf : leaf (c :: r) with
            | none=>rw [hlf] at h;cases h
            | some x =>
              rw [hlf] at h
              simp only at h
              have ih:=mach_many leaf hk a b ts _ stk (many + 1) l h (by
                rw [nszL_app,nszL_one,nsz_leafN];omega) (by omega) (by
                rw [ndpL_app,ndpL_one,ndp_leafN (hk _ _ hlf),Nat.max_zero];exact h3)
              rw [ndpL_app,ndpL_one,ndp_leafN (hk _ _ hlf),Nat.max_zero] at ih
              omega
theorem mach_end_bad (leaf : Leaf) (a b : Nat) : ∀ (ts : List Tok) (cur : List Nd) (stk : List (List Nd × Nd)) (many : Nat) (l : List Nd),(∀ t,t ∈ ts → t.s ≠ []) →
    mach leaf (ts ++ [⟨[],a,b,true⟩]) cur stk many ≠ .ok l
  | [],cur,stk,many,l,_=>by rw [List.nil_append,mach];simp
  | t :: ts,cur,stk,many,l,hs=>by
    have ih:=fun cur stk many=>mach_end_bad leaf a b ts cur stk many l fun t ht=>hs t (List.mem_cons_of_mem _ ht)
    have ht:=hs t (List.mem_cons_self ..)
    obtain ⟨w,ln,cl,bd⟩:=t
    cases w with
    | nil=>exact absurd rfl ht
    | cons c r =>
      rw [List.cons_append,mach]
      split
      · exact fun e=>nomatch e
      simp only
      split
      · split
        · exact fun e=>nomatch e
        · split
          · exact ih _ _ _
          · exact fun e=>nomatch e
      · split
        · exact fun e=>nomatch e
        · split
          · split
            · exact fun e=>nomatch e
            · exact ih _ _ _
          · split
            · exact ih _ _ _
            · exact fun e=>nomatch e
structure Al2 (t u : Tok) : Prop where
  s : u.s = t.s
  bad : u.bad = t.bad
inductive All2 : List Tok → List Tok → Prop where
  | nil : All2 [] []
  | cons {t u : Tok} {l m : List Tok} (h : Al2 t u) (hl : All2 l m) : All2 (t :: l) (u :: m)
theorem tw_all {p : UInt8 → Bool} : ∀ (l : List UInt8),∀ c,c ∈ l.takeWhile p → p c = true
  | [],c,h=>by cases h
  | d :: l,c,h=>by
    rw [List.takeWhile_cons] at h
    split at h
    · next hd =>
      rcases List.mem_cons.1 h with rfl|h
      · exact hd
      · exact tw_all l c h
    · cases h
theorem tw_app {p : UInt8 → Bool} (hp : p 10 = false) (l r : List UInt8) : (l ++ 10 :: r).takeWhile p = l.takeWhile p ∧ (l ++ 10 :: r).dropWhile p = l.dropWhile p ++ 10 :: r:=by
  induction l with
  | nil=>simp [hp]
  | cons c l ih =>
    cases h : p c with
    | true=>simp [h,ih.1,ih.2]
    | false=>simp [h]
theorem sz_app {c : UInt8} {l r : List UInt8} {n : Nat} (h : sz (c :: l) = some n) : sz (c :: (l ++ 10 :: r)) = some n:=by
  simp only [sz] at h ⊢
  split at h
  · next hc =>
    rw [if_pos hc]
    split at h
    · next hm =>
      rw [if_pos (List.mem_append_left _ hm)]
      have e : (l ++ 10 :: r).takeWhile nqt = l.takeWhile nqt:=by
        clear h
        induction l with
        | nil=>cases hm
        | cons d l ih =>
          by_cases hd : d = 34
          · subst hd;simp [nqt]
          · have hq : nqt d = true:=by simpa [nqt] using hd
            have:=ih ((List.mem_cons.1 hm).resolve_left (Ne.symm hd))
            simp [hq,this]
      rw [e];exact h
    · cases h
  · next hc =>
    rw [if_neg hc]
    have e : wordN (c :: (l ++ 10 :: r)) = wordN (c :: l):=by
      unfold wordN
      have:=(tw_app (p:=wordC) (by decide) (c :: l) r).1
      rw [← this];rfl
    rw [e];exact h
theorem toks_in (r : List UInt8) : ∀ (N : Nat) (l : List UInt8) (ln cl ln' cl' : Nat) (w : Bool),l.length ≤ N →
    ∃ ts a b bd,toks l ln cl w = ts ++ [⟨[],a,b,bd⟩] ∧ (∀ t,t ∈ ts → t.s ≠ []) ∧ (bd = false → ∃ ts' a',toks (l ++ 10 :: r) ln' cl' w = ts' ++ toks r a' 1 false ∧ All2 ts ts'):=by
  intro N
  induction N with
  | zero =>
    intro l ln cl ln' cl' w h
    obtain rfl : l = []:=List.length_eq_zero_iff.1 (by omega)
    refine ⟨[],ln,cl,false,by rw [toks];rfl,by simp,fun _=>⟨[],ln' + 1,?_,.nil⟩⟩
    rw [List.nil_append,toks,if_pos rfl];rfl
  | succ N ih =>
    intro l ln cl ln' cl' w h
    cases l with
    | nil =>
      refine ⟨[],ln,cl,false,by rw [toks];rfl,by simp,fun _=>⟨[],ln' + 1,?_,.nil⟩⟩
      rw [List.nil_append,toks,if_pos rfl];rfl
    | cons c l =>
      simp only [List.length_cons] at h
      rw [List.cons_append,toks,toks]
      by_cases h10 : c = 10
      · rw [if_pos h10,if_pos h10];exact ih l _ _ _ _ _ (by omega)
      rw [if_neg h10,if_neg h10]
      by_cases hb : blankB c = true
      · rw [if_pos hb,if_pos hb];exact ih l _ _ _ _ _ (by omega)
      rw [if_neg hb,if_neg hb]
      by_cases h59 : c = 59
      · rw [if_pos h59,if_pos h59]
        obtain ⟨e1,e2⟩:=tw_app (p:=nnl) (by decide) l r
        rw [e2,e1]
        exact ih _ _ _ _ _ _ (Nat.le_trans (List.dropWhile_suffix _).length_le (by omega))
      rw [if_neg h59,if_neg h59]
      by_cases hk : c ∈ opn ++ cls
      · rw [if_pos hk,if_pos hk]
        obtain ⟨ts,a,b,bd,e1,e2,e3⟩:=ih l ln (cl + 1) ln' (cl' + 1) false (by omega)
        refine ⟨⟨[c],ln,cl,false⟩ :: ts,a,b,bd,by rw [e1];rfl,fun t ht=>?_,fun hbd=>?_⟩
        · rcases List.mem_cons.1 ht with rfl|ht
          · exact fun e=>nomatch e
          · exact e2 t ht
        · obtain ⟨ts',a',e4,e5⟩:=e3 hbd
          exact ⟨⟨[c],ln',cl',false⟩ :: ts',a',by rw [e4];rfl,.cons ⟨rfl,rfl⟩ e5⟩
      rw [if_neg hk,if_neg hk]
      split
      · refine ⟨[],(if w = false ∧ c = 34 then (advL (ln,cl) (c :: l)).1 else ln),(if w = false ∧ c = 34 then (advL (ln,cl) (c :: l)).2 else cl),true,?_,by simp,fun e=>nomatch e⟩
        split <;> rfl
      · next n hn =>
        split
        · exact ⟨[],ln,cl,true,rfl,by simp,fun e=>nomatch e⟩
        · next hw =>
          have hn2:=sz_app (r:=r) hn
          have hp:=sz_pos hn
          obtain ⟨m,rfl⟩ : ∃ m,n = m + 1:=⟨n - 1,by omega⟩
          have hle : m + 1 ≤ (c :: l).length:=by
            have hr : sz (c :: l) = some (m + 1):=hn
            simp only [sz] at hr
            split at hr
            · split at hr
              · next hm =>
                cases hr
                have h1:=drop_tw nqt l
                have h2 : (l.takeWhile nqt).length ≤ l.length:=(List.takeWhile_prefix _).length_le
                have h3 : (l.takeWhile nqt).length ≠ l.length:=fun e=>by
                  have h4 : l.takeWhile nqt = l:=(List.takeWhile_prefix _).eq_of_length e
                  have:=h4 ▸ hm
                  have h5:=tw_all l 34 this
                  revert h5;decide
                simp only [List.length_cons];omega
              · cases hr
            · split at hr
              · cases hr
              · have hr:=Option.some.inj hr
                rw [← hr]
                unfold wordN
                exact (List.takeWhile_prefix _).length_le
          obtain ⟨ts,a,b,bd,e1,e2,e3⟩:=ih ((c :: l).drop (m + 1)) ln (cl + (m + 1)) ln' (cl' + (m + 1)) true (by simp only [List.length_drop,List.length_cons];omega)
          refine ⟨⟨(c :: l).take (m + 1),ln,cl,false⟩ :: ts,a,b,bd,by rw [e1];rfl,fun t ht=>?_,fun hbd=>?_⟩
          · rcases List.mem_cons.1 ht with rfl|ht
            · exact fun e=>nomatch e
            · exact e2 t ht
          · obtain ⟨ts',a',e4,e5⟩:=e3 hbd
            refine ⟨⟨(c :: l).take (m + 1),ln',cl',false⟩ :: ts',a',?_,.cons ⟨rfl,rfl⟩ e5⟩
            split
            · next hx=>rw [hn2] at hx;cases hx
            · next n2 hx =>
              rw [hn2] at hx
              cases hx
              have ed : (c :: (l ++ 10 :: r)).drop (m + 1) = (c :: l).drop (m + 1) ++ 10 :: r:=by
                rw [← List.cons_append,List.drop_append_of_le_length hle]
              have et : (c :: (l ++ 10 :: r)).take (m + 1) = (c :: l).take (m + 1):=by
                rw [← List.cons_append,List.take_append_of_le_length hle]
              rw [ed,e4,et];rfl
def eraS (l : List (List Nd × Nd)) : List (List Nd × Nd):=l.map fun x=>(eraL x.1,era x.2)
theorem era_k {x y : Nd} (h : era x = era y) : x.k = y.k:=by
  cases x;cases y;simp only [era,Nd.mk.injEq] at h;exact h.1
theorem era_within {x y : Nd} {l m : List Nd} (h : era x = era y) (hl : eraL l = eraL m) : era (x.within l) = era (y.within m):=by
  cases x;cases y
  simp only [era,Nd.mk.injEq] at h
  obtain ⟨rfl,rfl,rfl,rfl,rfl,_⟩:=h
  simp only [Nd.within,era,hl]
theorem mach_in (leaf : Leaf) (hk : ∀ w x,leaf w = some x → x.1 < 3) (hd : Nd) (hhd : hd.k = 5) (a b a' b' a'' b'' : Nat) {ts ts' : List Tok} (hf : All2 ts ts') :
    ∀ (cur cur' : List Nd) (stk stk' : List (List Nd × Nd)) (many : Nat) (l : List Nd),(∀ t,t ∈ ts → t.s ≠ []) → eraL cur = eraL cur' → eraS stk = eraS stk' →
    mach leaf (ts ++ [⟨[],a,b,false⟩]) cur stk many = .ok l → nszL cur + stkN stk = many → many ≤ 5000 → cD (ndpL cur) stk ≤ 50 →
    match mach leaf (ts' ++ [⟨[125],a',b',false⟩,⟨[],a'',b'',false⟩]) cur' (stk' ++ [([],hd)]) (many + 1) with
    | .err _ _=>nszL l = 5000 ∨ ndpL l = 50
    | .ok m=>∃ l',m = [hd.within l'] ∧ eraL l' = eraL l:=by
  induction hf with
  | nil =>
    intro cur cur' stk stk' many l _ hc hs h h1 h2 h3
    rw [List.nil_append,mach] at h
    cases stk with
    | cons x stk=>simp at h
    | nil =>
      have hs' : stk' = []:=by simpa [eraS] using hs.symm
      subst hs'
      simp only [Bool.false_eq_true,ne_eq,not_true_eq_false,and_false,or_self,if_false] at h
      cases h
      have h5 : hd.k = 3 + ((List.idxOf (125 : UInt8) cls : Nat) : Int):=by rw [hhd];decide
      simp only [List.nil_append]
      rw [mach]
      simp only [Bool.false_eq_true,List.cons_ne_nil,ne_eq,not_false_eq_true,and_true,or_self,if_false]
      rw [if_pos ⟨trivial,by decide⟩,if_pos h5,mach]
      simp only [Bool.false_eq_true,ne_eq,not_true_eq_false,and_false,or_self,if_false]
      exact ⟨cur',rfl,hc.symm⟩
  | @cons t t' ts ts' ht hts ih =>
    intro cur cur' stk stk' many l hne hc hs h h1 h2 h3
    have ht0:=hne t (List.mem_cons_self ..)
    have hne' : ∀ u,u ∈ ts → u.s ≠ []:=fun u hu=>hne u (List.mem_cons_of_mem _ hu)
    obtain ⟨w,ln,cl,bd⟩:=t
    obtain ⟨w',ln',cl',bd'⟩:=t'
    obtain ⟨e1,e2⟩:=ht
    simp only at e1 e2
    subst e1 e2
    cases w' with
    | nil=>exact absurd rfl ht0
    | cons c r =>
      have hlen : stk'.length = stk.length:=by
        have:=congrArg List.length hs
        simpa [eraS] using this.symm
      have hall:=h
      rw [List.cons_append,mach] at h ⊢
      cases bd' with
      | true=>simp at h
      | false =>
        simp only [Bool.false_eq_true,List.cons_ne_nil,false_and,or_self,if_false] at h ⊢
        by_cases hcl : r = [] ∧ c ∈ cls
        · rw [if_pos hcl] at h ⊢
          cases stk with
          | nil=>cases h
          | cons x stk =>
            cases stk' with
            | nil=>simp at hlen
            | cons x' stk' =>
              obtain ⟨o,hx⟩:=x
              obtain ⟨o',hx'⟩:=x'
              simp only [eraS,List.map_cons,List.cons.injEq,Prod.mk.injEq] at hs
              obtain ⟨⟨q1,q2⟩,q3⟩:=hs
              simp only [List.cons_append] at h ⊢
              rw [← era_k q2]
              split at h
              · next he =>
                rw [if_pos he]
                have hk3 : 3 ≤ hx.k:=by omega
                refine ih _ _ stk stk' many l hne' ?_ q3 h ?_ h2 ?_
                · rw [eraL_app,eraL_app,q1];simp only [eraL,era_within q2 hc]
                · rw [nszL_app,nszL_one,nsz_within];simp only [stkN] at h1;omega
                · rw [ndpL_app,ndpL_one,ndp_within hk3];exact h3
              · cases h
        rw [if_neg hcl] at h ⊢
        by_cases hm : 5000 < many + 1
        · rw [if_pos hm] at h;cases h
        rw [if_neg hm] at h
        have hmany : many + 1 ≤ nszL l ∧ nszL l ≤ 5000 ∧ ndpL l ≤ 50 ∧ (r = [] ∧ c ∈ opn → stk.length + 1 ≤ ndpL l):=by
          by_cases hop : r = [] ∧ c ∈ opn
          · rw [if_pos hop] at h
            split at h
            · cases h
            · next hl =>
              have hq:=cD_max stk (ndpL cur)
              have h6:=cD_max stk (max (ndpL cur) (1 + 0))
              have:=mach_many leaf hk a b ts [] ((cur,opnN c ln cl []) :: stk) (many + 1) l h (by simp only [stkN,nszL];omega) (by omega) (by
                simp only [cD,ndpL]
                omega)
              simp only [cD,ndpL] at this
              refine ⟨this.1,this.2.1,this.2.2.2,fun _=>?_⟩
              omega
          · rw [if_neg hop] at h
            cases hlf : leaf (c :: r) with
            | none=>rw [hlf] at h;cases h
            | some x =>
              rw [hlf] at h
              simp only at h
              have:=mach_many leaf hk a b ts _ stk (many + 1) l h (by
                rw [nszL_app,nszL_one,nsz_leafN];omega) (by omega) (by
                rw [ndpL_app,ndpL_one,ndp_leafN (hk _ _ hlf),Nat.max_zero];exact h3)
              exact ⟨this.1,this.2.1,this.2.2.2,fun e=>absurd e hop⟩
        by_cases hm2 : 5000 < many + 1 + 1
        · rw [if_pos hm2]
          simp only
          exact .inl (by omega)
        rw [if_neg hm2]
        by_cases hop : r = [] ∧ c ∈ opn
        · rw [if_pos hop] at h ⊢
          split at h
          · cases h
          · next hl =>
            rw [List.length_append,hlen]
            by_cases h49 : stk.length + 1 = 50
            · rw [if_pos (by simpa using h49)]
              simp only
              have:=hmany.2.2.2 hop
              exact .inr (by omega)
            · rw [if_neg (by simpa using h49)]
              rw [← List.cons_append]
              refine ih [] [] ((cur,opnN c ln cl []) :: stk) ((cur',opnN c ln' cl' []) :: stk') (many + 1) l hne' rfl ?_ h (by simp only [stkN,nszL];omega) (by omega) ?_
              · simp only [eraS,List.map_cons,hc,opnN,era,eraL]
                exact congrArg _ hs
              · simp only [cD,ndpL]
                have hq:=cD_max stk (ndpL cur)
                have h6:=cD_max stk (max (ndpL cur) (1 + 0))
                omega
        · rw [if_neg hop] at h ⊢
          cases hlf : leaf (c :: r) with
          | none=>rw [hlf] at h;cases h
          | some x =>
            rw [hlf] at h
            simp only at h ⊢
            refine ih _ _ stk stk' (many + 1) l hne' ?_ hs h ?_ (by omega) ?_
            · rw [eraL_app,eraL_app,hc];simp only [eraL,leafN,era]
            · rw [nszL_app,nszL_one,nsz_leafN];omega
            · rw [ndpL_app,ndpL_one,ndp_leafN (hk _ _ hlf),Nat.max_zero];exact h3
theorem within_ok (leaf : Leaf) (hk : ∀ w x,leaf w = some x → x.1 < 3) (s : List UInt8) (l : List Nd) (h : mach leaf (toks s 1 1 false) [] [] 0 = .ok l) :
    nszL l ≤ 5000 ∧ ndpL l ≤ 50 ∧ match mach leaf (toks (123 :: (s ++ [10,125])) 1 1 false) [] [] 0 with
    | .err _ _=>nszL l = 5000 ∨ ndpL l = 50
    | .ok m=>∃ l' ,m = [(opnN 123 1 1 []).within l'] ∧ eraL l' = eraL l:=by
  obtain ⟨ts,a,b,bd,e1,e2,e3⟩:=toks_in [125] s.length s 1 1 1 2 false (Nat.le_refl _)
  rw [e1] at h
  cases bd with
  | true=>exact absurd h (mach_end_bad leaf a b ts _ _ _ l e2)
  | false =>
    have hm:=mach_many leaf hk a b ts [] [] 0 l h rfl (by decide) (by simp [cD,ndpL])
    refine ⟨hm.2.1,hm.2.2.2,?_⟩
    obtain ⟨ts',a',e4,e5⟩:=e3 rfl
    have ht : toks (123 :: (s ++ [10,125])) 1 1 false = ⟨[123],1,1,false⟩ :: (ts' ++ [⟨[125],a',1,false⟩,⟨[],a',2,false⟩]):=by
      rw [toks,if_neg (by decide),if_neg (by decide),if_neg (by decide),if_pos (by decide),e4]
      rw [toks,if_neg (by decide),if_neg (by decide),if_neg (by decide),if_pos (by decide),toks]
    rw [ht,mach]
    simp only [Bool.false_eq_true,List.cons_ne_nil,false_and,or_self,if_false]
    rw [if_neg (by decide),if_neg (by decide),if_pos ⟨trivial,by decide⟩,if_neg (by decide)]
    exact mach_in leaf hk (opnN 123 1 1 []) (by decide) a b a' 1 a' 2 e5 [] [] [] [] 0 l e2 rfl rfl h rfl (by decide) (by simp [cD,ndpL])
end Go.Txt

namespace Go.Proofs
open Go.AL Go.Txt
theorem ndC_mk (k vk vn : Int) (vs s : List UInt8) (kids : List Nd) (ln cl : Int) : ndC (.mk k vk vn vs s kids ln cl) = [.sc (.int .i64 k),.sc (.int .i64 vk),.sc (.int .i64 vn),str vs,str s,.sl none 8 (ndCs kids),.sc (.int .i64 ln),.sc (.int .i64 cl)]:=by rw [ndC]
theorem ndCs_at {l : List Nd} {i : Nat} {x : Nd} (h : l[i]? = some x) : (ndCs l)[(i : Int).toNat]? = some (ndC x):=by rw [Int.toNat_natCast,ndCs_map,List.getElem?_map,h];rfl
mutual
noncomputable def prN : Nd → List UInt8
  | .mk k vk vn vs s kids _ _=>if k = 1 then textL ⟨vk,vn,vs⟩ else if k = 2 then s else opn.getD (k - 3).toNat 0 :: (prK kids ++ [cls.getD (k - 3).toNat 0])
noncomputable def prK : List Nd → List UInt8
  | []=>[]
  | x :: l=>prN x ++ (if l.isEmpty then [] else 32 :: prK l)
end
noncomputable def prS (sep : List UInt8) : List Nd → List UInt8
  | []=>[]
  | x :: l=>prN x ++ (if l.isEmpty then [] else sep ++ prS sep l)
theorem prK_S : ∀ l : List Nd,prK l = prS [32] l
  | []=>rfl
  | x :: l=>by rw [prK,prS,prK_S l];rfl
theorem prS_snoc (sep : List UInt8) : ∀ (l : List Nd) (x : Nd),prS sep (l ++ [x]) = prS sep l ++ ((if l.isEmpty then [] else sep) ++ prN x)
  | [],x=>by simp [prS]
  | y :: l,x=>by
    rw [List.cons_append,prS,prS_snoc sep l x,prS]
    cases l <;> simp [prS]
mutual
def okN : Nat → Nd → Prop
  | d,.mk k vk vn vs s kids _ _=>(k = 1 ∧ MayP ⟨vk,vn,vs⟩ ∧ s = [] ∧ kids = []) ∨ (k = 2 ∧ NamedP s ∧ (vk = 0 ∧ vn = 0 ∧ vs = []) ∧ kids = [])
      ∨ ((3 ≤ k ∧ k ≤ 5) ∧ s = [] ∧ (vk = 0 ∧ vn = 0 ∧ vs = []) ∧ d < 50 ∧ okL (d + 1) kids)
def okL : Nat → List Nd → Prop
  | _,[]=>True
  | d,x :: l=>okN d x ∧ okL d l
end
theorem okL_app (d : Nat) : ∀ (l m : List Nd),okL d (l ++ m) ↔ okL d l ∧ okL d m
  | [],m=>by simp [okL]
  | x :: l,m=>by rw [List.cons_append,okL,okL,okL_app d l m,and_assoc]
theorem okL_mem {d : Nat} : ∀ {l : List Nd} {x : Nd},okL d l → x ∈ l → okN d x
  | y :: l,x,h,hx=>by
    rw [okL] at h
    rcases List.mem_cons.1 hx with rfl|hx
    · exact h.1
    · exact okL_mem h.2 hx
mutual
def wtN : Nd → Nat
  | .mk _ _ _ _ s kids _ _=>4000 + s.length + wtL kids
def wtL : List Nd → Nat
  | []=>0
  | x :: l=>wtN x + wtL l
end
theorem wtL_app (l m : List Nd) : wtL (l ++ m) = wtL l + wtL m:=by
  induction l with
  | nil=>simp [wtL]
  | cons x l ih=>simp only [List.cons_append,wtL,ih];omega
theorem itoa_le (n : Int) (h0 : -9223372036854775808 ≤ n) (h1 : n ≤ 9223372036854775807) : (Lib.itoa n).length ≤ 30:=by
  have:=Lib.itoa_length_le n h0 h1
  omega
theorem text_len {v : Val} (hm : MayP v) (h0 : -9223372036854775808 ≤ v.n) (h1 : v.n ≤ 9223372036854775807) : (textL v).length ≤ 3002:=by
  have hi:=itoa_le v.n h0 h1
  have h4:=hexs_len v.s
  have h3:=escs_len v.s
  unfold textL
  split
  · omega
  split
  · split <;> simp
  split
  · rw [List.length_cons];omega
  split
  · rw [List.length_cons];omega
  have hl : v.s.length ≤ 1000:=by
    rcases hm with ⟨_,_,_,h⟩ | ⟨_,h⟩ | ⟨_,h,_⟩ | ⟨_,_,h⟩ | ⟨_,_,h⟩
    · rw [h];exact Nat.zero_le _
    · rw [h];exact Nat.zero_le _
    · rw [h];exact Nat.zero_le _
    · exact h
    · exact Nat.le_trans h.2.1 (by decide)
  split
  · rw [List.length_cons];omega
  split
  · rw [List.length_cons];omega
  · rw [List.length_cons,List.length_append,List.length_cons,List.length_nil];omega
mutual
def rgN : Nd → Prop
  | .mk _ _ vn vs _ kids _ _=>(-9223372036854775808 ≤ vn ∧ vn ≤ 9223372036854775807 ∧ vs.length < 9223372036854775808) ∧ rgL kids
def rgL : List Nd → Prop
  | []=>True
  | x :: l=>rgN x ∧ rgL l
end
theorem rgL_app : ∀ (l m : List Nd),rgL (l ++ m) ↔ rgL l ∧ rgL m
  | [],m=>by simp [rgL]
  | x :: l,m=>by rw [List.cons_append,rgL,rgL,rgL_app l m,and_assoc]
theorem rgL_mem : ∀ {l : List Nd} {x : Nd},rgL l → x ∈ l → rgN x
  | y :: l,x,h,hx=>by
    rw [rgL] at h
    rcases List.mem_cons.1 hx with rfl|hx
    · exact h.1
    · exact rgL_mem h.2 hx
mutual
theorem prN_len : (x : Nd) → (d : Nat) → okN d x → rgN x → (prN x).length + 1 ≤ wtN x
  | .mk k vk vn vs s kids ln cl,d,h,hr=>by
    rw [okN] at h
    rw [rgN] at hr
    rw [prN,wtN]
    rcases h with ⟨rfl,hm,rfl,rfl⟩ | ⟨rfl,hn,_,rfl⟩ | ⟨hk,rfl,_,_,hl⟩
    · have:=text_len hm hr.1.1 hr.1.2.1
      simp only [if_true];omega
    · rw [if_neg (by decide)];simp only [if_true];omega
    · have:=prK_len kids (d + 1) hl hr.2
      rw [if_neg (by omega),if_neg (by omega),List.length_cons,List.length_append,List.length_cons,List.length_nil];omega
theorem prK_len : (l : List Nd) → (d : Nat) → okL d l → rgL l → (prK l).length ≤ wtL l
  | [],d,h,hr=>by rw [prK];exact Nat.zero_le _
  | x :: l,d,h,hr=>by
    rw [okL] at h
    rw [rgL] at hr
    have h1:=prN_len x d h.1 hr.1
    have h2:=prK_len l d h.2 hr.2
    rw [prK,wtL,List.length_append]
    split
    · simp only [List.length_nil];omega
    · rw [List.length_cons];omega
end
theorem prS_len {sep : List UInt8} (hs : sep.length ≤ 1) {d : Nat} : ∀ {l : List Nd},okL d l → rgL l → (prS sep l).length ≤ wtL l
  | [],_,_=>by rw [prS];exact Nat.zero_le _
  | x :: l,h,hr=>by
    rw [okL] at h
    rw [rgL] at hr
    have h1:=prN_len x d h.1 hr.1
    have h2:=prS_len hs h.2 hr.2
    rw [prS,wtL,List.length_append]
    split
    · simp only [List.length_nil];omega
    · rw [List.length_append];omega
end Go.Proofs
