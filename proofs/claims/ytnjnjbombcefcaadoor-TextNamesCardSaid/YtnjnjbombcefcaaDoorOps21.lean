/- The rules of the abstract logic: rows of one's own that grow, and may be written. No condition. -/
import Derived.Test.YtnjnjbombcefcaaDoorOps11
import Derived.Test.YtnjnjbombcefcaaDoorOps17
set_option linter.all false
namespace Go.AL
abbrev rowA (r n : Nat) : AV:=.sl (some r) 0 (List.replicate n [])
theorem rowA_inv0 {G : Gh} {v : Value} {r : Nat} {els : List (List AV)} (h : Conc G v (.sl (some r) 0 els)) : G.tl r els.length = some v ∧ ((els = [] ∧ v = .slice none 0 0) ∨ ∃ b o cap,v = .slice (some ⟨b,o,none⟩) els.length cap ∧ els.length ≤ cap):=by
  cases h with
  | @sl b o cap _ _ _ us hk hcap him hc ht=>exact ⟨ht r rfl,.inr ⟨b,o,cap,rfl,hcap⟩⟩
  | slnil ht=>exact ⟨ht r rfl,.inl ⟨rfl,rfl⟩⟩
theorem rowA_inv {G : Gh} {v : Value} {r n : Nat} (h : Conc G v (rowA r n)) : G.tl r n = some v ∧ ((n = 0 ∧ v = .slice none 0 0) ∨ ∃ b o cap,v = .slice (some ⟨b,o,none⟩) n cap ∧ n ≤ cap):=by
  have:=rowA_inv0 h
  rw [List.length_replicate] at this
  refine ⟨this.1,this.2.imp (fun h=>⟨?_,h.2⟩) id⟩
  have:=congrArg List.length h.1
  simpa using this
theorem rowA_mk {G : Gh} {b o cap r n : Nat} (hl : G.tl r n = some (.slice (some ⟨b,o,none⟩) n cap)) (hn : n ≤ cap) : Conc G (.slice (some ⟨b,o,none⟩) n cap) (rowA r n):=by
  have:=Conc.sl (G:=G) (b:=b) (o:=o) (cap:=cap) (k:=0) (tok:=some r) (els:=List.replicate n []) (fun _ _=>undef) (fun e he=>by rw [List.eq_of_mem_replicate he];rfl) (by simpa using hn)
    (fun i j _ hj=>by omega) (fun i e j x he hx=>by
      rw [List.getElem?_replicate] at he
      split at he
      · cases he;simp at hx
      · cases he) (fun t e=>by cases e;simpa using hl)
  rwa [List.length_replicate] at this
section
variable {P : Program} [GlobF P] {hp : List AObj}
theorem row_inv {B : Base P} {G : Gh} {w : World} {r k e : Nat} {els : List (List AV)} (hr : RH B G hp w) (ho : hp[r]? = some (.row k e els)) {v : Value} {n : Nat} (hn : n = els.length) (hv : Conc G v (rowA r n)) :
    (∀ x,x ∈ els → x.length = k) ∧ ((els = [] ∧ v = .slice none 0 0) ∨ ∃ (g cap : Nat) (c : List Value),v = .slice (some ⟨g,0,none⟩) els.length cap ∧ B.w.heap.size ≤ g ∧ w.heap[g]? = some (.cells c.toArray e (0,0)) ∧ els.length ≤ cap ∧ cap ≤ maxLen ∧ c.length = cap * k ∧
      ConcL G (c.take (els.length * k)) els.flatten ∧ (∀ j,G.imm g j = none) ∧ G.blk r = some g):=by
  subst hn
  obtain ⟨h1,h2⟩:=rowA_inv hv
  obtain ⟨g0,gk,g⟩:=hr.obj r _ ho
  refine ⟨gk,?_⟩
  rcases g with ⟨rfl,g2⟩ | ⟨b,cap,c,g1,g2,g3,g4,g5,g6,g7,g8,g9⟩
  · rw [List.length_nil] at h1
    rw [h1] at g2;exact .inl ⟨rfl,Option.some.inj g2⟩
  · rw [h1] at g1
    exact .inr ⟨b,cap,c,Option.some.inj g1,g2,g3,g4,g5,g6,g7,g8,g9⟩
end
section
variable {P : Program} [GlobF P] {ty : TypeId} {pos : String} {af : Array Edge} {dst : Option Nat} {gd : Option (Nat × Bool)} {ρ : Operand → Option AV} {hp : List AObj}
end
section
variable {P : Program} [GlobF P] {fr : Option Nat} {N : Nat} {Q : Exit → AS → Prop} {ops : Array Oper} {rest : List Oper} {rg : List (Nat × AV)} {h : List AObj} {mk : Mk} {ty : TypeId} {pos : String} {af : Array Edge} {d : Nat}
end
instance (n : Nat) : PurLL (List.replicate n ([] : List AV)):=⟨fun e he=>by rw [List.eq_of_mem_replicate he];infer_instance⟩
end Go.AL
