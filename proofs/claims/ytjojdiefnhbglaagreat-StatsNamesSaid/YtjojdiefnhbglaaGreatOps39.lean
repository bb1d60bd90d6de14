/- Plain facts on rows laid flat: a cell read, and a cell written. No condition. -/
import Derived.Test.YtjojdiefnhbglaaGreatOps11
set_option linter.all false
namespace Go.AL
theorem flat_lk {α : Type} {f : α → List AV} {k : Nat} (hf : ∀ a,(f a).length = k) : ∀ l : List α,(l.map f).flatten.length = l.length * k
  | []=>by simp
  | a :: l=>by rw [List.map_cons,List.flatten_cons,List.length_append,hf,flat_lk hf l,List.length_cons,Nat.succ_mul];omega
theorem flat_atk {α : Type} {f : α → List AV} {k : Nat} (hf : ∀ a,(f a).length = k) : ∀ (l : List α) (i j : Nat) (h : i < l.length),j < k → (l.map f).flatten[i * k + j]? = (f l[i])[j]?
  | [],i,j,h,_=>by simp at h
  | a :: l,0,j,h,hj=>by
    rw [Nat.zero_mul,Nat.zero_add,List.map_cons,List.flatten_cons,List.getElem?_append_left (by rw [hf];exact hj)];rfl
  | a :: l,i + 1,j,h,hj=>by
    rw [List.map_cons,List.flatten_cons,List.getElem?_append_right (by rw [hf,Nat.succ_mul];omega),hf,show (i + 1) * k + j - k = i * k + j by rw [Nat.succ_mul];omega]
    exact flat_atk hf l i j (by simpa using h) hj
theorem flat_setk {α : Type} {f : α → List AV} {k : Nat} (hf : ∀ a,(f a).length = k) : ∀ (l : List α) (i : Nat) (h : i < l.length) (b : α) (j : Nat) (cs : List AV),j + cs.length ≤ k → f b = (f l[i]).take j ++ cs ++ (f l[i]).drop (j + cs.length) →
    ((l.set i b).map f).flatten = (l.map f).flatten.take (i * k + j) ++ cs ++ (l.map f).flatten.drop (i * k + j + cs.length)
  | [],i,h,_,_,_,_,_=>by simp at h
  | a :: l,0,h,b,j,cs,hj,hb=>by
    simp only [List.getElem_cons_zero] at hb
    rw [List.set_cons_zero,List.map_cons,List.map_cons,List.flatten_cons,List.flatten_cons,Nat.zero_mul,Nat.zero_add,List.take_append_of_le_length (by rw [hf];omega),List.drop_append_of_le_length (by rw [hf];omega),hb]
    simp
  | a :: l,i + 1,h,b,j,cs,hj,hb=>by
    simp only [List.getElem_cons_succ] at hb
    have ih:=flat_setk hf l i (by simpa using h) b j cs hj hb
    have e1 : (i + 1) * k + j = (f a).length + (i * k + j):=by rw [hf,Nat.succ_mul];omega
    rw [List.set_cons_succ,List.map_cons,List.map_cons,List.flatten_cons,List.flatten_cons,ih,e1,List.take_length_add_append,Nat.add_assoc (f a).length,List.drop_length_add_append]
    simp
end Go.AL
