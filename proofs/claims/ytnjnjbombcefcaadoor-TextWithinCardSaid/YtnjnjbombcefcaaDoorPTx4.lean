/- Plain facts on the document's reader of texts, place by place. No condition. -/
import Derived.Test.YtnjnjbombcefcaaDoorPTx
set_option linter.all false
namespace Go.Txt
end Go.Txt
namespace Go.Txt
theorem sz_le {l : List UInt8} {n : Nat} (h : sz l = some n) : n ≤ l.length ∧ 0 < n:=by
  refine ⟨?_,sz_pos h⟩
  cases l with
  | nil=>simp [sz] at h
  | cons c r =>
    rw [rsz_sz] at h
    cases hr : rsz (c :: r) with
    | none=>rw [hr] at h;cases h
    | some k =>
      rw [hr] at h
      simp only at h
      split at h
      · cases h
      · cases h;exact rsz_le hr
end Go.Txt

namespace Go.Txt
end Go.Txt

namespace Go.Txt
theorem nsz_pos (x : Nd) : 0 < nsz x:=by cases x;simp only [nsz];omega
theorem nszL_len : ∀ (l : List Nd),l.length ≤ nszL l
  | []=>Nat.le_refl _
  | x :: l=>by have:=nszL_len l;have:=nsz_pos x;simp only [nszL,List.length_cons];omega
theorem nsz_mem : ∀ {l : List Nd} {x : Nd},x ∈ l → nsz x ≤ nszL l
  | y :: l,x,h=>by
    simp only [nszL]
    rcases List.mem_cons.1 h with rfl|h
    · omega
    · have:=nsz_mem h;omega
end Go.Txt
