/- The facts on a seat's types, as instances of the abstract logic's classes. No condition. -/
import Derived.Test.YtjojdiefnhbglaaOpen
import Derived.Test.YtjojdiefnhbglaaOps17
import Derived.Test.YtjojdiefnhbglaaProg
import Derived.Test.YtjojdiefnhbglaaOps7
import Derived.Test.YtjojdiefnhbglaaBase
import Derived.Test.YtjojdiefnhbglaaOps12
import Derived.Test.YtjojdiefnhbglaaDraw
set_option linter.all false
namespace Go.Proofs
open Go.AL
instance : Und Try.prog 2 (.int .i64):=⟨Try.underlying2⟩
instance : Cel Try.prog 2 1:=⟨by kernel_rfl⟩
instance : Siz Try.prog 2 1:=⟨Try.sizeOf2⟩
instance : Agg Try.prog 2 false:=⟨Try.isAgg2⟩
instance : Zer Try.prog 2 (.int .i64 0):=⟨Try.zeroValue2⟩
instance : Inf Try.prog 2 1 8 (.int .i64 0):=⟨inf_of (by kernel_rfl)⟩
instance : Und Try.prog 3 (.int .i64):=⟨Try.underlying3⟩
instance : Cel Try.prog 3 1:=⟨by kernel_rfl⟩
instance : Siz Try.prog 3 1:=⟨Try.sizeOf3⟩
instance : Agg Try.prog 3 false:=⟨Try.isAgg3⟩
instance : Zer Try.prog 3 (.int .i64 0):=⟨Try.zeroValue3⟩
instance : Und Try.prog 4 .bool:=⟨Try.underlying4⟩
instance : Cel Try.prog 4 1:=⟨by kernel_rfl⟩
instance : Siz Try.prog 4 1:=⟨Try.sizeOf4⟩
instance : Agg Try.prog 4 false:=⟨Try.isAgg4⟩
instance : Zer Try.prog 4 (.bool false):=⟨Try.zeroValue4⟩
instance : Inf Try.prog 4 1 1 (.bool false):=⟨inf_of (by kernel_rfl)⟩
instance : Und Try.prog 5 (.int .u8):=⟨Try.underlying5⟩
instance : Siz Try.prog 5 1:=⟨Try.sizeOf5⟩
instance : Agg Try.prog 5 false:=⟨Try.isAgg5⟩
instance : Zer Try.prog 5 (.int .u8 0):=⟨Try.zeroValue5⟩
instance : Inf Try.prog 5 1 1 (.int .u8 0):=⟨inf_of (by kernel_rfl)⟩
instance : Und Try.prog 9 .string:=⟨Try.underlying9⟩
instance : Cel Try.prog 9 1:=⟨by kernel_rfl⟩
instance : Siz Try.prog 9 1:=⟨Try.sizeOf9⟩
instance : Agg Try.prog 9 false:=⟨Try.isAgg9⟩
instance : Und Try.prog 22 (.slice 36):=⟨Try.underlying22⟩
instance : Siz Try.prog 26 1:=⟨Try.sizeOf26⟩
instance : Agg Try.prog 26 false:=⟨Try.isAgg26⟩
instance : Zer Try.prog 26 (.int .i64 0):=⟨Try.zeroValue26⟩
instance : Cel Try.prog 34 3:=⟨by kernel_rfl⟩
instance : Siz Try.prog 34 3:=⟨Try.sizeOf34⟩
instance : Agg Try.prog 34 true:=⟨Try.isAgg34⟩
instance : Zer Try.prog 34 (.agg #[.int .i64 0,.int .i64 0,.string ⟨#[]⟩]):=⟨Try.zeroValue34⟩
instance : Plc Try.prog 34 [(0,1),(1,1),(2,1)]:=⟨⟨_,Try.runUnderlying34,fun w=>by simp [Try.sizeOf2,Try.sizeOf3,Try.sizeOf9]⟩⟩
instance : Fld Try.prog 34 0 0:=⟨fun w a=>by simp [Instr.fieldAt,Instr.sureAddr,fieldPlace,Try.runUnderlying34,Try.sizeOf3]⟩
instance : Fld Try.prog 34 1 1:=⟨fun w a=>by simp [Instr.fieldAt,Instr.sureAddr,fieldPlace,Try.runUnderlying34,Try.sizeOf2]⟩
instance : Fld Try.prog 34 2 2:=⟨fun w a=>by simp [Instr.fieldAt,Instr.sureAddr,fieldPlace,Try.runUnderlying34,Try.sizeOf9]⟩
instance : Cel Try.prog 36 9:=⟨by kernel_rfl⟩
instance : Siz Try.prog 36 9:=⟨Try.sizeOf36⟩
instance : Agg Try.prog 36 true:=⟨Try.isAgg36⟩
instance : Zer Try.prog 36 (.agg #[.int .i64 0,.int .i64 0,.int .i64 0,.int .i64 0,.string ⟨#[]⟩,.int .i64 0,.bool false,.int .i64 0,.int .i64 0]):=⟨Try.zeroValue36⟩
instance : Inf Try.prog 36 9 80 (.agg #[.int .i64 0,.int .i64 0,.int .i64 0,.int .i64 0,.string ⟨#[]⟩,.int .i64 0,.bool false,.int .i64 0,.int .i64 0]):=⟨inf_of (by kernel_rfl)⟩
instance : Plc Try.prog 36 [(0,1),(1,1),(2,3),(5,1),(6,1),(7,1),(8,1)]:=⟨⟨_,Try.runUnderlying36,fun w=>by simp [Try.sizeOf2,Try.sizeOf34,Try.sizeOf4]⟩⟩
instance : Fld Try.prog 36 0 0:=⟨fun w a=>by simp [Instr.fieldAt,Instr.sureAddr,fieldPlace,Try.runUnderlying36,Try.sizeOf2]⟩
instance : Fld Try.prog 36 1 1:=⟨fun w a=>by simp [Instr.fieldAt,Instr.sureAddr,fieldPlace,Try.runUnderlying36,Try.sizeOf2]⟩
instance : Fld Try.prog 36 2 2:=⟨fun w a=>by simp [Instr.fieldAt,Instr.sureAddr,fieldPlace,Try.runUnderlying36,Try.sizeOf34]⟩
instance : Fld Try.prog 36 3 5:=⟨fun w a=>by simp [Instr.fieldAt,Instr.sureAddr,fieldPlace,Try.runUnderlying36,Try.sizeOf2]⟩
instance : Fld Try.prog 36 4 6:=⟨fun w a=>by simp [Instr.fieldAt,Instr.sureAddr,fieldPlace,Try.runUnderlying36,Try.sizeOf4]⟩
instance : Fld Try.prog 36 5 7:=⟨fun w a=>by simp [Instr.fieldAt,Instr.sureAddr,fieldPlace,Try.runUnderlying36,Try.sizeOf2]⟩
instance : Fld Try.prog 36 6 8:=⟨fun w a=>by simp [Instr.fieldAt,Instr.sureAddr,fieldPlace,Try.runUnderlying36,Try.sizeOf2]⟩
instance : Und Try.prog 44 (.slice 111):=⟨Try.underlying44⟩
instance : Und Try.prog 49 (.slice 54):=⟨Try.underlying49⟩
instance : Siz Try.prog 54 2:=⟨Try.sizeOf54⟩
instance : Zer Try.prog 54 (.agg #[.int .i64 0,.int .i64 0]):=⟨Try.zeroValue54⟩
instance : Inf Try.prog 54 2 16 (.agg #[.int .i64 0,.int .i64 0]):=⟨inf_of (by kernel_rfl)⟩
instance : Plc Try.prog 54 [(0,1),(1,1)]:=⟨⟨_,Try.runUnderlying54,fun w=>by simp [Try.sizeOf2,Try.sizeOf3]⟩⟩
instance : Und Try.prog 57 (.slice 73):=⟨Try.underlying57⟩
instance : Und Try.prog 60 (.slice 74):=⟨Try.underlying60⟩
instance : Und Try.prog 63 (.array 8 3):=⟨Try.underlying63⟩
instance : Siz Try.prog 63 8:=⟨Try.sizeOf63⟩
instance : Agg Try.prog 63 true:=⟨Try.isAgg63⟩
instance : Zer Try.prog 63 (.agg #[.int .i64 0,.int .i64 0,.int .i64 0,.int .i64 0,.int .i64 0,.int .i64 0,.int .i64 0,.int .i64 0]):=⟨Try.zeroValue63⟩
instance : Siz Try.prog 73 3:=⟨Try.sizeOf73⟩
instance : Agg Try.prog 73 true:=⟨Try.isAgg73⟩
instance : Zer Try.prog 73 (.agg #[.int .i64 0,.int .i64 0,.int .i64 0]):=⟨Try.zeroValue73⟩
instance : Inf Try.prog 73 3 24 (.agg #[.int .i64 0,.int .i64 0,.int .i64 0]):=⟨inf_of (by kernel_rfl)⟩
instance : Plc Try.prog 73 [(0,1),(1,1),(2,1)]:=⟨⟨_,Try.runUnderlying73,fun w=>by simp [Try.sizeOf2,Try.sizeOf3]⟩⟩
instance : Fld Try.prog 73 0 0:=⟨fun w a=>by simp [Instr.fieldAt,Instr.sureAddr,fieldPlace,Try.runUnderlying73,Try.sizeOf2]⟩
instance : Fld Try.prog 73 1 1:=⟨fun w a=>by simp [Instr.fieldAt,Instr.sureAddr,fieldPlace,Try.runUnderlying73,Try.sizeOf3]⟩
instance : Fld Try.prog 73 2 2:=⟨fun w a=>by simp [Instr.fieldAt,Instr.sureAddr,fieldPlace,Try.runUnderlying73,Try.sizeOf3]⟩
instance : Siz Try.prog 74 3:=⟨Try.sizeOf74⟩
instance : Agg Try.prog 74 true:=⟨Try.isAgg74⟩
instance : Zer Try.prog 74 (.agg #[.int .i64 0,.int .i64 0,.int .i64 0]):=⟨Try.zeroValue74⟩
instance : Inf Try.prog 74 3 24 (.agg #[.int .i64 0,.int .i64 0,.int .i64 0]):=⟨inf_of (by kernel_rfl)⟩
instance : Plc Try.prog 74 [(0,1),(1,1),(2,1)]:=⟨⟨_,Try.runUnderlying74,fun w=>by simp [Try.sizeOf2,Try.sizeOf3]⟩⟩
instance : Fld Try.prog 74 0 0:=⟨fun w a=>by simp [Instr.fieldAt,Instr.sureAddr,fieldPlace,Try.runUnderlying74,Try.sizeOf2]⟩
instance : Fld Try.prog 74 1 1:=⟨fun w a=>by simp [Instr.fieldAt,Instr.sureAddr,fieldPlace,Try.runUnderlying74,Try.sizeOf3]⟩
instance : Fld Try.prog 74 2 2:=⟨fun w a=>by simp [Instr.fieldAt,Instr.sureAddr,fieldPlace,Try.runUnderlying74,Try.sizeOf3]⟩
instance : Siz Try.prog 79 5:=⟨Try.sizeOf79⟩
instance : Agg Try.prog 79 true:=⟨Try.isAgg79⟩
instance : Zer Try.prog 79 (.agg #[.bool false,.int .i64 0,.int .i64 0,.int .i64 0,.string ⟨#[]⟩]):=⟨Try.zeroValue79⟩
instance : Inf Try.prog 79 5 48 (.agg #[.bool false,.int .i64 0,.int .i64 0,.int .i64 0,.string ⟨#[]⟩]):=⟨inf_of (by kernel_rfl)⟩
instance : Plc Try.prog 79 [(0,1),(1,1),(2,3)]:=⟨⟨_,Try.runUnderlying79,fun w=>by simp [Try.sizeOf2,Try.sizeOf34,Try.sizeOf4]⟩⟩
instance : Fld Try.prog 79 0 0:=⟨fun w a=>by simp [Instr.fieldAt,Instr.sureAddr,fieldPlace,Try.runUnderlying79,Try.sizeOf4]⟩
instance : Fld Try.prog 79 1 1:=⟨fun w a=>by simp [Instr.fieldAt,Instr.sureAddr,fieldPlace,Try.runUnderlying79,Try.sizeOf2]⟩
instance : Fld Try.prog 79 2 2:=⟨fun w a=>by simp [Instr.fieldAt,Instr.sureAddr,fieldPlace,Try.runUnderlying79,Try.sizeOf34]⟩
instance : Und Try.prog 80 (.slice 79):=⟨Try.underlying80⟩
instance : Siz Try.prog 80 1:=⟨Try.sizeOf80⟩
instance : Agg Try.prog 80 false:=⟨Try.isAgg80⟩
instance : Zer Try.prog 80 (.slice none 0 0):=⟨Try.zeroValue80⟩
instance : Und Try.prog 83 (.pointer 140):=⟨Try.underlying83⟩
instance : Und Try.prog 88 (.slice 5):=⟨Try.underlying88⟩
instance : Siz Try.prog 88 1:=⟨Try.sizeOf88⟩
instance : Agg Try.prog 88 false:=⟨Try.isAgg88⟩
instance : Zer Try.prog 88 (.slice none 0 0):=⟨Try.zeroValue88⟩
instance : Und Try.prog 109 (.slice 114):=⟨Try.underlying109⟩
instance : Agg Try.prog 109 false:=⟨Try.isAgg109⟩
instance : Siz Try.prog 111 6:=⟨Try.sizeOf111⟩
instance : Agg Try.prog 111 true:=⟨Try.isAgg111⟩
instance : Zer Try.prog 111 (.agg #[.int .i64 0,.int .i64 0,.int .i64 0,.int .i64 0,.string ⟨#[]⟩,.slice none 0 0]):=⟨Try.zeroValue111⟩
instance : Fld Try.prog 111 0 0:=⟨fun w a=>by simp [Instr.fieldAt,Instr.sureAddr,fieldPlace,Try.runUnderlying111,Try.sizeOf2]⟩
instance : Fld Try.prog 111 1 1:=⟨fun w a=>by simp [Instr.fieldAt,Instr.sureAddr,fieldPlace,Try.runUnderlying111,Try.sizeOf2]⟩
instance : Fld Try.prog 111 2 2:=⟨fun w a=>by simp [Instr.fieldAt,Instr.sureAddr,fieldPlace,Try.runUnderlying111,Try.sizeOf34]⟩
instance : Fld Try.prog 111 3 5:=⟨fun w a=>by simp [Instr.fieldAt,Instr.sureAddr,fieldPlace,Try.runUnderlying111,Try.sizeOf109]⟩
instance : Cel Try.prog 114 2:=⟨by kernel_rfl⟩
instance : Siz Try.prog 114 2:=⟨Try.sizeOf114⟩
instance : Agg Try.prog 114 true:=⟨Try.isAgg114⟩
instance : Zer Try.prog 114 (.agg #[.int .i64 0,.int .i64 0]):=⟨Try.zeroValue114⟩
instance : Fld Try.prog 114 0 0:=⟨fun w a=>by simp [Instr.fieldAt,Instr.sureAddr,fieldPlace,Try.runUnderlying114,Try.sizeOf2]⟩
instance : Fld Try.prog 114 1 1:=⟨fun w a=>by simp [Instr.fieldAt,Instr.sureAddr,fieldPlace,Try.runUnderlying114,Try.sizeOf2]⟩
instance : Und Try.prog 119 (.slice 2):=⟨Try.underlying119⟩
instance : Und Try.prog 133 (.pointer 158):=⟨Try.underlying133⟩
instance : Agg Try.prog 133 false:=⟨Try.isAgg133⟩
instance : Zer Try.prog 140 (.agg #[.pointer none]):=⟨Try.zeroValue140⟩
instance : Plc Try.prog 140 [(0,1)]:=⟨⟨_,Try.runUnderlying140,fun w=>by simp [Try.sizeOf133]⟩⟩
instance : Fld Try.prog 140 0 0:=⟨fun w a=>by simp [Instr.fieldAt,Instr.sureAddr,fieldPlace,Try.runUnderlying140,Try.sizeOf133]⟩
instance : Und Try.prog 148 (.slice 4):=⟨Try.underlying148⟩
instance : Siz Try.prog 148 1:=⟨Try.sizeOf148⟩
instance : Agg Try.prog 148 false:=⟨Try.isAgg148⟩
instance : Zer Try.prog 148 (.slice none 0 0):=⟨Try.zeroValue148⟩
instance : Zer Try.prog 158 (.agg #[.slice none 0 0,.slice none 0 0,.pointer none,.pointer none,.int .i64 0,.int .i64 0]):=⟨Try.zeroValue158⟩
instance : Plc Try.prog 158 [(0,1),(1,1),(2,1),(3,1),(4,1),(5,1)]:=⟨⟨_,Try.runUnderlying158,fun w=>by simp [Try.sizeOf133,Try.sizeOf3,Try.sizeOf88]⟩⟩
instance : Fld Try.prog 158 0 0:=⟨fun w a=>by simp [Instr.fieldAt,Instr.sureAddr,fieldPlace,Try.runUnderlying158,Try.sizeOf88]⟩
instance : Fld Try.prog 158 1 1:=⟨fun w a=>by simp [Instr.fieldAt,Instr.sureAddr,fieldPlace,Try.runUnderlying158,Try.sizeOf88]⟩
instance : Fld Try.prog 158 2 2:=⟨fun w a=>by simp [Instr.fieldAt,Instr.sureAddr,fieldPlace,Try.runUnderlying158,Try.sizeOf133]⟩
instance : Fld Try.prog 158 3 3:=⟨fun w a=>by simp [Instr.fieldAt,Instr.sureAddr,fieldPlace,Try.runUnderlying158,Try.sizeOf133]⟩
instance : Fld Try.prog 158 4 4:=⟨fun w a=>by simp [Instr.fieldAt,Instr.sureAddr,fieldPlace,Try.runUnderlying158,Try.sizeOf3]⟩
instance : Fld Try.prog 158 5 5:=⟨fun w a=>by simp [Instr.fieldAt,Instr.sureAddr,fieldPlace,Try.runUnderlying158,Try.sizeOf3]⟩
instance : Und Try.prog 161 (.int .u64):=⟨Try.underlying161⟩
instance : Und Try.prog 178 (.array 3 79):=⟨Try.underlying178⟩
instance : Siz Try.prog 178 15:=⟨Try.sizeOf178⟩
instance : Agg Try.prog 178 true:=⟨Try.isAgg178⟩
instance : Zer Try.prog 178 (.agg #[.bool false,.int .i64 0,.int .i64 0,.int .i64 0,.string ⟨#[]⟩,.bool false,.int .i64 0,.int .i64 0,.int .i64 0,.string ⟨#[]⟩,.bool false,.int .i64 0,.int .i64 0,.int .i64 0,.string ⟨#[]⟩]):=⟨Try.zeroValue178⟩
instance : Agg Try.prog 181 false:=⟨Try.isAgg181⟩
instance : Zer Try.prog 183 (.agg #[.slice none 0 0,.bool false]):=⟨Try.zeroValue183⟩
instance : Plc Try.prog 183 [(0,1),(1,1)]:=⟨⟨_,Try.runUnderlying183,fun w=>by simp [Try.sizeOf4,Try.sizeOf88]⟩⟩
instance : Fld Try.prog 183 0 0:=⟨fun w a=>by simp [Instr.fieldAt,Instr.sureAddr,fieldPlace,Try.runUnderlying183,Try.sizeOf88]⟩
instance : Fld Try.prog 183 1 1:=⟨fun w a=>by simp [Instr.fieldAt,Instr.sureAddr,fieldPlace,Try.runUnderlying183,Try.sizeOf4]⟩
instance : Und Try.prog 201 (.int .u64):=⟨Try.underlying201⟩
instance : Und Try.prog 207 (.array 8 5):=⟨Try.underlying207⟩
instance : Siz Try.prog 207 8:=⟨Try.sizeOf207⟩
instance : Agg Try.prog 207 true:=⟨Try.isAgg207⟩
instance : Zer Try.prog 207 (.agg #[.int .u8 0,.int .u8 0,.int .u8 0,.int .u8 0,.int .u8 0,.int .u8 0,.int .u8 0,.int .u8 0]):=⟨Try.zeroValue207⟩
instance : Und Try.prog 229 (.slice 3):=⟨Try.underlying229⟩
instance : Mix Try.prog:=⟨by decide⟩
end Go.Proofs

namespace Go.Proofs
open Go.AL
instance : EqF Try.prog 2 [.i .i64] 1:=eqf_int Try.underlying2 Try.isAgg2
instance : EqF Try.prog 3 [.i .i64] 1:=eqf_int Try.underlying3 Try.isAgg3
instance : EqF Try.prog 4 [.b] 1:=eqf_bool Try.underlying4 Try.isAgg4
instance : EqF Try.prog 9 [.s] 1:=eqf_str Try.underlying9 Try.isAgg9
instance : EqF Try.prog 34 [.i .i64,.i .i64,.s] 2:=eqf_struct Try.underlying34 (by kernel_rfl) Try.isAgg34 Try.sizeOf34 rfl (by repeat first|exact FldEq.nil _|refine FldEq.cons3 (by decide) rfl (by decide) (by rfl) ?_)
instance : EqF Try.prog 36 [.i .i64,.i .i64,.i .i64,.i .i64,.s,.i .i64,.b,.i .i64,.i .i64] 3:=eqf_struct Try.underlying36 (by kernel_rfl) Try.isAgg36 Try.sizeOf36 rfl (by repeat first|exact FldEq.nil _|refine FldEq.cons3 (by decide) rfl (by decide) (by rfl) ?_)
instance : EqG Try.prog 36:=⟨by kernel_rfl⟩
end Go.Proofs

namespace Go.Proofs
structure Sp where
  f : Int
  t : Int
theorem Sp.ext' {a b : Sp} (h1 : a.f = b.f) (h2 : a.t = b.t) : a = b:=by
  obtain ⟨a,b⟩:=a;simp only at h1 h2;subst h1;subst h2;rfl
def neS (l : List Sp) : Prop:=∀ s,s ∈ l → s.f < s.t
def SetP (l : List Sp) : Prop:=neS l ∧ l.Pairwise (fun a b=>a.t < b.f)
theorem SetP.nil : SetP []:=⟨fun _ h=>by simp at h,List.Pairwise.nil⟩
abbrev loT : Int:=-9223372036854775808
abbrev hiT : Int:=9223372036854775807
end Go.Proofs

namespace Go.Proofs
end Go.Proofs

namespace Go.Proofs
open Go.AL Go.Sort
structure WC {α : Type} (c : α → α → Int) : Prop where
  anti : ∀ x y,c x y < 0 ↔ 0 < c y x
  le : ∀ x y z,c x y ≤ 0 → c y z ≤ 0 → c x z ≤ 0
theorem WC.refl {α : Type} {c : α → α → Int} (h : WC c) (x : α) : c x x = 0:=by have:=h.anti x x;omega
theorem WC.sym {α : Type} {c : α → α → Int} (h : WC c) {x y : α} (e : c x y = 0) : c y x = 0:=by have h1:=h.anti x y;have h2:=h.anti y x;omega
theorem WC.lt {α : Type} {c : α → α → Int} (h : WC c) {x y z : α} (h1 : c x y ≤ 0) (h2 : c y z ≤ 0) (h3 : c x y < 0 ∨ c y z < 0) : c x z < 0:=by
  have h4:=h.le x y z h1 h2
  rcases Int.lt_or_eq_of_le h4 with h5|h5
  · exact h5
  · exfalso
    have h6:=h.sym h5
    rcases h3 with h3|h3
    · have:=h.le y z x h2 (by omega)
      have:=(h.anti x y).1 h3;omega
    · have:=h.le z x y (by omega) h1
      have:=(h.anti y z).1 h3;omega
theorem WC.comap {α β : Type} {c : α → α → Int} (h : WC c) (f : β → α) : WC (fun x y=>c (f x) (f y)):=⟨fun _ _=>h.anti _ _,fun _ _ _=>h.le _ _ _⟩
theorem WC.lex {α : Type} {c d : α → α → Int} (h : WC c) (h' : WC d) : WC (fun x y=>if c x y = 0 then d x y else c x y):=by
  refine ⟨fun x y=>?_,fun x y z h1 h2=>?_⟩
  · have a1:=h.anti x y
    have a2:=h.anti y x
    have b1:=h'.anti x y
    by_cases e : c x y = 0
    · rw [if_pos e,if_pos (h.sym e)];exact b1
    · rw [if_neg e,if_neg (fun e'=>e (h.sym e'))];exact a1
  · by_cases e1 : c x y = 0
    · rw [if_pos e1] at h1
      by_cases e2 : c y z = 0
      · rw [if_pos e2] at h2
        have e3 : c x z = 0:=by
          have l1:=h.le x y z (by omega) (by omega)
          have l2:=h.le z y x (by have:=h.sym e2;omega) (by have:=h.sym e1;omega)
          have:=h.anti x z
          omega
        rw [if_pos e3];exact h'.le x y z h1 h2
      · rw [if_neg e2] at h2
        have:=h.lt (x:=x) (y:=y) (z:=z) (by omega) h2 (.inr (by omega))
        rw [if_neg (by omega)];omega
    · rw [if_neg e1] at h1
      have h3 : c y z ≤ 0:=by
        by_cases e2 : c y z = 0
        · omega
        · rw [if_neg e2] at h2;exact h2
      have:=h.lt (x:=x) (y:=y) (z:=z) h1 h3 (.inl (by omega))
      rw [if_neg (by omega)];omega
theorem WC.swo {α : Type} {c : α → α → Int} (h : WC c) : SWO (ltOf c):=by
  have e : ∀ x y,ltOf c x y = true ↔ c x y < 0:=fun x y=>by simp [ltOf]
  have e' : ∀ x y,ltOf c x y = false ↔ ¬ c x y < 0:=fun x y=>by simp [ltOf]
  refine ⟨fun x=>?_,fun x y z h1 h2=>?_,fun x y z h1 h2=>?_⟩
  · rw [e',h.refl];omega
  · rw [e] at *
    exact h.lt (by omega) (by omega) (.inl h1)
  · rw [e'] at *
    have a1:=h.anti x y
    have a2:=h.anti y x
    have a3:=h.anti y z
    have a4:=h.anti z y
    have a5:=h.anti x z
    have:=h.le z y x (by omega) (by omega)
    omega
theorem ltOf_tot {α : Type} {c : α → α → Int} (h : WC c) (hz : ∀ x y,c x y = 0 → x = y) : ∀ x y,ltOf c x y = false → ltOf c y x = false → x = y:=fun x y h1 h2=>by
  have e' : ∀ x y,ltOf c x y = false ↔ ¬ c x y < 0:=fun x y=>by simp [ltOf]
  rw [e'] at h1 h2
  have:=h.anti y x
  exact hz x y (by omega)
def Rise {α : Type} (c : α → α → Int) (l : List α) : Prop:=l.Pairwise fun x y=>c x y < 0
theorem rise_eq {α : Type} {c : α → α → Int} (h : WC c) : ∀ {a b : List α},Rise c a → Rise c b → (∀ x,x ∈ a ↔ x ∈ b) → a = b
  | [],[],_,_,_=>rfl
  | [],y :: b,_,_,hm=>by have:=(hm y).2 (.head _);cases this
  | x :: a,[],_,_,hm=>by have:=(hm x).1 (.head _);cases this
  | x :: a,y :: b,ha,hb,hm=>by
    unfold Rise at ha hb
    rw [List.pairwise_cons] at ha hb
    have e : x = y:=by
      have h1:=(hm x).1 (.head _)
      have h2:=(hm y).2 (.head _)
      simp only [List.mem_cons] at h1 h2
      rcases h1 with h1|h1
      · exact h1
      · rcases h2 with h2|h2
        · exact h2.symm
        · have l1:=ha.1 y h2
          have l2:=hb.1 x h1
          have:=(h.anti x y).1 l1
          omega
    subst e
    congr 1
    refine rise_eq h ha.2 hb.2 fun z=>?_
    have hz:=hm z
    simp only [List.mem_cons] at hz
    constructor
    · intro hz'
      rcases hz.1 (.inr hz') with e|e
      · subst e;have:=ha.1 z hz';rw [h.refl] at this;omega
      · exact e
    · intro hz'
      rcases hz.2 (.inr hz') with e|e
      · subst e;have:=hb.1 z hz';rw [h.refl] at this;omega
      · exact e
open Classical in
noncomputable def compL {α : Type} : List α → List α
  | []=>[]
  | [x]=>[x]
  | x :: y :: t=>if x = y then compL (y :: t) else x :: compL (y :: t)
open Classical in
theorem compL_snoc {α : Type} : ∀ (t : List α) (y x : α),compL (t ++ [y] ++ [x]) = compL (t ++ [y]) ++ (if y = x then [] else [x])
  | [],y,x=>by
    simp only [List.nil_append,List.cons_append,compL]
    by_cases h : y = x
    · simp [h]
    · simp [h]
  | [z],y,x=>by
    simp only [List.nil_append,List.cons_append,compL]
    by_cases h : y = x <;> by_cases h' : z = y <;> simp [h,h']
  | z :: w :: t,y,x=>by
    have ih:=compL_snoc (w :: t) y x
    simp only [List.cons_append] at ih ⊢
    simp only [compL]
    rw [ih]
    split <;> simp
theorem compL_mem {α : Type} : ∀ (l : List α) (x : α),x ∈ compL l ↔ x ∈ l
  | [],x=>by simp [compL]
  | [y],x=>by simp [compL]
  | y :: z :: t,x=>by
    have ih:=compL_mem (z :: t) x
    simp only [compL]
    split
    · rename_i h;subst h;rw [ih];simp
    · rw [List.mem_cons,ih,List.mem_cons (a:=x) (b:=y)]
theorem compL_rise {α : Type} {c : α → α → Int} (h : WC c) (hz : ∀ x y,c x y = 0 → x = y) : ∀ {l : List α},l.Pairwise (fun x y=>c x y ≤ 0) → Rise c (compL l)
  | [],_=>List.Pairwise.nil
  | [x],_=>List.pairwise_singleton _ _
  | x :: y :: t,hp=>by
    rw [List.pairwise_cons] at hp
    have ih:=compL_rise h hz hp.2
    simp only [compL]
    split
    · exact ih
    · rename_i hne
      refine List.pairwise_cons.2 ⟨fun z hzm=>?_,ih⟩
      have hzm':=(compL_mem (y :: t) z).1 hzm
      have hxy : c x y < 0:=by
        have:=hp.1 y (.head _)
        rcases Int.lt_or_eq_of_le this with h5|h5
        · exact h5
        · exact absurd (hz x y h5) hne
      simp only [List.mem_cons] at hzm'
      rcases hzm' with e|e
      · subst e;exact hxy
      · exact h.lt (by omega) ((List.pairwise_cons.1 hp.2).1 z e) (.inl hxy)
open Classical in
theorem compL_take {α : Type} (l : List α) (m : Nat) (h : m + 1 < l.length) : compL (l.take (m + 2)) = compL (l.take (m + 1)) ++ (if l[m] = l[m + 1] then [] else [l[m + 1]]):=by
  have e1 : l.take (m + 1) = l.take m ++ [l[m]]:=List.take_succ_eq_append_getElem (by omega)
  have e2 : l.take (m + 2) = l.take m ++ [l[m]] ++ [l[m + 1]]:=by rw [List.take_succ_eq_append_getElem h,e1]
  rw [e2,e1,compL_snoc]
noncomputable def sortC {α : Type} (c : α → α → Int) (l : List α) : List α:=compL (l.mergeSort fun x y=>!(ltOf c y x))
theorem sortC_mem {α : Type} (c : α → α → Int) (l : List α) (x : α) : x ∈ sortC c l ↔ x ∈ l:=by
  unfold sortC;rw [compL_mem,List.mem_mergeSort]
theorem sortC_rise {α : Type} {c : α → α → Int} (h : WC c) (hz : ∀ x y,c x y = 0 → x = y) (l : List α) : Rise c (sortC c l):=by
  refine compL_rise h hz ?_
  have e : ∀ x y,(!(ltOf c y x)) = true ↔ c x y ≤ 0:=fun x y=>by
    have:=h.anti y x
    have:=h.anti x y
    simp [ltOf];omega
  have:=List.pairwise_mergeSort (le:=fun x y=>!(ltOf c y x)) (fun a b d h1 h2=>by rw [e] at *;exact h.le _ _ _ h1 h2) (fun a b=>by
    have:=h.anti a b
    have:=h.anti b a
    rw [Bool.or_eq_true,e,e];omega) l
  exact this.imp fun {a b} hab=>(e a b).1 hab
theorem compL_len {α : Type} : ∀ (l : List α),(compL l).length ≤ l.length
  | []=>by simp [compL]
  | [x]=>by simp [compL]
  | x :: y :: t=>by
    have:=compL_len (y :: t)
    simp only [compL];split <;> simp at * <;> omega
theorem sortC_len {α : Type} (c : α → α → Int) (l : List α) : (sortC c l).length ≤ l.length:=by
  have:=compL_len (l.mergeSort fun x y=>!(ltOf c y x))
  rw [List.length_mergeSort] at this;exact this
theorem sortC_eq {α : Type} {c : α → α → Int} (h : WC c) (hz : ∀ x y,c x y = 0 → x = y) {l m : List α} (hr : Rise c m) (hm : ∀ x,x ∈ m ↔ x ∈ l) : m = sortC c l :=
  rise_eq h hr (sortC_rise h hz l) fun x=>by rw [hm,sortC_mem]
def insC {α : Type} (c : α → α → Int) (x : α) : List α → List α
  | []=>[x]
  | y :: t=>if c y x < 0 then y :: insC c x t else if c y x = 0 then y :: t else x :: y :: t
theorem insC_mem {α : Type} {c : α → α → Int} (hz : ∀ x y,c x y = 0 → x = y) (x : α) : ∀ (l : List α) (z : α),z ∈ insC c x l ↔ z = x ∨ z ∈ l
  | [],z=>by simp [insC]
  | y :: t,z=>by
    have ih:=insC_mem hz x t z
    simp only [insC]
    split
    · rw [List.mem_cons,ih,List.mem_cons]
      constructor
      · rintro (h|h|h)
        · exact .inr (.inl h)
        · exact .inl h
        · exact .inr (.inr h)
      · rintro (h|h|h)
        · exact .inr (.inl h)
        · exact .inl h
        · exact .inr (.inr h)
    · split
      · rename_i h;have:=hz y x h;subst this;simp
      · simp
theorem insC_rise {α : Type} {c : α → α → Int} (h : WC c) (hz : ∀ x y,c x y = 0 → x = y) (x : α) : ∀ {l : List α},Rise c l → Rise c (insC c x l)
  | [],_=>List.pairwise_singleton _ _
  | y :: t,hr=>by
    unfold Rise at *
    have hr':=List.pairwise_cons.1 hr
    simp only [insC]
    split
    · rename_i hlt
      refine List.pairwise_cons.2 ⟨fun z hzm=>?_,insC_rise h hz x hr'.2⟩
      rcases (insC_mem hz x t z).1 hzm with e|e
      · subst e;exact hlt
      · exact hr'.1 z e
    · rename_i h1
      split
      · exact hr
      · rename_i h2
        have hxy : c x y < 0:=(h.anti x y).2 (by omega)
        refine List.pairwise_cons.2 ⟨fun z hzm=>?_,hr⟩
        simp only [List.mem_cons] at hzm
        rcases hzm with e|e
        · subst e;exact hxy
        · have:=hr'.1 z e
          exact h.lt (by omega) (by omega) (.inl hxy)
theorem insC_at {α : Type} {c : α → α → Int} (x : α) : ∀ (n : Nat) (l : List α),n ≤ l.length → (∀ (j : Nat) (h : j < l.length),j < n → c l[j] x < 0) →
    (∀ h : n < l.length,¬ c l[n] x < 0 → (c l[n] x = 0 → insC c x l = l) ∧ (c l[n] x ≠ 0 → insC c x l = l.take n ++ [x] ++ l.drop n)) ∧ (n = l.length → insC c x l = l ++ [x])
  | 0,[],_,_=>⟨fun h=>by simp at h,fun _=>rfl⟩
  | 0,y :: t,_,_=>by
    refine ⟨fun _ h1=>⟨fun h2=>?_,fun h2=>?_⟩,fun h=>by simp at h⟩
    · simp only [List.getElem_cons_zero] at h1 h2
      simp only [insC];rw [if_neg h1,if_pos h2]
    · simp only [List.getElem_cons_zero] at h1 h2
      simp only [insC];rw [if_neg h1,if_neg h2];rfl
  | n + 1,[],h,_=>by simp at h
  | n + 1,y :: t,h,hj=>by
    have h0 : c y x < 0:=hj 0 (by simp) (by omega)
    obtain ⟨g1,g2⟩:=insC_at (c:=c) x n t (by simpa using h) fun j hj1 hj2=>by
      have:=hj (j + 1) (by simpa using hj1) (by omega)
      simpa using this
    have e : insC c x (y :: t) = y :: insC c x t:=by simp only [insC];rw [if_pos h0]
    rw [e]
    refine ⟨fun hn h1=>?_,fun hn=>?_⟩
    · simp only [List.getElem_cons_succ] at h1 ⊢
      obtain ⟨k1,k2⟩:=g1 (by simpa using hn) h1
      exact ⟨fun h2=>by rw [k1 h2],fun h2=>by rw [k2 h2];rfl⟩
    · rw [g2 (by simpa using hn)];rfl
theorem insC_len {α : Type} (c : α → α → Int) (x : α) : ∀ l : List α,(insC c x l).length ≤ l.length + 1
  | []=>by simp [insC]
  | y :: t=>by
    have:=insC_len c x t
    simp only [insC];split
    · simp;omega
    · split <;> simp
def insL {α : Type} (c : α → α → Int) (l : List α) : List α:=l.foldl (fun out x=>insC c x out) []
theorem insL_snoc {α : Type} (c : α → α → Int) (l : List α) (i : Nat) (h : i < l.length) : insL c (l.take (i + 1)) = insC c l[i] (insL c (l.take i)):=by
  unfold insL
  rw [List.take_succ_eq_append_getElem h,List.foldl_append];rfl
theorem insL_len {α : Type} (c : α → α → Int) (l : List α) (i : Nat) (h : i ≤ l.length) : (insL c (l.take i)).length ≤ i:=by
  induction i with
  | zero=>simp [insL]
  | succ i ih =>
    rw [insL_snoc c l i (by omega)]
    have:=insC_len c l[i] (insL c (l.take i))
    have:=ih (by omega)
    omega
theorem fold_sortC {α : Type} {c : α → α → Int} (h : WC c) (hz : ∀ x y,c x y = 0 → x = y) (l : List α) : l.foldl (fun out x=>insC c x out) [] = sortC c l:=by
  have key : ∀ (l out : List α),Rise c out → Rise c (l.foldl (fun out x=>insC c x out) out) ∧ ∀ z,z ∈ l.foldl (fun out x=>insC c x out) out ↔ z ∈ out ∨ z ∈ l:=by
    intro l
    induction l with
    | nil=>exact fun out hr=>⟨hr,fun z=>by simp⟩
    | cons x l ih =>
      intro out hr
      obtain ⟨h1,h2⟩:=ih (insC c x out) (insC_rise h hz x hr)
      refine ⟨h1,fun z=>?_⟩
      rw [List.foldl_cons,h2,insC_mem hz,List.mem_cons]
      constructor
      · rintro ((e|e)|e)
        · exact .inr (.inl e)
        · exact .inl e
        · exact .inr (.inr e)
      · rintro (e|e|e)
        · exact .inl (.inr e)
        · exact .inl (.inl e)
        · exact .inr e
  obtain ⟨h1,h2⟩:=key l [] List.Pairwise.nil
  exact sortC_eq h hz h1 fun z=>by rw [h2];simp
end Go.Proofs

namespace Go.AL
section
variable {P : Program} [GlobF P] {fr : Option Nat} {N : Nat}
end
section
variable {P : Program} [GlobF P] {fr : Option Nat} {N : Nat} {Q : Exit → AS → Prop} {rg : List (Nat × AV)} {hp : List AObj} {mk : Mk}
end
end Go.AL

namespace Go.AL
end Go.AL
