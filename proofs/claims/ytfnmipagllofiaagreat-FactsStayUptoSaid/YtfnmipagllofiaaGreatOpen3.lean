/- How long an argument may be: a slice's bytes are within the form's reach. No condition. -/
import Derived.Test.YtfnmipagllofiaaGreatOpen
import Derived.SizedLaws
namespace Go.AL
theorem sl_len {G : Gh} {a : Option Addr} {len cap k : Nat} {tok : Option Nat} {els : List (List AV)} (h : Conc G (.slice a len cap) (.sl tok k els)) : els.length = len := by
  cases h <;> rfl
end Go.AL
