/- How long an argument may be: a slice's bytes are within the form's reach. No condition. -/
import Derived.Test.YtjojdiefnhbglaaGreatOpen
import Derived.SizedLaws
set_option linter.all false
namespace Go.AL
end Go.AL
