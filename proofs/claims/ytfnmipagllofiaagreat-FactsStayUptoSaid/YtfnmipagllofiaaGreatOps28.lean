/- Weakening of aggregates. No condition. -/
import Derived.Test.YtfnmipagllofiaaGreatBase
namespace Go.AL
end Go.AL
