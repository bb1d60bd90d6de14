/- The plain law of spans: the document's way, by the instants at which something may turn. No condition. -/
import Derived.Test.YtfnmipagllofiaaGreatOps20
namespace Go.Proofs
end Go.Proofs
