/- Contracts of the reference: People, Chairs, Minds, Groups. No condition but small numbers. -/
import Derived.Test.YtanlhbmliegjeaaGreatC1
set_option maxRecDepth 100000
set_option linter.unusedSimpArgs false
open Go Go.Pg Go.Proofs Go.Wind
namespace Go.Wind
end Go.Wind
namespace Go.Proofs.Tryz.Op
end Go.Proofs.Tryz.Op
