/- The walk of TokenMoney: true. No condition. -/
import Derived.Test.YtfbbnkaahnpicaaT2
import Derived.Test.YtfbbnkaahnpicaaFz
import Derived.Test.YtfbbnkaahnpicaaY1
open Go Go.Pg Go.Proofs
namespace Go.Proofs.Try.Op
set_option maxRecDepth 100000
set_option linter.unusedSimpArgs false
end Go.Proofs.Try.Op
