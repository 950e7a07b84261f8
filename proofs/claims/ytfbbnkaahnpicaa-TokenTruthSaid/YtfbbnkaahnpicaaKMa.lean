/- What one call of the closed example comes to, by computing. No condition. -/
import Derived.Test.YtfbbnkaahnpicaaQc
namespace Go.Proofs.Try.Kn
open Go Go.Pg
theorem kMa:call0 Try.prog ex0 28 [SS 4,i 2] = some (.tup [.agg [i 30,i 30],e 0]):=by kernel_rfl
end Go.Proofs.Try.Kn
