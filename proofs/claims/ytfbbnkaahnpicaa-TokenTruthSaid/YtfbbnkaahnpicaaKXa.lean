/- What one call of the closed example comes to, by computing. No condition. -/
import Derived.Test.YtfbbnkaahnpicaaQc
namespace Go.Proofs.Try.Kn
open Go Go.Pg
theorem kXa:call0 Try.prog ex0 29 [SS 3] = some (.tup [.agg [i 0,i 1],e 0]):=by kernel_rfl
end Go.Proofs.Try.Kn
