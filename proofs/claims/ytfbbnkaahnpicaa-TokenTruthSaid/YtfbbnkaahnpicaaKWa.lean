/- What one call of the closed example comes to, by computing. No condition. -/
import Derived.Test.YtfbbnkaahnpicaaQc
namespace Go.Proofs.Try.Kn
open Go Go.Pg
theorem kWa:call0 Try.prog ex0 33 [SS 4,i 2] = some (.tup [.list false [[i 2,i 0,i 1]],e 0]):=by kernel_rfl
end Go.Proofs.Try.Kn
