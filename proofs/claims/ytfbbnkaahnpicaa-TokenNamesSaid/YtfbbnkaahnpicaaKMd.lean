/- What one call of the closed example comes to, by computing. No condition. -/
import Derived.Test.YtfbbnkaahnpicaaQc
namespace Go.Proofs.Try.Kn
open Go Go.Pg
theorem kMd : call0 Try.prog ex0 28 [.agg [i 1, i 5, i 20, .list false [[i 0, i 0, i 0]], .nil], i 1] = some (.tup [.agg [i 25, i 25], e 0]) := by kernel_rfl
end Go.Proofs.Try.Kn
