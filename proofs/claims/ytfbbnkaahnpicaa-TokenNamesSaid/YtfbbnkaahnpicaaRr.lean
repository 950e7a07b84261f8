/- What the closed statement comes to, by computing, with known calls. No condition. -/
import Derived.Test.YtfbbnkaahnpicaaQc
namespace Go.Proofs.Try.Kn
open Go Go.Pg
theorem run17 : call0 Try.prog exN 17 [] = some (.bool true) := by kernel_rfl
end Go.Proofs.Try.Kn
