/- The known calls, all of them proved. No condition. -/
import Derived.Test.YtfbbnkaahnpicaaQd
import Derived.Test.YtfbbnkaahnpicaaKWa
import Derived.Test.YtfbbnkaahnpicaaKOa
import Derived.Test.YtfbbnkaahnpicaaKMa
import Derived.Test.YtfbbnkaahnpicaaKXa
import Derived.Test.YtfbbnkaahnpicaaKFa
import Derived.Test.YtfbbnkaahnpicaaKLa
import Derived.Test.YtfbbnkaahnpicaaKWb
import Derived.Test.YtfbbnkaahnpicaaKWc
import Derived.Test.YtfbbnkaahnpicaaKOb
import Derived.Test.YtfbbnkaahnpicaaKMb
import Derived.Test.YtfbbnkaahnpicaaKXb
import Derived.Test.YtfbbnkaahnpicaaKXc
import Derived.Test.YtfbbnkaahnpicaaKLb
import Derived.Test.YtfbbnkaahnpicaaKLc
import Derived.Test.YtfbbnkaahnpicaaKFb
import Derived.Test.YtfbbnkaahnpicaaKMc
import Derived.Test.YtfbbnkaahnpicaaKBa
import Derived.Test.YtfbbnkaahnpicaaKWd
import Derived.Test.YtfbbnkaahnpicaaKOc
import Derived.Test.YtfbbnkaahnpicaaKMd
namespace Go.Proofs.Try.Kn
open Go Go.Pg
theorem tabOK : KnOK Try.prog tabN :=
  (knOK_cons (lit := noL) (n := 300) hP knOK_nil koOK_nil (knOK_cons (lit := noL) (n := 300) hP knOK_nil koOK_nil (knOK_cons (lit := noL) (n := 300) hP knOK_nil koOK_nil (knOK_cons (lit := noL) (n := 300) hP knOK_nil koOK_nil (knOK_cons (lit := noL) (n := 300) hP knOK_nil koOK_nil (knOK_cons (lit := noL) (n := 300) hP knOK_nil koOK_nil (knOK_cons (lit := noL) (n := 300) hP knOK_nil koOK_nil (knOK_cons (lit := noL) (n := 300) hP knOK_nil koOK_nil (knOK_cons (lit := noL) (n := 300) hP knOK_nil koOK_nil (knOK_cons (lit := noL) (n := 300) hP knOK_nil koOK_nil (knOK_cons (lit := noL) (n := 300) hP knOK_nil koOK_nil (knOK_cons (lit := noL) (n := 300) hP knOK_nil koOK_nil (knOK_cons (lit := noL) (n := 300) hP knOK_nil koOK_nil (knOK_cons (lit := noL) (n := 300) hP knOK_nil koOK_nil (knOK_cons (lit := noL) (n := 300) hP knOK_nil koOK_nil (knOK_cons (lit := noL) (n := 300) hP knOK_nil koOK_nil (knOK_cons (lit := noL) (n := 300) hP knOK_nil koOK_nil (knOK_cons (lit := noL) (n := 300) hP knOK_nil koOK_nil (knOK_cons (lit := noL) (n := 300) hP knOK_nil koOK_nil (knOK_cons (lit := noL) (n := 300) hP knOK_nil koOK_nil knOK_nil kMd) kOc) kWd) kBa) kMc) kFb) kLc) kLb) kXc) kXb) kMb) kOb) kWc) kWb) kLa) kFa) kXa) kMa) kOa) kWa)
theorem ownOK : KoOK Try.prog ownN :=
  koOK_cons (lit := litS) (n := 300) hP knOK_nil koOK_nil (koOK_cons (lit := litS) (n := 300) hP knOK_nil koOK_nil (koOK_cons (lit := litS) (n := 300) hP knOK_nil koOK_nil koOK_nil h241) h240) h239
end Go.Proofs.Try.Kn
