/- Digests of short texts. -/
import Derived.Test.YtnnhnnhdoipbaaaDoorSha
set_option maxRecDepth 20000
namespace Go.Sha
end Go.Sha
