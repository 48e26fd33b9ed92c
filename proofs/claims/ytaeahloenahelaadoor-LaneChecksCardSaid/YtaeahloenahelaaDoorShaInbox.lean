/- Digests of short texts. -/
import Derived.Test.YtaeahloenahelaaDoorSha
set_option maxRecDepth 20000
namespace Go.Sha
end Go.Sha
