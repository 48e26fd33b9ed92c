/- Digests of short texts. -/
import Derived.Test.YtbdkgmkaakoigaaDoorSha
set_option maxRecDepth 20000
namespace Go.Sha
def note1T : List UInt8 := [0, 0, 0, 0, 0, 0, 0, 0, 0, 0, 0, 0, 0, 0, 0, 0, 0, 0, 0, 0, 0, 0, 0, 0, 0, 0, 0, 0, 0, 0, 0, 0, 1, 4, 1, 1, 0, 1, 2, 1, 1, 1, 2, 1, 5, 1, 1, 97]
end Go.Sha
