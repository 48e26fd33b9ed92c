/- The digest of "abc". -/
import Derived.Test.YtaeahloenahelaaDoorSha
set_option maxRecDepth 20000
namespace Go.Sha
def abc : List UInt8 := [97, 98, 99]
end Go.Sha
