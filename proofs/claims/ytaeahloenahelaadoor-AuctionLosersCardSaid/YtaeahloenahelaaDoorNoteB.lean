/- What is written is read as it was, and back. -/
import Derived.Test.YtaeahloenahelaaDoorNote
namespace Go.Note
/-! ### What is read is written as it was -/
end Go.Note
