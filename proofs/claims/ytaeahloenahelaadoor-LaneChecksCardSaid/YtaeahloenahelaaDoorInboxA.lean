/- What the inbox must give at any rate. -/
import Derived.Test.YtaeahloenahelaaDoorShaInbox
import Derived.Test.YtaeahloenahelaaDoorInbox
namespace Go.Inbox
open Go.Note (Z num)
end Go.Inbox
