/- Examples by running: what a call without arguments answers. Conditions: the program's mark for mixed orders. -/
import Derived.Test.YtoekkpmeeclpeaaGreatKm
import Derived.Test.YtoekkpmeeclpeaaGreatRn
namespace Go.Ev
def RM:Option (List R×List T)->Bool
 |some ([.c (.d (.lit (.bool true)))],[])=>true
 |_=>false
theorem RL{r:Option (List R×List T)}(h:RM r=true):r=some ([.c (.d (.lit (.bool true)))],[]):=by
 unfold RM at h;split at h
 .rfl
 .cases h
end Go.Ev
