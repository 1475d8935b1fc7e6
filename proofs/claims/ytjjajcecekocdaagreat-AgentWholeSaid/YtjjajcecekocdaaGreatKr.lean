/- Examples by running: what a call without arguments answers. Conditions: the program's mark for mixed orders. -/
import Derived.Test.YtjjajcecekocdaaGreatKm
import Derived.Test.YtjjajcecekocdaaGreatRn
open Option.some renaming inj->aa
namespace Go.Ev
def QL:Option (List R×List T)->Bool
 |some ([.c (.d (.lit (.bool true)))],[])=>true
 |_=>false
theorem QK{r:Option (List R×List T)}(h:QL r=true):r=some ([.c (.d (.lit (.bool true)))],[]):=by
 unfold QL at h;split at h
 .rfl
 .cases h
theorem KK{P:Program}{bz:ww}{ex:Call}{d f:Nat}{ro:Bool}(hm:P.follows .mixedOrders=true)(hx:kE P ex)(h:QL (tJ P bz ex d f [])=true):bf P f ⟨[],[([.x .b],[])],ro,[],fun _=>some true⟩:=by refine⟨by cases ro<;>decide+kernel,fun p z hz=>?_⟩;obtain rfl:=aa hz;exact BR hm hx d f [] _ _ (QK h)
end Go.Ev
