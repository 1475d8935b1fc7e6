/- Examples by running: what a call without arguments answers. Conditions: the program's mark for mixed orders. -/
import Derived.Test.YtingpmogbibghaaKm
import Derived.Test.YtingpmogbibghaaRn
open Option.some renaming inj->aa
namespace Go.Ev
def Gc:Option (List R×List T)->Bool
 |some ([.c (.d (.lit (.bool true)))],[])=>true
 |_=>false
theorem Gb{r:Option (List R×List T)}(h:Gc r=true):r=some ([.c (.d (.lit (.bool true)))],[]):=by
 unfold Gc at h;split at h
 .rfl
 .cases h
theorem BT{P:Program}{QC:pT}{ex:Call}{d f:Nat}{ro:Bool}(hm:P.follows .mixedOrders=true)(hx:fB P ex)(h:Gc (BW P QC ex d f [])=true):gg P f ⟨[],[([.x .b],[])],ro,[],fun _=>some true⟩:=by refine⟨by cases ro<;>decide+kernel,fun p z hz=>?_⟩;obtain rfl:=aa hz;exact y9 hm hx d f [] _ _ (Gb h)
end Go.Ev
