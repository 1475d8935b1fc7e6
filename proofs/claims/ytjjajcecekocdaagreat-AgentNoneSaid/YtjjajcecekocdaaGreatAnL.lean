/- A nil agent: the law answers true. Conditions: none. -/
import Derived.Test.YtjjajcecekocdaaGreatAn
import Derived.KernelRfl
open Go.Ev Go
namespace Go.Proofs.YtjjajcecekocdaaGreat.A
theorem KU(now:Int)(m:af)(p:Arr 4 Int):oD now m p=(kV.bind fun r=>some r).bind fun b=>some b:=by kernel_rfl
theorem Ip(now:Int)(m:af)(p:Arr 4 Int):oD now m p=some true:=by rw[KU,wh];rfl
end Go.Proofs.YtjjajcecekocdaaGreat.A
