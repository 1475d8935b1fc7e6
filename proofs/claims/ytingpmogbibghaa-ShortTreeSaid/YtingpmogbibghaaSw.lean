/- A merge that never comes to an end, in place of the library's. Conditions: none. -/
import Derived.Test.YtingpmogbibghaaS
import Derived.Test.YtingpmogbibghaaTwin
open Go.Ev Go
namespace Go.Proofs.Ytingpmogbibghaa.S
def Cz:Sl Int->Int->Int->Int->Sl Nat->Option (Sl Int):=fun _ _ _ _ _=>none
theorem zq(a:Sl Int)(b c d:Int)(e:Sl Nat):c8 (Cz a b c d e) (bl 8 a b c d e):=fun z h=>by cases h
end Go.Proofs.Ytingpmogbibghaa.S
