/- MeterTells: rates and mixtures are the reference's. Conditions: words of 64 bits. -/
import Derived.Test.YtingpmogbibghaaMA
open Go.Ev Go Go.Fl
namespace Go.Proofs.Ytingpmogbibghaa.M
theorem xP{x:Int}(h:0<=x)(h2:x<=18446744073709551615):∃n:Nat,x=(n:Int)/\oz n:=⟨x.toNat,by omega,by unfold oz;omega⟩
end Go.Proofs.Ytingpmogbibghaa.M
