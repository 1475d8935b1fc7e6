/- Matches: what two have in common, which lies within which; rules that overlap. Conditions: as stated. -/
import Derived.Test.YtmeemkllagjnmaaBB
open Go.Ev Go
namespace Go.Proofs.Ytmeemkllagjnmaa.B
end Go.Proofs.Ytmeemkllagjnmaa.B
