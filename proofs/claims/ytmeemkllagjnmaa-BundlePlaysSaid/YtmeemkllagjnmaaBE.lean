/- What tables send, and sameness. Conditions: as stated. -/
import Derived.Test.YtmeemkllagjnmaaBD
open Go.Ev Go
namespace Go.Proofs.Ytmeemkllagjnmaa.B
end Go.Proofs.Ytmeemkllagjnmaa.B
