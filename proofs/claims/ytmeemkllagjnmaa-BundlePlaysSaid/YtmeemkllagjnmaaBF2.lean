/- The law TableTells over its program. Conditions: as stated. -/
import Derived.Test.YtmeemkllagjnmaaBE
import Derived.Test.YtmeemkllagjnmaaBF1
open Go.Ev Go
namespace Go.Proofs.Ytmeemkllagjnmaa.B
end Go.Proofs.Ytmeemkllagjnmaa.B
