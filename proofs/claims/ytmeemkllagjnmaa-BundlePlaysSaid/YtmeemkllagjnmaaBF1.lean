/- The law TableFirst over its program. Conditions: as stated. -/
import Derived.Test.YtmeemkllagjnmaaBD
import Derived.Test.YtmeemkllagjnmaaBG
import Derived.Test.YtmeemkllagjnmaaBt
open Go.Ev Go
namespace Go.Proofs.Ytmeemkllagjnmaa.B
end Go.Proofs.Ytmeemkllagjnmaa.B
