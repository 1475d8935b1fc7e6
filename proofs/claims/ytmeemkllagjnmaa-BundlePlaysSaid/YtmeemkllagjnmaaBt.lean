/- law11_awake answers true: by running its twin. Conditions: none. -/
import Derived.Test.YtmeemkllagjnmaaB
import Derived.Test.YtmeemkllagjnmaaTwin
open Go.Ev Go
namespace Go.Proofs.Ytmeemkllagjnmaa.B
end Go.Proofs.Ytmeemkllagjnmaa.B
