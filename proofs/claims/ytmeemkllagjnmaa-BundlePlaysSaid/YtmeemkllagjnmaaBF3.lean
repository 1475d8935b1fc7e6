/- The laws TableChanges, TableNone and TableBack over their programs. Conditions: as stated. -/
import Derived.Test.YtmeemkllagjnmaaBL
import Derived.Test.YtmeemkllagjnmaaBF2
open Go.Ev Go
namespace Go.Proofs.Ytmeemkllagjnmaa.B
end Go.Proofs.Ytmeemkllagjnmaa.B
