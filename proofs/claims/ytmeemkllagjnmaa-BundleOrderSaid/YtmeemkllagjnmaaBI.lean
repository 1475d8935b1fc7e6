/- Changes of tables: the document's come to the same. Conditions: as stated. -/
import Derived.Test.YtmeemkllagjnmaaBH
open Go.Ev Go
namespace Go.Proofs.Ytmeemkllagjnmaa.B
end Go.Proofs.Ytmeemkllagjnmaa.B
