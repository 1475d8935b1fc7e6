/- Rounds of moves: what the program's Rounds answers. Conditions: as stated. -/
import Derived.Test.YthcplpfiidlinaaLN
open Go.Ev Go
namespace Go.Proofs.Ythcplpfiidlinaa.L
end Go.Proofs.Ythcplpfiidlinaa.L
