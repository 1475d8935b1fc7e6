/- Plans: the least times of q2z. Conditions: as stated. -/
import Derived.Test.YthcplpfiidlinaaLO
open Go.Ev Go
namespace Go.Proofs.Ythcplpfiidlinaa.L
section
variable {n:Nat}{gap:Int}{s:Sl diff_After}
end
end Go.Proofs.Ythcplpfiidlinaa.L
