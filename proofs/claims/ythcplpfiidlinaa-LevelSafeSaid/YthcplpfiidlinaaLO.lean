/- Plans: how long a packet is on its way, which switches have moves in a round, and the times. Conditions: as stated. -/
import Derived.Test.YthcplpfiidlinaaLC
open Go.Ev Go
namespace Go.Proofs.Ythcplpfiidlinaa.L
structure SwsOf (l:List level_Move) (round:Int) (s:List Int):Prop where
 asc:s.Pairwise (· < ·)
 mem:∀x,x∈s↔∃m∈l,m.2.2.2=round/\m.1=x
end Go.Proofs.Ythcplpfiidlinaa.L
