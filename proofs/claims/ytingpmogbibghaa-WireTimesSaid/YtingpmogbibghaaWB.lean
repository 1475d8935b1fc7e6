/- WirePlays: whatever is put, taken, and due, wires have what the reference has. Conditions: none. -/
import Derived.Test.YtingpmogbibghaaWA
open Go.Ev Go
namespace Go.Proofs.Ytingpmogbibghaa.W
theorem Uf{t:l8}:R4 t=some (if R_ t then .inr (t,Sl.nil,0)else .inl 2):=by
 unfold R4;rw[TD,Option.bind_some];by_cases h:R_ t
 .rw [decide_eq_true h,if_pos h];rfl
 .rw [decide_eq_false h,if_neg h];rfl
end Go.Proofs.Ytingpmogbibghaa.W
