/- The law WireNone over its program. Conditions: none. -/
import Derived.Test.YtgfldincijcacaaW5t
open Go.Ev Go
namespace Go.Proofs.Ytgfldincijcacaa.W

theorem wireNone_law (p : Int × Int × Arr 4 Int) : law35_WireNone p.1 p.2.1 p.2.2 = some true := by
  simp [law35_WireNone, wire_Wires_Take_nil, wire_Wires_Look_nil, wire_Wires_Put_nil, wire_Wires_Len_nil, wire_Wires_Due_nil, wire_Wires_Next_nil, law35_awake_runs, Sl.l]
  decide
end Go.Proofs.Ytgfldincijcacaa.W
