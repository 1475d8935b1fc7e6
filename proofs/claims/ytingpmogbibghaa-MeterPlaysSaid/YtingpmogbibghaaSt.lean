/- Rows that are sorted, equals in their order: what that is, and that it is one row alone. Conditions: as stated. -/
import Derived.Test.YtingpmogbibghaaEvY
namespace Go.Ev
structure NP{α:Type}(lt:α->α->Bool):Prop where
 Pt:∀x,lt x x=false
 tr:∀x y z,lt x y=true->lt y z=true->lt x z=true
 Pn:∀x y z,lt x y=false->lt y z=false->lt x z=false
section
variable{α:Type}{lt:α->α->Bool}
def MK(lt:α->α->Bool)(l:List α):Prop:=l.Pairwise fun x y=>lt y x=false
end
end Go.Ev
