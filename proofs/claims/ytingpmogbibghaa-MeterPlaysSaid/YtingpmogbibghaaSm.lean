/- Sorting rows, equals in their order, by the library's own text (slices.SortStableFunc), for any way to compare. Conditions: as stated. -/
import Derived.Test.YtingpmogbibghaaSt
import Derived.Test.YtingpmogbibghaaFh
open Go.Ev Go
namespace Go.Ev
section
variable{α:Type}[Inhabited α]
theorem wq{n:Int}(h0:-9223372036854775808<=n)(h1:n<9223372036854775808):wr .i64 n=n:=by simp[wr,IntKind.wrap,IntKind.bits,IntKind.signed];omega
theorem M7{n m:Nat}(h:n<m):rM (n:Int) m=some n:=gM.2 ⟨rfl,h⟩
end
section
variable{α:Type}[Inhabited α]{C:α->α->Option Int}{lt:α->α->Bool}{P:α->Prop}
inductive NQ(lt:α->α->Bool)(bs:Nat):List α->Prop
 |N1 {x:List α}:x.length<=bs->MK lt x->NQ lt bs x
 |Oy {x r:List α}:x.length=bs->MK lt x->NQ lt bs r->NQ lt bs (x++r)
end
end Go.Ev
