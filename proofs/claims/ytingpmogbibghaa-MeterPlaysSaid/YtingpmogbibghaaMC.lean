/- MeterSorts: what is sorted is the same numbers, in one row; the middle, the spread. Conditions: words of 64 bits; at most 40 of them. -/
import Derived.Test.YtingpmogbibghaaMB
import Derived.Test.YtingpmogbibghaaSm
open Go.Ev Go Go.Fl
namespace Go.Proofs.Ytingpmogbibghaa.M
theorem OE{n:Nat}(h:n<9223372036854775807):wr .i64 ((n:Int)+1)=((n+1:Nat):Int):=by rw[wq (by omega) (by omega)];omega
end Go.Proofs.Ytingpmogbibghaa.M
