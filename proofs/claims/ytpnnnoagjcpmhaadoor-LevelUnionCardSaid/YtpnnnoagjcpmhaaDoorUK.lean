/- The moves between good routes, in order. Conditions: as stated. -/
import Derived.Test.YtpnnnoagjcpmhaaDoorUE
import Derived.Test.YtpnnnoagjcpmhaaDoorUM
open Go.Ev Go
noncomputable section
namespace Go.Proofs.YtpnnnoagjcpmhaaDoor.U
section
variable{t:ah}{old now:Sl (Sl Int)}
def u_(t:ah)(old now:Sl (Sl Int)):List ap:=(kq (KP t old now).toArray).toList
theorem DF{m:ap}:m∈u_ t old now<->m∈KP t old now:=(vQ _).mem_iff
theorem IM(hN:gk t now):(u_ t old now).length<=64:=by have hsm:=hN.1.o5;have hho:=hN.1.rM;rw[u_,(vQ _).length_eq];have:=jR (m:=8) (f:=KQ t old now) (fun h=>by have:=zM (t:=t) (old:=old) (now:=now) h;omega) (List.range t.aR.l.length);rw[List.length_range]at this;have e:(KP t old now).length<=8*t.aR.l.length:=this;omega
end
end Go.Proofs.YtpnnnoagjcpmhaaDoor.U
