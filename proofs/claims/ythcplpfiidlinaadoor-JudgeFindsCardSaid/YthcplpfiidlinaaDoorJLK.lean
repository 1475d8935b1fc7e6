/- The moves between good routes, in order. Conditions: as stated. -/
import Derived.Test.YthcplpfiidlinaaDoorJLE
import Derived.Test.YthcplpfiidlinaaDoorJN
open Go.Ev Go
noncomputable section
namespace Go.Proofs.YthcplpfiidlinaaDoor.J
section
variable{t:ah}{old now:Sl (Sl Int)}
def cm(t:ah)(old now:Sl (Sl Int)):List ae:=(jN (DP t old now).toArray).toList
theorem Li{m:ae}:m∈cm t old now<->m∈DP t old now:=(vc _).mem_iff
theorem B5(hN:gy t now):(cm t old now).length<=64:=by have hsm:=hN.1.sM;have hho:=hN.1.se;rw[cm,(vc _).length_eq];have:=gT (m:=8) (f:=Nn t old now) (fun h=>by have:=B4 (t:=t) (old:=old) (now:=now) h;omega) (List.range t.bf.l.length);rw[List.length_range]at this;have e:(DP t old now).length<=8*t.bf.l.length:=this;omega
theorem DR(hN:gy t now){m:ae}(hm:m∈cm t old now):0<=m.2.2.2/\m.2.2.2<t.br/\m.2.2.2<8:=by obtain⟨h,s,hh,hs,_,rfl⟩:=xQ.1 (Li.1 hm);have:=hN.lt hs hh;have:=hN.1.sM;have:=hN.1.len;simp only;omega
end
end Go.Proofs.YthcplpfiidlinaaDoor.J
