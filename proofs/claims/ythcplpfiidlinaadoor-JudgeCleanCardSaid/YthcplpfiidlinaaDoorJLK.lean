/- The moves between good routes, in order. Conditions: as stated. -/
import Derived.Test.YthcplpfiidlinaaDoorJLE
import Derived.Test.YthcplpfiidlinaaDoorJN
open Go.Ev Go
noncomputable section
namespace Go.Proofs.YthcplpfiidlinaaDoor.J
section
variable{t:ah}{old now:Sl (Sl Int)}
def cm(t:ah)(old now:Sl (Sl Int)):List ae:=(jK (DB t old now).toArray).toList
theorem K9{m:ae}:m∈cm t old now<->m∈DB t old now:=(uX _).mem_iff
theorem BX(hN:gx t now):(cm t old now).length<=64:=by have hsm:=hN.1.sC;have hho:=hN.1.rT;rw[cm,(uX _).length_eq];have:=gT (m:=8) (f:=Nf t old now) (fun h=>by have:=BW (t:=t) (old:=old) (now:=now) h;omega) (List.range t.bd.l.length);rw[List.length_range]at this;have e:(DB t old now).length<=8*t.bd.l.length:=this;omega
theorem DD(hN:gx t now){m:ae}(hm:m∈cm t old now):0<=m.2.2.2/\m.2.2.2<t.br/\m.2.2.2<8:=by obtain⟨h,s,hh,hs,_,rfl⟩:=xH.1 (K9.1 hm);have:=hN.lt hs hh;have:=hN.1.sC;have:=hN.1.len;simp only;omega
end
end Go.Proofs.YthcplpfiidlinaaDoor.J
