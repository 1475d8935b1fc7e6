/- The moves between good routes, in order. Conditions: as stated. -/
import Derived.Test.YthcplpfiidlinaaDoorJLE
import Derived.Test.YthcplpfiidlinaaDoorJN
open Go.Ev Go
noncomputable section
namespace Go.Proofs.YthcplpfiidlinaaDoor.J
section
variable{t:ah}{old now:Sl (Sl Int)}
def g_(t:ah)(old now:Sl (Sl Int)):List ae:=(jH (Dv t old now).toArray).toList
theorem KS{m:ae}:m∈g_ t old now<->m∈Dv t old now:=(uT _).mem_iff
theorem FE(hN:gk t now):(g_ t old now).length<=64:=by have hsm:=hN.1.sv;have hho:=hN.1.rO;rw[g_,(uT _).length_eq];have:=gK (m:=8) (f:=M0 t old now) (fun h=>by have:=BJ (t:=t) (old:=old) (now:=now) h;omega) (List.range t.bf.l.length);rw[List.length_range]at this;have e:(Dv t old now).length<=8*t.bf.l.length:=this;omega
theorem Dx(hN:gk t now){m:ae}(hm:m∈g_ t old now):0<=m.2.2.2/\m.2.2.2<t.bo/\m.2.2.2<8:=by obtain⟨h,s,hh,hs,_,rfl⟩:=xB.1 (KS.1 hm);have:=hN.lt hs hh;have:=hN.1.sv;have:=hN.1.len;simp only;omega
end
end Go.Proofs.YthcplpfiidlinaaDoor.J
