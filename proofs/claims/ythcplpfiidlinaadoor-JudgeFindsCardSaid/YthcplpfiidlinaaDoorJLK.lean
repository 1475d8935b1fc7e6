/- The moves between good routes, in order. Conditions: as stated. -/
import Derived.Test.YthcplpfiidlinaaDoorJLE
import Derived.Test.YthcplpfiidlinaaDoorJN
open Go.Ev Go
noncomputable section
namespace Go.Proofs.YthcplpfiidlinaaDoor.J
section
variable{t:ah}{old now:Sl (Sl Int)}
def ck(t:ah)(old now:Sl (Sl Int)):List ae:=(jH (Dv t old now).toArray).toList
theorem K6{m:ae}:m∈ck t old now<->m∈Dv t old now:=(uS _).mem_iff
theorem FJ(hN:gx t now):(ck t old now).length<=64:=by have hsm:=hN.1.su;have hho:=hN.1.rO;rw[ck,(uS _).length_eq];have:=ia (m:=8) (f:=Nb t old now) (fun h=>by have:=BM (t:=t) (old:=old) (now:=now) h;omega) (List.range t.bd.l.length);rw[List.length_range]at this;have e:(Dv t old now).length<=8*t.bd.l.length:=this;omega
theorem Dx(hN:gx t now){m:ae}(hm:m∈ck t old now):0<=m.2.2.2/\m.2.2.2<t.bq/\m.2.2.2<8:=by obtain⟨h,s,hh,hs,_,rfl⟩:=xA.1 (K6.1 hm);have:=hN.lt hs hh;have:=hN.1.su;have:=hN.1.len;simp only;omega
end
end Go.Proofs.YthcplpfiidlinaaDoor.J
