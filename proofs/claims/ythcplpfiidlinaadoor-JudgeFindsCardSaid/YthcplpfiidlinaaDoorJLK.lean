/- The moves between good routes, in order. Conditions: as stated. -/
import Derived.Test.YthcplpfiidlinaaDoorJLE
import Derived.Test.YthcplpfiidlinaaDoorJN
open Go.Ev Go
noncomputable section
namespace Go.Proofs.YthcplpfiidlinaaDoor.J
section
variable{t:ah}{old now:Sl (Sl Int)}
def ck(t:ah)(old now:Sl (Sl Int)):List ae:=(jM (DI t old now).toArray).toList
theorem Ld{m:ae}:m∈ck t old now<->m∈DI t old now:=(u6 _).mem_iff
theorem FU(hN:gy t now):(ck t old now).length<=64:=by have hsm:=hN.1.sG;have hho:=hN.1.rX;rw[ck,(u6 _).length_eq];have:=gS (m:=8) (f:=Ni t old now) (fun h=>by have:=BV (t:=t) (old:=old) (now:=now) h;omega) (List.range t.bf.l.length);rw[List.length_range]at this;have e:(DI t old now).length<=8*t.bf.l.length:=this;omega
theorem DK(hN:gy t now){m:ae}(hm:m∈ck t old now):0<=m.2.2.2/\m.2.2.2<t.bq/\m.2.2.2<8:=by obtain⟨h,s,hh,hs,_,rfl⟩:=xK.1 (Ld.1 hm);have:=hN.lt hs hh;have:=hN.1.sG;have:=hN.1.len;simp only;omega
end
end Go.Proofs.YthcplpfiidlinaaDoor.J
