/- Findings: what the reference's Check notes. Conditions: lengths as stated. -/
import Derived.Test.YthcplpfiidlinaaDoorJC
open Go.Ev Go
namespace Go.Proofs.YthcplpfiidlinaaDoor.J
theorem Iq(s:Sl Int)(x:Int)(hb:s.l.length<1000000):vf s x=some (decide (x∈s.l)):=Jz s x hb
theorem Gp{p:aE}{k:Nat}{m:cn}(hk:k<(aE.bc p).l.length)(hb:(gt (aE.bc p).l k).2.2.l.length<1000000):
  qF p (k:Int) m=some (nH (gt (aE.bc p).l k) m):=by
 have h:=Iq (eK.MS (gt (aE.bc p).l k)) (cn.Sw m) hb;simp only[qF,bI hk,Option.bind_some,h,nH];have e:((eK.No (gt (aE.bc p).l k))==(cn.yt m))=(m.2.2.2==(gt (aE.bc p).l k).1):=BEq.comm;rw[e];cases(m.2.2.2==(gt (aE.bc p).l k).1)<;>rfl
section
variable{t:ah}{old now:Sl (Sl Int)}{p:aE}
end
end Go.Proofs.YthcplpfiidlinaaDoor.J
