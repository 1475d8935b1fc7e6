/- What fits: rules, changes, messages, deeds. Conditions: as stated. -/
import Derived.Test.YtjjajcecekocdaaGreatRF
import Derived.Test.YtjjajcecekocdaaGreatFit
open Go.Ev Go
namespace Go.Proofs.YtjjajcecekocdaaGreat.A
theorem Et{x:ae}(h:rP y0 x):CU x/\(ae.iK x).l.length<9223372036854775808:=by
 refine⟨fun f hf=>?_,yr (t:=y2) (s:=ae.iK x) h.2.2⟩;have h1:∀v∈(aj.vH (ae.M x)).1,IntKind.i64.min<=v/\v<=IntKind.i64.max:=h.2.1.2.1;have h2:f<(aj.vH (ae.M x)).1.length:=by rw[(aj.vH (ae.M x)).2];exact hf
 have:=(h1 _ (gy h2)).2;have e:IntKind.i64.max=9223372036854775807:=by decide
 rw[e]at this;show gt (aj.vH (ae.M x)).1 f<9223372036854775808;exact Int.lt_of_le_of_lt this (by decide)
theorem Be{s:Sl ae}(h:rP (.sl y0) s):s.l.length<9223372036854775808/\∀x∈s.l,CU x:=⟨yr h,fun x hx=>(Et (h.2 x hx)).1⟩
theorem O6{m:ad}(h:rP y4 m):(ad.gi m).l.length<9223372036854775808/\∀x∈(ad.gi m).l,rX x:=by have h1:rP (.sl y3) (ad.gi m):=h.2.2.2.2.2.2.2.2.2;exact⟨yr h1,fun x hx=>by have h2:rP y3 x:=h1.2 x hx;exact Et h2.2.1⟩
theorem Bf{s:Sl aE}(h:rP (.sl Tc) s):s.l.length<9223372036854775808/\∀d∈s.l,DF d:=⟨yr h,fun d hd=>by have h1:rP Tc d:=h.2 d hd;obtain⟨k1,k2⟩:=O6 (m:=aE.M d) h1.2.2.2.1;exact⟨k1,k2⟩⟩
end Go.Proofs.YtjjajcecekocdaaGreat.A
