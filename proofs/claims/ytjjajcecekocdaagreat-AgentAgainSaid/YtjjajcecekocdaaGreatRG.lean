/- AgentAgain: a message that comes twice. Conditions: as stated. -/
import Derived.Test.YtjjajcecekocdaaGreatRT
import Derived.Test.YtjjajcecekocdaaGreatAg
open Go.Ev Go
namespace Go.Proofs.YtjjajcecekocdaaGreat.A
theorem abh(b:Ag)(m:ad):gE (gE b m).2 m=gE b m:=by
 by_cases hd:(bV b.fz (ad.Rd m)).isSome
 .have e:gE b m=(16,b):=by unfold gE;rw[if_pos hd]
  rw[e];exact e
 by_cases hD:Dn b (ad.Rd m)
 .have e:gE b m=(0,b):=by unfold gE;rw[if_neg hd,if_pos hD]
  rw[e];exact e
 cases hs:bV b.bm (ad.Rd m)with
 |some l=>
  have e:(gE b m).2=b:=by unfold gE;rw[if_neg hd,if_neg hD,hs]
  rw[e]
 |none=>
  by_cases he:(md b.bU b.aD (ad.gi m).l).2.2=0
  .have e:gE b m=(0,{b with bm:=gW b.bm (ad.Rd m) (ad.gi m)}):=by unfold gE;rw[if_neg hd,if_neg hD,hs];simp only;rw[if_pos he]
   rw[e];unfold gE;rw[if_neg hd,if_neg (show¬Dn {b with bm:=gW b.bm (ad.Rd m) (ad.gi m)} (ad.Rd m)from hD)];simp only;rw[lA,if_pos rfl];simp
  .have e:(gE b m).2=b:=by unfold gE;rw[if_neg hd,if_neg hD,hs];simp only;rw[if_neg he]
   rw[e]
theorem abn(b:Ag)(now:Int)(m:ad):x5 (x5 b now m).2 now m=x5 b now m:=by
 by_cases hd:(bV b.fz (ad.Rd m)).isSome
 .have e:x5 b now m=(16,b):=by unfold x5;rw[if_pos hd]
  rw[e];exact e
 by_cases hD:Dn b (ad.Rd m)
 .have e:x5 b now m=(0,b):=by unfold x5;rw[if_neg hd,if_pos hD]
  rw[e];exact e
 by_cases hs:bV b.bm (ad.Rd m)=none
 .have e:x5 b now m=(7,b):=by unfold x5;rw[if_neg hd,if_neg hD,if_pos hs]
  rw[e];exact e
 cases hv:bV b.cq (ad.Rd m)with
 |some v=>
  have e:(x5 b now m).2=b:=by unfold x5;rw[if_neg hd,if_neg hD,if_neg hs,hv]
  rw[e]
 |none=>
  by_cases hN:now>=ad.T2 m
  .have e:(x5 b now m).2=b:=by unfold x5;rw[if_neg hd,if_neg hD,if_neg hs,hv];simp only;rw[if_pos hN]
   rw[e]
  .have e:x5 b now m=(0,{b with cq:=gW b.cq (ad.Rd m) (ad.T2 m),fT:=(iP b.fT (ad.T2 m*8+ad.Rd m)).getD .nil}):=by unfold x5;rw[if_neg hd,if_neg hD,if_neg hs,hv];simp only;rw[if_neg hN]
   rw[e];unfold x5;rw[if_neg hd,if_neg (show¬Dn {b with cq:=gW b.cq (ad.Rd m) (ad.T2 m),fT:=(iP b.fT (ad.T2 m*8+ad.Rd m)).getD .nil} (ad.Rd m)from hD),if_neg hs];simp only;rw[lA,if_pos rfl];simp
end Go.Proofs.YtjjajcecekocdaaGreat.A
