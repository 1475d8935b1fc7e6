/- AgentAgain: a message of an update, twice. Conditions: as stated. -/
import Derived.Test.YtjjajcecekocdaaGreatRI
open Option.some renaming inj->aa
open Go.Ev Go
namespace Go.Proofs.YtjjajcecekocdaaGreat.A
theorem P8{a:Ag}{u:Int}(h:a.u<=u):(a.lh u).u=u:=by
 unfold Ag.lh;split
 .rfl
 .omega
theorem abg{a:Ag}{u:Int}(h:a.u=u):a.lh u=a:=by unfold Ag.lh;rw[if_neg (by omega)]
theorem NT(a:Ag)(m:ad):(gE a m).2.u=a.u:=by unfold gE;split;rfl;split;rfl;split;rfl;split<;>rfl
theorem abG(a:Ag)(now:Int)(m:ad):(x5 a now m).2.u=a.u:=by unfold x5;split;rfl;split;rfl;split;rfl;split;rfl;split<;>rfl
theorem abv{a:Ag}{rd:Int}{L:List aZ}{e:Int}{a':Ag}(h:E4 a rd L e a'):a'.u=a.u:=by cases h with|all _ _ _ _ _ _ _ _ _ _ g5 _=>exact g5|no _ _ _ _=>rfl|RM _ _ _ _=>rfl|oA _ _=>rfl
theorem abr{a:Ag}(hI:AI a){now:Int}{m:ad}(hm:0<=ad.U m/\ad.U m<=65535){L L':List aZ}{e e':Int}{a1 a2:Ag}(h1:QI a now m L e a1)(h2:QI a1 now m L' e' a2):e'=e/\L'=[]/\Eq2 a1 a2:=by
 cases h1 with
 |old ho=>cases h2 with|old _=>exact⟨rfl,rfl,.abk _⟩|Qa h _=>omega|Zm h _=>omega|To h _ _=>omega|MV h _ _=>omega
 |Qa h hk=>have hu:(gE (a.lh (ad.U m)) m).2.u=ad.U m:=(NT _ _).trans (P8 h);cases h2 with|old ho=>omega|Qa _ _=>rw[abg hu,abh];exact⟨rfl,rfl,.abk _⟩|Zm _ k=>omega|To _ k _=>omega|MV _ k _=>omega
 |Zm h hk=>have hu:(x5 (a.lh (ad.U m)) now m).2.u=ad.U m:=(abG _ _ _).trans (P8 h);cases h2 with|old ho=>omega|Qa _ k=>omega|Zm _ _=>rw[abg hu,abn];exact⟨rfl,rfl,.abk _⟩|To _ k _=>omega|MV _ k _=>omega
 |To h hk hU=>have hu:=(abv hU).trans (P8 h);cases h2 with|old ho=>omega|Qa _ k=>omega|Zm _ k=>omega|To _ _ hU2=>rw[abg hu]at hU2;exact abm (hI.lh hm) hU hU2|MV _ k _=>omega
 |MV h hk he=>have hu:(a.lh (ad.U m)).u=ad.U m:=P8 h;cases h2 with|old ho=>omega|Qa _ k=>omega|Zm _ k=>omega|To _ k _=>omega|MV _ _ he2=>rw[abg hu]at he2|-;rw[he]at he2;have:=aa he2;exact⟨(congrArg (·.1) this).symm,rfl,.abk _⟩
theorem abq{a:Ag}(hI:AI a){now:Int}{m:ad}(hm:0<=ad.U m/\ad.U m<=65535){L:List aZ}{e:Int}{a1:Ag}(h1:QI a now m L e a1)(hs:∀k v,bV a.cq k=some v->now<v):∀k v,bV a1.cq k=some v->now<v:=by
 have hb:∀k v,bV (a.lh (ad.U m)).cq k=some v->now<v:=by
  unfold Ag.lh;split
  .exact fun k v hk=>by cases hk
  .exact hs
 have hB:=hI.lh hm
 have hdel:∀rd k v,bV (jF (a.lh (ad.U m)).cq rd) k=some v->now<v:=fun rd k v hk=>by
  rw[kx hB.A]at hk;split at hk
  .cases hk
  .exact hb k v hk
 cases h1 with
 |old _=>exact hs
 |Qa _ _=>
  have e:(gE (a.lh (ad.U m)) m).2.cq=(a.lh (ad.U m)).cq:=by unfold gE;split;rfl;split;rfl;split;rfl;split<;>rfl
  rw[e];exact hb
 |Zm _ _=>
  unfold x5;split
  .exact hb
  split
  .exact hb
  split
  .exact hb
  split
  .exact hb
  split
  .exact hb
  .rename_i hN;intro k v hk;have hk:bV (gW (a.lh (ad.U m)).cq (ad.Rd m) (ad.T2 m)) k=some v:=hk;rw[lA]at hk;split at hk
   .obtain rfl:=aa hk;omega
   .exact hb k v hk
 |To _ _ hU=>cases hU with|all _ _ _ _ ha _ _ _ _ _ _ _=>rw[ha];exact fun k v hk=>by cases hk|no _ _ _ _=>exact hb|RM _ _ _ _=>exact hdel _|oA _ _=>exact hdel _
 |MV _ _ _=>exact hb
end Go.Proofs.YtjjajcecekocdaaGreat.A
