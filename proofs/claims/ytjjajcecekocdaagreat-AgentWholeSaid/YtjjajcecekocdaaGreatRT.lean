/- AgentTimes: no round is done ahead of its time, or when it is dead. Conditions: as stated. -/
import Derived.Test.YtjjajcecekocdaaGreatRF
open Go.Ev Go
namespace Go.Proofs.YtjjajcecekocdaaGreat.A
theorem Mv{now:Int}{a a':Ag}{L:List aZ}(h:wy now a L a'):∀k v,bV a'.cq k=some v->now<v:=by induction h with|It h=>exact h|Jw _ _ _ _ _ ih=>exact ih|AE _ _ _ _ _ _ ih=>exact ih
theorem Bm{now:Int}{a a':Ag}{L:List aZ}(hs:∀k v,bV a.cq k=some v->now<v)(h:wy now a L a'):L=[]/\a'=a:=by cases h with|It _=>exact⟨rfl,rfl⟩|Jw h1 h2 _ _ _=>have:=hs _ _ h1;omega|AE h1 h2 _ _ _ _=>have:=hs _ _ h1;omega
theorem EF{now:Int}{a a':Ag}{L:List aZ}(h:wy now a L a'):a'.sw=a.sw/\a'.aD=a.aD/\a'.up=a.up/\a'.cz=a.cz/\a'.u=a.u/\a'.fz=a.fz:=by induction h with|It h=>exact⟨rfl,rfl,rfl,rfl,rfl,rfl⟩|Jw _ _ _ _ _ ih=>exact ih|AE _ _ _ _ _ _ ih=>exact ih
structure Tk(a:Ag)(ar:List Bool)(xM:List Int)(de:List Bool):Prop where
 l1:ar.length=8
 l2:xM.length=8
 l3:de.length=8
 t:∀k v,bV a.cq k=some v->gt ar k.toNat=true/\gt xM k.toNat=v
 d:∀k:Nat,k<8->gt de k=true->(bV a.fz (k:Int)).isSome
structure Rc(a':Ag)(m x:ad)(ok:Bool)(ar:List Bool)(xM:List Int)(de:List Bool):Prop where
 no:¬(ok=true/\ad.bh x=7/\ad.Rd x<=7)->Tk a' ar xM de
 ZH:(ok=true/\ad.bh x=7/\ad.Rd x<=7)->∀(ar2:List Bool)(at2:List Int),((ad.Of x=4/\0<=ad.Rd x/\ad.Rd x∈mj a'.cq)->ar2=ar.set (ad.Rd x).toNat true/\at2=xM.set (ad.Rd x).toNat (ad.T2 m))->
  (¬(ad.Of x=4/\0<=ad.Rd x/\ad.Rd x∈mj a'.cq)->ar2=ar/\at2=xM)->∀de2:List Bool,de2.length=8->(ad.Of x≠5->de2=de)->(ad.Of x=5->∀i:Nat,i<8->gt de2 i=true->gt de i=true\/ad.Rd x=-1\/ad.Rd x=i)->Tk a' ar2 at2 de2
theorem E3(a':Ag)(m:ad)(e:Int):ad.bh (Ad a' m e)=(if e=0 then 7 else 8):=by unfold Ad;split<;>rfl
theorem CO(a':Ag)(m:ad)(e:Int):ad.Of (Ad a' m e)=ad.bh m:=by unfold Ad;split<;>rfl
theorem Nj(a':Ag)(m:ad)(e:Int):ad.Rd (Ad a' m e)=ad.Rd m:=by unfold Ad;split<;>rfl
theorem HV{α:Type}[Inhabited α]{l:List α}{k j:Nat}{x:α}(hk:k<l.length):gt (l.set k x) j=if k=j then x else gt l j:=sG hk
end Go.Proofs.YtjjajcecekocdaaGreat.A
