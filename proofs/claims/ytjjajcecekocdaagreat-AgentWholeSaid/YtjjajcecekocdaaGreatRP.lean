/- Messages: when they may be; sameness. Conditions: lengths of what came in. -/
import Derived.Test.YtjjajcecekocdaaGreatRA
open Bool renaming or_eq_false_iff->jT
open Option renaming bind_some->ah
open Go.Ev Go
namespace Go.Proofs.YtjjajcecekocdaaGreat.A
theorem Dl(a b:ai)(hn:ML a):pS a b=some (tt (qJ a=qJ b)):=N1 a b hn
theorem I6(a b:Sl ai)(hn:a.l.length<9223372036854775808)(ha:∀m∈a.l,ML m):
  bR a b=some (tt (a.l.map qJ=b.l.map qJ)):=by
 unfold bR;by_cases e:a.l.length=b.l.length
 case neg=>rw[show((a.l.length:Int) !=(b.l.length:Int))=true by simp;omega,cond_true,eI fun h=>e (Gb h).1]
 rw[show((a.l.length:Int) !=(b.l.length:Int))=false by rw[e];simp,cond_false]
 have hc:(∀i,i<a.l.length->qJ (gt a.l i)=qJ (gt b.l i))<->a.l.map qJ=b.l.map qJ:=by
  refine⟨fun h=>?_,fun h=>(Gb h).2⟩;apply List.ext_getElem (by simpa using e);intro i h1 h2;have h1:i<a.l.length:=by simpa using h1
  have:=h i h1;rw[gX h1,gX (by omega)]at this;simpa using this
 rw[x9 (f:=bO a b) a.l.length hn (fun i=>qJ (gt a.l i)=qJ (gt b.l i)) () (fun i hi=>?_) (by simp only[bO];rw[decide_eq_false (by omega),cond_false]),cJ hc]
 .cases tt (a.l.map qJ=b.l.map qJ)<;>rfl
 .simp only[bO];rw[decide_eq_true (by omega),cond_true,cB hi,cB (show i<b.l.length by omega)];simp only[ah];rw[Dl _ _ (ha _ (gy hi))];cases tt (qJ (gt a.l i)=qJ (gt b.l i))<;>rfl
def Np(a b:ad):Prop:=
 (((((((((ad.bh a=ad.bh b/\ad.Sw a=ad.Sw b)/\ad.U a=ad.U b)/\ad.Rd a=ad.Rd b)/\ad.T1 a=ad.T1 b)/\ad.T2 a=ad.T2 b)/\ad.CV a=ad.CV b)/\ad.Of a=ad.Of b)/\ad.Code a=ad.Code b)/\
  (ad.gi a).l.map qJ=(ad.gi b).l.map qJ)
theorem SO(a b:Int):(a==b)=tt (a=b):=by by_cases h:a=b<;>simp[tt,h]
theorem Hh(a b:ad)(hn:(ad.gi a).l.length<9223372036854775808)(ha:∀m∈(ad.gi a).l,ML m):pT a b=some (tt (Np a b)):=by
 unfold pT Np;simp only[SO,ol];rw[I6 _ _ hn ha];generalize((((((((ad.bh a=ad.bh b/\ad.Sw a=ad.Sw b)/\ad.U a=ad.U b)/\ad.Rd a=ad.Rd b)/\ad.T1 a=ad.T1 b)/\ad.T2 a=ad.T2 b)/\ad.CV a=ad.CV b)/\ad.Of a=ad.Of b)/\ad.Code a=ad.Code b)=p;by_cases h:p
 .rw [iC h,cond_true];simp only[ah,cJ (show(p/\(ad.gi a).l.map qJ=(ad.gi b).l.map qJ)<->(ad.gi a).l.map qJ=(ad.gi b).l.map qJ from⟨fun h=>h.2,fun h2=>⟨h,h2⟩⟩)]
 .rw [eI h,cond_false,eI fun h2=>h h2.1];rfl
theorem B7(a b:Sl ai)(hn:a.l.length<9223372036854775808)(ha:∀m∈a.l,ML m):sQ a b=some (tt (a.l.map qJ=b.l.map qJ)):=by unfold sQ;rw[Hh _ _ hn ha];simp only[ah];exact congrArg some (cJ ⟨fun h=>h.2,fun h=>⟨⟨⟨⟨⟨⟨⟨⟨⟨rfl,rfl⟩,rfl⟩,rfl⟩,rfl⟩,rfl⟩,rfl⟩,rfl⟩,rfl⟩,h⟩⟩)
theorem L4(n a b:Int):kY n a b=some (tt (a<=n/\n<=b)):=by unfold kY;rw[fK,fK,ol]
theorem ER(m:ai)(hf:rX m):∃b,lU m=some b:=by unfold lU;rw[L4];simp only[ah];cases tt (1<=ai.bh m/\ai.bh m<=5)with|false=>exact⟨_,rfl⟩|true=>rw[cond_true,vo _ _ hf.1];exact⟨_,rfl⟩
theorem Ff(s:Sl ai)(hn:s.l.length<9223372036854775808)(hf:∀m∈s.l,rX m):∃b,cT s=some b:=by
 unfold cT eE;rw[Cg (l:=s.l) (f:=cQ s) hn (fun m=>!(lU m).getD false) () (fun i hi=>?_) (by simp only[cQ];rw[decide_eq_false (by omega),cond_false])]
 .cases s.l.findIdx? (fun m=>!(lU m).getD false)<;>exact⟨_,rfl⟩
 .simp only[cQ];rw[decide_eq_true (by omega),cond_true,cB hi];simp only[ah,rh];obtain⟨b,hb⟩:=ER _ (hf _ (gy hi));rw[hb];cases b<;>rfl
structure RP(m:ad):Prop where
 t2:-1125899906842624<=ad.T2 m/\ad.T2 m<=1125899906842624
 u:3<=ad.bh m->1<=ad.U m/\ad.U m<=65535
 rd:ad.bh m=3\/ad.bh m=4->0<=ad.Rd m/\ad.Rd m<=7
 Zx:ad.bh m=5->-1<=ad.Rd m/\ad.Rd m<=7
 n:(ad.gi m).l.length<=16
 k:1<=ad.bh m/\ad.bh m<=8
theorem CH{c:Bool}{Y:Option Bool}{P:Prop}(h:c=false->∃b,Y=some b/\(b=true->P)):∃b,(bif c then some false else Y)=some b/\(b=true->P):=by cases c with|true=>exact⟨false,rfl,fun e=>by cases e⟩|false=>exact h rfl
theorem Re{p:Bool}{X:Option Bool}{x:Bool}(h:X=some x):(bif(!p)then some true else X)=some (!p||x):=by
 cases p
 .rfl
 .exact h
theorem Y_{p:Bool}{X:Option Bool}{x:Bool}(h:X=some x):(bif p then some p else X)=some (p||x):=by
 cases p
 .exact h
 .rfl
theorem oP(m:ad)(h:Int)(bu br bo:Bool)(r:ad)(e1:rC (ad.bh m)=some h)(h0:(h==0)=false)(e2:mW m=some r)(eu:(oe .i64 h 8 !=0)=bu)(er:(oe .i64 h 16 !=0)=br)(eo:(oe .i64 h 32 !=0)=bo)
  (hr:(ad.gi r).l.length<9223372036854775808/\∀x∈(ad.gi r).l,ML x) (hm:(ad.gi m).l.length<9223372036854775808) (hf:∀x∈(ad.gi m).l,rX x) (lo:Int)
  (hlo:(bif((((ad.bh m)==5)||((ad.bh m)==7))||((ad.bh m)==8))then(some (-1))else(some 0):Option Int)=some lo) (P:Prop)
  (hP:(-1125899906842624<=ad.T2 m/\ad.T2 m<=1125899906842624)->(bu=true->1<=ad.U m/\ad.U m<=65535)->(br=true->lo<=ad.Rd m/\ad.Rd m<=7)->(ad.gi m).l.length<=16->P):
  ∃b,jD m=some b/\(b=true->P):=by
 unfold jD;rw[e1];simp only[ah];rw[h0,cond_false,L4,e2];simp only[ah];rw[Hh r m hr.1 hr.2];simp only[ah];rw[Re (x:=!tt (Np r m)) rfl];simp only[ah];refine CH fun _=>?_;rw[hlo];simp only[ah,L4];rw[Re (Re (x:=!tt (0<=ad.CV m/\ad.CV m<=65535)) rfl)];simp only[ah];refine CH fun h2=>?_;have ht2:-1125899906842624<=ad.T2 m/\ad.T2 m<=1125899906842624:=by simp only[jT,Bool.not_eq_false']at h2;exact lR.1 h2.2.1
 rw[eu,er,eo];have k1:∀(b:Bool)(q:Prop),(bif b then some (!tt q)else some false:Option Bool)=some (b&&!tt q):=fun b q=>by cases b<;>rfl
 rw[k1,k1,k1];simp only[ah];rw[Y_ (Y_ (x:=bo&&!tt (3<=ad.Of m/\ad.Of m<=6)) rfl)];simp only[ah];refine CH fun h3=>?_;simp only[jT]at h3;have hu:bu=true->1<=ad.U m/\ad.U m<=65535:=fun e=>by have:=h3.1;rw[e]at this;simpa[lR]using this
 have hrd:br=true->lo<=ad.Rd m/\ad.Rd m<=7:=fun e=>by have:=h3.2.1;rw[e]at this;simpa[lR]using this
 refine CH fun h4=>?_;have h16:(ad.gi m).l.length<=16:=by simp only[jT,decide_eq_false_iff_not]at h4;omega
 obtain⟨b,hb⟩:=Ff (ad.gi m) hm hf;rw[hb];exact⟨_,rfl,fun _=>hP ht2 hu hrd h16⟩
theorem KR(m:ad)(hm:(ad.gi m).l.length<9223372036854775808)(hf:∀x∈(ad.gi m).l,rX x):∃b,jD m=some b/\(b=true->RP m):=by
 have hml:∀x∈(ad.gi m).l,ML x:=fun x hx=>(hf x hx).2;obtain⟨kind,sw,u,rd,t1,t2,cz,of_,code,s⟩:=m;have nil0:(Sl.nil:Sl ai).l.length<9223372036854775808/\∀x∈(Sl.nil:Sl ai).l,ML x:=⟨by decide,fun x hx=>by simp[Sl.l]at hx⟩
 have zero:∀k:Int,rC k=some 0->∃b,jD (k,sw,u,rd,t1,t2,cz,of_,code,s)=some b/\(b=true->RP (k,sw,u,rd,t1,t2,cz,of_,code,s)):=fun k hk=>by unfold jD;rw[show rC (ad.bh (k,sw,u,rd,t1,t2,cz,of_,code,s))=some 0 from hk];exact⟨false,rfl,fun e=>by cases e⟩
 rcases zC kind with rfl|rfl|rfl|rfl|rfl|rfl|rfl|rfl|rfl|⟨n,rfl⟩|⟨n,rfl⟩
 .exact oP _ 1 false false false _ rfl rfl rfl (by rw[fU];decide) (by rw[fU];decide) (by rw[fU];decide) nil0 hm hf 0 rfl _ fun h1 h2 h3 h4=>⟨h1,fun h=>absurd h (by show¬(3:Int)<=1;decide),fun h=>absurd h (by show¬((1:Int)=3\/(1:Int)=4);decide),fun h=>absurd h (by show¬(1:Int)=5;decide),h4,by show(1:Int)<=1/\(1:Int)<=8;decide⟩
 .exact oP _ 7 false false false _ rfl rfl rfl (by rw[fU];decide) (by rw[fU];decide) (by rw[fU];decide) nil0 hm hf 0 rfl _ fun h1 h2 h3 h4=>⟨h1,fun h=>absurd h (by show¬(3:Int)<=2;decide),fun h=>absurd h (by show¬((2:Int)=3\/(2:Int)=4);decide),fun h=>absurd h (by show¬(2:Int)=5;decide),h4,by show(1:Int)<=2/\(2:Int)<=8;decide⟩
 .exact oP _ 152 true true false (3,sw,u,rd,0,0,0,0,0,s) rfl rfl rfl (by rw[fU];decide) (by rw[fU];decide) (by rw[fU];decide) ⟨hm,hml⟩ hm hf 0 rfl _ fun h1 h2 h3 h4=>⟨h1,fun _=>h2 rfl,fun _=>h3 rfl,fun h=>absurd h (by show¬(3:Int)=5;decide),h4,by show(1:Int)<=3/\(3:Int)<=8;decide⟩
 .exact oP _ 26 true true false _ rfl rfl rfl (by rw[fU];decide) (by rw[fU];decide) (by rw[fU];decide) nil0 hm hf 0 rfl _ fun h1 h2 h3 h4=>⟨h1,fun _=>h2 rfl,fun _=>h3 rfl,fun h=>absurd h (by show¬(4:Int)=5;decide),h4,by show(1:Int)<=4/\(4:Int)<=8;decide⟩
 .exact oP _ 24 true true false _ rfl rfl rfl (by rw[fU];decide) (by rw[fU];decide) (by rw[fU];decide) nil0 hm hf (-1) rfl _ fun h1 h2 h3 h4=>⟨h1,fun _=>h2 rfl,fun h=>absurd h (by show¬((5:Int)=3\/(5:Int)=4);decide),fun _=>h3 rfl,h4,by show(1:Int)<=5/\(5:Int)<=8;decide⟩
 .exact oP _ 72 true false false _ rfl rfl rfl (by rw[fU];decide) (by rw[fU];decide) (by rw[fU];decide) nil0 hm hf 0 rfl _ fun h1 h2 h3 h4=>⟨h1,fun _=>h2 rfl,fun h=>absurd h (by show¬((6:Int)=3\/(6:Int)=4);decide),fun h=>absurd h (by show¬(6:Int)=5;decide),h4,by show(1:Int)<=6/\(6:Int)<=8;decide⟩
 .exact oP _ 60 true true true _ rfl rfl rfl (by rw[fU];decide) (by rw[fU];decide) (by rw[fU];decide) nil0 hm hf (-1) rfl _ fun h1 h2 h3 h4=>⟨h1,fun _=>h2 rfl,fun h=>absurd h (by show¬((7:Int)=3\/(7:Int)=4);decide),fun h=>absurd h (by show¬(7:Int)=5;decide),h4,by show(1:Int)<=7/\(7:Int)<=8;decide⟩
 .exact oP _ 124 true true true _ rfl rfl rfl (by rw[fU];decide) (by rw[fU];decide) (by rw[fU];decide) nil0 hm hf (-1) rfl _ fun h1 h2 h3 h4=>⟨h1,fun _=>h2 rfl,fun h=>absurd h (by show¬((8:Int)=3\/(8:Int)=4);decide),fun h=>absurd h (by show¬(8:Int)=5;decide),h4,by show(1:Int)<=8/\(8:Int)<=8;decide⟩
 .exact zero 0 rfl
 .exact zero _ rfl
 .exact zero _ rfl
end Go.Proofs.YtjjajcecekocdaaGreat.A
