/- Findings: jP that are too close. Conditions: lengths as stated. -/
import Derived.Test.YthcplpfiidlinaaDoorJU
import Derived.Test.YthcplpfiidlinaaDoorJO
open Go.Ev Go
open Option renaming bind_some->ae
namespace Go.Proofs.YthcplpfiidlinaaDoor.J
def j9(n:Int):Int:=if 1125899906842624<(if(-1125899906842624)>n then(-1125899906842624)else n)then 1125899906842624 else(if(-1125899906842624)>n then(-1125899906842624)else n)
theorem xY(n:Int):-1125899906842624<=j9 n/\j9 n<=1125899906842624:=by unfold j9;split<;>split<;>omega
theorem Kh(n:Int):jo n=some (j9 n):=rfl
def og(gap:Int)(rd:List aj)(k:Nat):Bool:=decide (j9 (gt rd k).2.1-j9 (gt rd (k-1)).2.1<gap)
def qj(gap:Int)(rd:List aj)(k d:Nat):List ak:=(List.range' k d).flatMap fun(j:Nat)=>bif og gap rd j then[(4,(j:Int),0)]else[]
theorem E0{t:af}{old now:Sl (Sl Int)}{mv:Sl ah}{rd:Sl aj}{a b c d gap:Int}(hb:rd.l.length<=1000):
  ∀(n i:Nat)(cF:Sl ak),i+n=rd.l.length->1<=i->cF.l.length+n<1000000000->∃out',bc (dT gap) ((i:Int),t,old,now,mv,rd,a,b,c,d,cF)=some (t,old,now,mv,rd,a,b,c,d,out')/\out'.l=cF.l++qj gap rd.l i n:=by
 intro n;induction n with
 |zero=>
  intro i cF hi h1 _;obtain rfl:i=rd.l.length:=by omega
  exact⟨cF,bC (by simp only[dT,gk,cond_false]),by simp[qj]⟩
 |succ n ih=>
  intro i cF hi h1 ho;have hil:i<rd.l.length:=by omega
  have hw:wr .i64 ((i:Int)-1)=((i-1:Nat):Int):=by rw[ku (by omega) (by omega)];omega
  have n1:=xY (gt rd.l i).2.1;have n2:=xY (gt rd.l (i-1)).2.1;have hd:wr .i64 (j9 (aj.At (gt rd.l i))-j9 (aj.At (gt rd.l (i-1))))=j9 (gt rd.l i).2.1-j9 (gt rd.l (i-1)).2.1:=ku (n:=j9 (gt rd.l i).2.1-j9 (gt rd.l (i-1)).2.1) (by omega) (by omega);have hlen:(lk cF (og gap rd.l i) 4 (i:Int) 0).l.length<=cF.l.length+1:=by rw[mB];cases og gap rd.l i<;>simp
  obtain⟨o',e1,e2⟩:=ih (i+1) (lk cF (og gap rd.l i) 4 (i:Int) 0) (by omega) (by omega) (by omega);refine⟨o',(bL ?_).trans e1,?_⟩
  .have hc:decide (j9 (gt rd.l i).2.1-j9 (gt rd.l (i-1)).2.1<gap)=og gap rd.l i:=rfl;simp only[dT,fz hil,cond_true,bm hil,ae,Kh,hw,bm (show i-1<rd.l.length by omega),hd,hc,oW (show cF.l.length<2147483648 by omega),gB (show i<9223372036854775807 by omega)]
  .rw [e2,mB,List.append_assoc];congr 1
def g_(n:Int):Int:=if 1048576<(if 0>n then 0 else n)then 1048576 else(if 0>n then 0 else n)
theorem G8(n:Int):0<=g_ n/\g_ n<=1048576:=by unfold g_;split<;>split<;>omega
theorem HG{t:af}{old now:Sl (Sl Int)}{mv:Sl ah}{rd:Sl aj}{miss b c d:Int}{cF:Sl ak}(hV:kS t)(hb:rd.l.length<=1000)(ho:cF.l.length<100000000):
  ∃out',fV t old now mv rd miss b c d cF=some (t,old,now,mv,rd,miss,b,c,d,out')/\out'.l=cF.l++qj (2*g_ miss+j_ t+1) rd.l 1 (rd.l.length-1):=by
 obtain⟨m1,m2⟩:=G8 miss;have hg:=M9 hV m1 m2;have hg:pZ t (if 1048576<(if 0>miss then 0 else miss)then 1048576 else(if 0>miss then 0 else miss))=_:=hg;by_cases h0:rd.l.length=0
 .refine ⟨cF,?_,by rw[h0];simp[qj]⟩;have e:bc (dT (2*g_ miss+j_ t+1)) (1,t,old,now,mv,rd,miss,b,c,d,cF)=some (t,old,now,mv,rd,miss,b,c,d,cF):=bC (by have hlt:decide ((1:Int)<(rd.l.length:Int))=false:=decide_eq_false (by omega);simp only[dT,hlt,cond_false]);simp only[fV,hg,ae,e]
 .obtain ⟨o',e1,e2⟩:=E0 (t:=t) (old:=old) (now:=now) (mv:=mv) (a:=miss) (b:=b) (c:=c) (d:=d) (gap:=2*g_ miss+j_ t+1) hb (rd.l.length-1) 1 cF (by omega) (by omega) (by omega);have e1:bc (dT (2*g_ miss+j_ t+1)) (1,t,old,now,mv,rd,miss,b,c,d,cF)=_:=e1;exact⟨o',by simp only[fV,hg,ae,e1],e2⟩
end Go.Proofs.YthcplpfiidlinaaDoor.J
