/- Findings: rounds that are too close. Conditions: lengths as stated. -/
import Derived.Test.YthcplpfiidlinaaDoorJU
import Derived.Test.YthcplpfiidlinaaDoorJO
open Option renaming bind_some->af
open Go.Ev Go
namespace Go.Proofs.YthcplpfiidlinaaDoor.J
def mM(n:Int):Int:=if 1125899906842624<(if(-1125899906842624)>n then(-1125899906842624)else n)then 1125899906842624 else(if(-1125899906842624)>n then(-1125899906842624)else n)
theorem Hv(n:Int):-1125899906842624<=mM n/\mM n<=1125899906842624:=by unfold mM;split<;>split<;>omega
theorem Lg(n:Int):jx n=some (mM n):=rfl
def oc(gap:Int)(rd:List aj)(k:Nat):Bool:=decide (mM (gt rd k).2.1-mM (gt rd (k-1)).2.1<gap)
def rS(gap:Int)(rd:List aj)(k d:Nat):List am:=(List.range' k d).flatMap fun(j:Nat)=>bif oc gap rd j then[(4,(j:Int),0)]else[]
theorem Fc{t:ah}{old now:Sl (Sl Int)}{mv:Sl ae}{rd:Sl aj}{a b c d gap:Int}(hb:rd.l.length<=1000):
  ∀(n i:Nat)(eg:Sl am),i+n=rd.l.length->1<=i->eg.l.length+n<1000000000->∃out',bE (dZ gap) ((i:Int),t,old,now,mv,rd,a,b,c,d,eg)=some (t,old,now,mv,rd,a,b,c,d,out')/\out'.l=eg.l++rS gap rd.l i n:=by
 intro n;induction n with
 |zero=>
  intro i eg hi h1 _;obtain rfl:i=rd.l.length:=by omega
  exact⟨eg,cB (by simp only[dZ,kO,cond_false]),by simp[rS]⟩
 |succ n ih=>
  intro i eg hi h1 ho;have hil:i<rd.l.length:=by omega
  have hw:wr .i64 ((i:Int)-1)=((i-1:Nat):Int):=by rw[ii (by omega) (by omega)];omega
  have n1:=Hv (gt rd.l i).2.1;have n2:=Hv (gt rd.l (i-1)).2.1;have hd:wr .i64 (mM (aj.At (gt rd.l i))-mM (aj.At (gt rd.l (i-1))))=mM (gt rd.l i).2.1-mM (gt rd.l (i-1)).2.1:=ii (n:=mM (gt rd.l i).2.1-mM (gt rd.l (i-1)).2.1) (by omega) (by omega);have hlen:(qh eg (oc gap rd.l i) 4 (i:Int) 0).l.length<=eg.l.length+1:=by rw[rE];cases oc gap rd.l i<;>simp
  obtain⟨o',e1,e2⟩:=ih (i+1) (qh eg (oc gap rd.l i) 4 (i:Int) 0) (by omega) (by omega) (by omega);refine⟨o',(dm ?_).trans e1,?_⟩
  .have hc:decide (mM (gt rd.l i).2.1-mM (gt rd.l (i-1)).2.1<gap)=oc gap rd.l i:=rfl;simp only[dZ,jw hil,cond_true,bq hil,af,Lg,hw,bq (show i-1<rd.l.length by omega),hd,hc,oG (show eg.l.length<2147483648 by omega),k_ (show i<9223372036854775807 by omega)]
  .rw [e2,rE,List.append_assoc];congr 1
def sU(n:Int):Int:=if 1048576<(if 0>n then 0 else n)then 1048576 else(if 0>n then 0 else n)
theorem Oo(n:Int):0<=sU n/\sU n<=1048576:=by unfold sU;split<;>split<;>omega
theorem Ih{t:ah}{old now:Sl (Sl Int)}{mv:Sl ae}{rd:Sl aj}{miss b c d:Int}{eg:Sl am}(hV:lw t)(hb:rd.l.length<=1000)(ho:eg.l.length<100000000):
  ∃out',ga t old now mv rd miss b c d eg=some (t,old,now,mv,rd,miss,b,c,d,out')/\out'.l=eg.l++rS (2*sU miss+iA t+1) rd.l 1 (rd.l.length-1):=by
 obtain⟨m1,m2⟩:=Oo miss;have hg:=HJ hV m1 m2;have hg:ow t (if 1048576<(if 0>miss then 0 else miss)then 1048576 else(if 0>miss then 0 else miss))=_:=hg;by_cases h0:rd.l.length=0
 .refine ⟨eg,?_,by rw[h0];simp[rS]⟩;have e:bE (dZ (2*sU miss+iA t+1)) (1,t,old,now,mv,rd,miss,b,c,d,eg)=some (t,old,now,mv,rd,miss,b,c,d,eg):=cB (by have hlt:decide ((1:Int)<(rd.l.length:Int))=false:=decide_eq_false (by omega);simp only[dZ,hlt,cond_false]);simp only[ga,hg,af,e]
 .obtain ⟨o',e1,e2⟩:=Fc (t:=t) (old:=old) (now:=now) (mv:=mv) (a:=miss) (b:=b) (c:=c) (d:=d) (gap:=2*sU miss+iA t+1) hb (rd.l.length-1) 1 eg (by omega) (by omega) (by omega);have e1:bE (dZ (2*sU miss+iA t+1)) (1,t,old,now,mv,rd,miss,b,c,d,eg)=_:=e1;exact⟨o',by simp only[ga,hg,af,e1],e2⟩
end Go.Proofs.YthcplpfiidlinaaDoor.J
