/- Findings: jj that are too close. Conditions: lengths as stated. -/
import Derived.Test.YthcplpfiidlinaaDoorJU
import Derived.Test.YthcplpfiidlinaaDoorJO
open Go.Ev Go
open Option renaming bind_some->af
namespace Go.Proofs.YthcplpfiidlinaaDoor.J
def mB(n:Int):Int:=if 1125899906842624<(if(-1125899906842624)>n then(-1125899906842624)else n)then 1125899906842624 else(if(-1125899906842624)>n then(-1125899906842624)else n)
theorem Hf(n:Int):-1125899906842624<=mB n/\mB n<=1125899906842624:=by unfold mB;split<;>split<;>omega
theorem K4(n:Int):ju n=some (mB n):=rfl
def oL(gap:Int)(rd:List aj)(k:Nat):Bool:=decide (mB (gt rd k).2.1-mB (gt rd (k-1)).2.1<gap)
def sR(gap:Int)(rd:List aj)(k d:Nat):List am:=(List.range' k d).flatMap fun(j:Nat)=>bif oL gap rd j then[(4,(j:Int),0)]else[]
theorem ET{t:ah}{old now:Sl (Sl Int)}{mv:Sl ae}{rd:Sl aj}{a b c d gap:Int}(hb:rd.l.length<=1000):
  ∀(n i:Nat)(dV:Sl am),i+n=rd.l.length->1<=i->dV.l.length+n<1000000000->∃out',bD (dQ gap) ((i:Int),t,old,now,mv,rd,a,b,c,d,dV)=some (t,old,now,mv,rd,a,b,c,d,out')/\out'.l=dV.l++sR gap rd.l i n:=by
 intro n;induction n with
 |zero=>
  intro i dV hi h1 _;obtain rfl:i=rd.l.length:=by omega
  exact⟨dV,cA (by simp only[dQ,kH,cond_false]),by simp[sR]⟩
 |succ n ih=>
  intro i dV hi h1 ho;have hil:i<rd.l.length:=by omega
  have hw:wr .i64 ((i:Int)-1)=((i-1:Nat):Int):=by rw[ie (by omega) (by omega)];omega
  have n1:=Hf (gt rd.l i).2.1;have n2:=Hf (gt rd.l (i-1)).2.1;have hd:wr .i64 (mB (aj.At (gt rd.l i))-mB (aj.At (gt rd.l (i-1))))=mB (gt rd.l i).2.1-mB (gt rd.l (i-1)).2.1:=ie (n:=mB (gt rd.l i).2.1-mB (gt rd.l (i-1)).2.1) (by omega) (by omega);have hlen:(p8 dV (oL gap rd.l i) 4 (i:Int) 0).l.length<=dV.l.length+1:=by rw[rm];cases oL gap rd.l i<;>simp
  obtain⟨o',e1,e2⟩:=ih (i+1) (p8 dV (oL gap rd.l i) 4 (i:Int) 0) (by omega) (by omega) (by omega);refine⟨o',(dl ?_).trans e1,?_⟩
  .have hc:decide (mB (gt rd.l i).2.1-mB (gt rd.l (i-1)).2.1<gap)=oL gap rd.l i:=rfl;simp only[dQ,js hil,cond_true,bp hil,af,K4,hw,bp (show i-1<rd.l.length by omega),hd,hc,ot (show dV.l.length<2147483648 by omega),kY (show i<9223372036854775807 by omega)]
  .rw [e2,rm,List.append_assoc];congr 1
def sG(n:Int):Int:=if 1048576<(if 0>n then 0 else n)then 1048576 else(if 0>n then 0 else n)
theorem N7(n:Int):0<=sG n/\sG n<=1048576:=by unfold sG;split<;>split<;>omega
theorem HY{t:ah}{old now:Sl (Sl Int)}{mv:Sl ae}{rd:Sl aj}{miss b c d:Int}{dV:Sl am}(hV:lk t)(hb:rd.l.length<=1000)(ho:dV.l.length<100000000):
  ∃out',fY t old now mv rd miss b c d dV=some (t,old,now,mv,rd,miss,b,c,d,out')/\out'.l=dV.l++sR (2*sG miss+iU t+1) rd.l 1 (rd.l.length-1):=by
 obtain⟨m1,m2⟩:=N7 miss;have hg:=Hs hV m1 m2;have hg:od t (if 1048576<(if 0>miss then 0 else miss)then 1048576 else(if 0>miss then 0 else miss))=_:=hg;by_cases h0:rd.l.length=0
 .refine ⟨dV,?_,by rw[h0];simp[sR]⟩;have e:bD (dQ (2*sG miss+iU t+1)) (1,t,old,now,mv,rd,miss,b,c,d,dV)=some (t,old,now,mv,rd,miss,b,c,d,dV):=cA (by have hlt:decide ((1:Int)<(rd.l.length:Int))=false:=decide_eq_false (by omega);simp only[dQ,hlt,cond_false]);simp only[fY,hg,af,e]
 .obtain ⟨o',e1,e2⟩:=ET (t:=t) (old:=old) (now:=now) (mv:=mv) (a:=miss) (b:=b) (c:=c) (d:=d) (gap:=2*sG miss+iU t+1) hb (rd.l.length-1) 1 dV (by omega) (by omega) (by omega);have e1:bD (dQ (2*sG miss+iU t+1)) (1,t,old,now,mv,rd,miss,b,c,d,dV)=_:=e1;exact⟨o',by simp only[fY,hg,af,e1],e2⟩
end Go.Proofs.YthcplpfiidlinaaDoor.J
