/- Findings: jc that are too close. Conditions: lengths as stated. -/
import Derived.Test.YthcplpfiidlinaaDoorJU
import Derived.Test.YthcplpfiidlinaaDoorJO
open Go.Ev Go
open Option renaming bind_some->af
namespace Go.Proofs.YthcplpfiidlinaaDoor.J
def oO(n:Int):Int:=if 1125899906842624<(if(-1125899906842624)>n then(-1125899906842624)else n)then 1125899906842624 else(if(-1125899906842624)>n then(-1125899906842624)else n)
theorem G8(n:Int):-1125899906842624<=oO n/\oO n<=1125899906842624:=by unfold oO;split<;>split<;>omega
theorem KP(n:Int):jp n=some (oO n):=rfl
def qs(gap:Int)(rd:List aj)(k:Nat):Bool:=decide (oO (gt rd k).2.1-oO (gt rd (k-1)).2.1<gap)
def sR(gap:Int)(rd:List aj)(k d:Nat):List aq:=(List.range' k d).flatMap fun(j:Nat)=>bif qs gap rd j then[(4,(j:Int),0)]else[]
theorem EQ{t:ah}{old now:Sl (Sl Int)}{mv:Sl ae}{rd:Sl aj}{a b c d gap:Int}(hb:rd.l.length<=1000):
  ∀(n i:Nat)(dX:Sl aq),i+n=rd.l.length->1<=i->dX.l.length+n<1000000000->∃out',bE (dT gap) ((i:Int),t,old,now,mv,rd,a,b,c,d,dX)=some (t,old,now,mv,rd,a,b,c,d,out')/\out'.l=dX.l++sR gap rd.l i n:=by
 intro n;induction n with
 |zero=>
  intro i dX hi h1 _;obtain rfl:i=rd.l.length:=by omega
  exact⟨dX,ct (by simp only[dT,kG,cond_false]),by simp[sR]⟩
 |succ n ih=>
  intro i dX hi h1 ho;have hil:i<rd.l.length:=by omega
  have hw:wr .i64 ((i:Int)-1)=((i-1:Nat):Int):=by rw[ir (by omega) (by omega)];omega
  have n1:=G8 (gt rd.l i).2.1;have n2:=G8 (gt rd.l (i-1)).2.1;have hd:wr .i64 (oO (aj.At (gt rd.l i))-oO (aj.At (gt rd.l (i-1))))=oO (gt rd.l i).2.1-oO (gt rd.l (i-1)).2.1:=ir (n:=oO (gt rd.l i).2.1-oO (gt rd.l (i-1)).2.1) (by omega) (by omega);have hlen:(pY dX (qs gap rd.l i) 4 (i:Int) 0).l.length<=dX.l.length+1:=by rw[rm];cases qs gap rd.l i<;>simp
  obtain⟨o',e1,e2⟩:=ih (i+1) (pY dX (qs gap rd.l i) 4 (i:Int) 0) (by omega) (by omega) (by omega);refine⟨o',(dh ?_).trans e1,?_⟩
  .have hc:decide (oO (gt rd.l i).2.1-oO (gt rd.l (i-1)).2.1<gap)=qs gap rd.l i:=rfl;simp only[dT,jo hil,cond_true,bA hil,af,KP,hw,bA (show i-1<rd.l.length by omega),hd,hc,og (show dX.l.length<2147483648 by omega),lp (show i<9223372036854775807 by omega)]
  .rw [e2,rm,List.append_assoc];congr 1
def sF(n:Int):Int:=if 1048576<(if 0>n then 0 else n)then 1048576 else(if 0>n then 0 else n)
theorem NZ(n:Int):0<=sF n/\sF n<=1048576:=by unfold sF;split<;>split<;>omega
theorem HL{t:ah}{old now:Sl (Sl Int)}{mv:Sl ae}{rd:Sl aj}{miss b c d:Int}{dX:Sl aq}(hV:lh t)(hb:rd.l.length<=1000)(ho:dX.l.length<100000000):
  ∃out',fT t old now mv rd miss b c d dX=some (t,old,now,mv,rd,miss,b,c,d,out')/\out'.l=dX.l++sR (2*sF miss+iF t+1) rd.l 1 (rd.l.length-1):=by
 obtain⟨m1,m2⟩:=NZ miss;have hg:=Hi hV m1 m2;have hg:nV t (if 1048576<(if 0>miss then 0 else miss)then 1048576 else(if 0>miss then 0 else miss))=_:=hg;by_cases h0:rd.l.length=0
 .refine ⟨dX,?_,by rw[h0];simp[sR]⟩;have e:bE (dT (2*sF miss+iF t+1)) (1,t,old,now,mv,rd,miss,b,c,d,dX)=some (t,old,now,mv,rd,miss,b,c,d,dX):=ct (by have hlt:decide ((1:Int)<(rd.l.length:Int))=false:=decide_eq_false (by omega);simp only[dT,hlt,cond_false]);simp only[fT,hg,af,e]
 .obtain ⟨o',e1,e2⟩:=EQ (t:=t) (old:=old) (now:=now) (mv:=mv) (a:=miss) (b:=b) (c:=c) (d:=d) (gap:=2*sF miss+iF t+1) hb (rd.l.length-1) 1 dX (by omega) (by omega) (by omega);have e1:bE (dT (2*sF miss+iF t+1)) (1,t,old,now,mv,rd,miss,b,c,d,dX)=_:=e1;exact⟨o',by simp only[fT,hg,af,e1],e2⟩
end Go.Proofs.YthcplpfiidlinaaDoor.J
