/- Findings: jk that are too close. Conditions: lengths as stated. -/
import Derived.Test.YthcplpfiidlinaaDoorJU
import Derived.Test.YthcplpfiidlinaaDoorJO
open Go.Ev Go
open Option renaming bind_some->af
namespace Go.Proofs.YthcplpfiidlinaaDoor.J
def mG(n:Int):Int:=if 1125899906842624<(if(-1125899906842624)>n then(-1125899906842624)else n)then 1125899906842624 else(if(-1125899906842624)>n then(-1125899906842624)else n)
theorem Hj(n:Int):-1125899906842624<=mG n/\mG n<=1125899906842624:=by unfold mG;split<;>split<;>omega
theorem K7(n:Int):ju n=some (mG n):=rfl
def nY(gap:Int)(rd:List aj)(k:Nat):Bool:=decide (mG (gt rd k).2.1-mG (gt rd (k-1)).2.1<gap)
def rJ(gap:Int)(rd:List aj)(k d:Nat):List am:=(List.range' k d).flatMap fun(j:Nat)=>bif nY gap rd j then[(4,(j:Int),0)]else[]
theorem EY{t:ah}{old now:Sl (Sl Int)}{mv:Sl ae}{rd:Sl aj}{a b c d gap:Int}(hb:rd.l.length<=1000):
  ∀(n i:Nat)(dY:Sl am),i+n=rd.l.length->1<=i->dY.l.length+n<1000000000->∃out',bD (dW gap) ((i:Int),t,old,now,mv,rd,a,b,c,d,dY)=some (t,old,now,mv,rd,a,b,c,d,out')/\out'.l=dY.l++rJ gap rd.l i n:=by
 intro n;induction n with
 |zero=>
  intro i dY hi h1 _;obtain rfl:i=rd.l.length:=by omega
  exact⟨dY,cB (by simp only[dW,kK,cond_false]),by simp[rJ]⟩
 |succ n ih=>
  intro i dY hi h1 ho;have hil:i<rd.l.length:=by omega
  have hw:wr .i64 ((i:Int)-1)=((i-1:Nat):Int):=by rw[ig (by omega) (by omega)];omega
  have n1:=Hj (gt rd.l i).2.1;have n2:=Hj (gt rd.l (i-1)).2.1;have hd:wr .i64 (mG (aj.At (gt rd.l i))-mG (aj.At (gt rd.l (i-1))))=mG (gt rd.l i).2.1-mG (gt rd.l (i-1)).2.1:=ig (n:=mG (gt rd.l i).2.1-mG (gt rd.l (i-1)).2.1) (by omega) (by omega);have hlen:(qa dY (nY gap rd.l i) 4 (i:Int) 0).l.length<=dY.l.length+1:=by rw[rt];cases nY gap rd.l i<;>simp
  obtain⟨o',e1,e2⟩:=ih (i+1) (qa dY (nY gap rd.l i) 4 (i:Int) 0) (by omega) (by omega) (by omega);refine⟨o',(dl ?_).trans e1,?_⟩
  .have hc:decide (mG (gt rd.l i).2.1-mG (gt rd.l (i-1)).2.1<gap)=nY gap rd.l i:=rfl;simp only[dW,jt hil,cond_true,bq hil,af,K7,hw,bq (show i-1<rd.l.length by omega),hd,hc,oB (show dY.l.length<2147483648 by omega),k9 (show i<9223372036854775807 by omega)]
  .rw [e2,rt,List.append_assoc];congr 1
def sM(n:Int):Int:=if 1048576<(if 0>n then 0 else n)then 1048576 else(if 0>n then 0 else n)
theorem Oa(n:Int):0<=sM n/\sM n<=1048576:=by unfold sM;split<;>split<;>omega
theorem H7{t:ah}{old now:Sl (Sl Int)}{mv:Sl ae}{rd:Sl aj}{miss b c d:Int}{dY:Sl am}(hV:lr t)(hb:rd.l.length<=1000)(ho:dY.l.length<100000000):
  ∃out',fZ t old now mv rd miss b c d dY=some (t,old,now,mv,rd,miss,b,c,d,out')/\out'.l=dY.l++rJ (2*sM miss+iw t+1) rd.l 1 (rd.l.length-1):=by
 obtain⟨m1,m2⟩:=Oa miss;have hg:=Hy hV m1 m2;have hg:oq t (if 1048576<(if 0>miss then 0 else miss)then 1048576 else(if 0>miss then 0 else miss))=_:=hg;by_cases h0:rd.l.length=0
 .refine ⟨dY,?_,by rw[h0];simp[rJ]⟩;have e:bD (dW (2*sM miss+iw t+1)) (1,t,old,now,mv,rd,miss,b,c,d,dY)=some (t,old,now,mv,rd,miss,b,c,d,dY):=cB (by have hlt:decide ((1:Int)<(rd.l.length:Int))=false:=decide_eq_false (by omega);simp only[dW,hlt,cond_false]);simp only[fZ,hg,af,e]
 .obtain ⟨o',e1,e2⟩:=EY (t:=t) (old:=old) (now:=now) (mv:=mv) (a:=miss) (b:=b) (c:=c) (d:=d) (gap:=2*sM miss+iw t+1) hb (rd.l.length-1) 1 dY (by omega) (by omega) (by omega);have e1:bD (dW (2*sM miss+iw t+1)) (1,t,old,now,mv,rd,miss,b,c,d,dY)=_:=e1;exact⟨o',by simp only[fZ,hg,af,e1],e2⟩
end Go.Proofs.YthcplpfiidlinaaDoor.J
