/- Findings: jj that are too close. Conditions: lengths as stated. -/
import Derived.Test.YthcplpfiidlinaaDoorJU
import Derived.Test.YthcplpfiidlinaaDoorJO
open Go.Ev Go
open Option renaming bind_some->af
namespace Go.Proofs.YthcplpfiidlinaaDoor.J
def mH(n:Int):Int:=if 1125899906842624<(if(-1125899906842624)>n then(-1125899906842624)else n)then 1125899906842624 else(if(-1125899906842624)>n then(-1125899906842624)else n)
theorem Ho(n:Int):-1125899906842624<=mH n/\mH n<=1125899906842624:=by unfold mH;split<;>split<;>omega
theorem Lb(n:Int):jw n=some (mH n):=rfl
def oQ(gap:Int)(rd:List aj)(k:Nat):Bool:=decide (mH (gt rd k).2.1-mH (gt rd (k-1)).2.1<gap)
def s_(gap:Int)(rd:List aj)(k d:Nat):List ao:=(List.range' k d).flatMap fun(j:Nat)=>bif oQ gap rd j then[(4,(j:Int),0)]else[]
theorem E7{t:ah}{old now:Sl (Sl Int)}{mv:Sl ae}{rd:Sl aj}{a b c d gap:Int}(hb:rd.l.length<=1000):
  ∀(n i:Nat)(ed:Sl ao),i+n=rd.l.length->1<=i->ed.l.length+n<1000000000->∃out',bE (dW gap) ((i:Int),t,old,now,mv,rd,a,b,c,d,ed)=some (t,old,now,mv,rd,a,b,c,d,out')/\out'.l=ed.l++s_ gap rd.l i n:=by
 intro n;induction n with
 |zero=>
  intro i ed hi h1 _;obtain rfl:i=rd.l.length:=by omega
  exact⟨ed,cA (by simp only[dW,kL,cond_false]),by simp[s_]⟩
 |succ n ih=>
  intro i ed hi h1 ho;have hil:i<rd.l.length:=by omega
  have hw:wr .i64 ((i:Int)-1)=((i-1:Nat):Int):=by rw[ig (by omega) (by omega)];omega
  have n1:=Ho (gt rd.l i).2.1;have n2:=Ho (gt rd.l (i-1)).2.1;have hd:wr .i64 (mH (aj.At (gt rd.l i))-mH (aj.At (gt rd.l (i-1))))=mH (gt rd.l i).2.1-mH (gt rd.l (i-1)).2.1:=ig (n:=mH (gt rd.l i).2.1-mH (gt rd.l (i-1)).2.1) (by omega) (by omega);have hlen:(qe ed (oQ gap rd.l i) 4 (i:Int) 0).l.length<=ed.l.length+1:=by rw[rA];cases oQ gap rd.l i<;>simp
  obtain⟨o',e1,e2⟩:=ih (i+1) (qe ed (oQ gap rd.l i) 4 (i:Int) 0) (by omega) (by omega) (by omega);refine⟨o',(dl ?_).trans e1,?_⟩
  .have hc:decide (mH (gt rd.l i).2.1-mH (gt rd.l (i-1)).2.1<gap)=oQ gap rd.l i:=rfl;simp only[dW,jt hil,cond_true,bp hil,af,Lb,hw,bp (show i-1<rd.l.length by omega),hd,hc,oA (show ed.l.length<2147483648 by omega),k7 (show i<9223372036854775807 by omega)]
  .rw [e2,rA,List.append_assoc];congr 1
def sO(n:Int):Int:=if 1048576<(if 0>n then 0 else n)then 1048576 else(if 0>n then 0 else n)
theorem Oi(n:Int):0<=sO n/\sO n<=1048576:=by unfold sO;split<;>split<;>omega
theorem H9{t:ah}{old now:Sl (Sl Int)}{mv:Sl ae}{rd:Sl aj}{miss b c d:Int}{ed:Sl ao}(hV:lp t)(hb:rd.l.length<=1000)(ho:ed.l.length<100000000):
  ∃out',f_ t old now mv rd miss b c d ed=some (t,old,now,mv,rd,miss,b,c,d,out')/\out'.l=ed.l++s_ (2*sO miss+iV t+1) rd.l 1 (rd.l.length-1):=by
 obtain⟨m1,m2⟩:=Oi miss;have hg:=HB hV m1 m2;have hg:oe t (if 1048576<(if 0>miss then 0 else miss)then 1048576 else(if 0>miss then 0 else miss))=_:=hg;by_cases h0:rd.l.length=0
 .refine ⟨ed,?_,by rw[h0];simp[s_]⟩;have e:bE (dW (2*sO miss+iV t+1)) (1,t,old,now,mv,rd,miss,b,c,d,ed)=some (t,old,now,mv,rd,miss,b,c,d,ed):=cA (by have hlt:decide ((1:Int)<(rd.l.length:Int))=false:=decide_eq_false (by omega);simp only[dW,hlt,cond_false]);simp only[f_,hg,af,e]
 .obtain ⟨o',e1,e2⟩:=E7 (t:=t) (old:=old) (now:=now) (mv:=mv) (a:=miss) (b:=b) (c:=c) (d:=d) (gap:=2*sO miss+iV t+1) hb (rd.l.length-1) 1 ed (by omega) (by omega) (by omega);have e1:bE (dW (2*sO miss+iV t+1)) (1,t,old,now,mv,rd,miss,b,c,d,ed)=_:=e1;exact⟨o',by simp only[f_,hg,af,e1],e2⟩
end Go.Proofs.YthcplpfiidlinaaDoor.J
