/- Findings: je that are too close. Conditions: lengths as stated. -/
import Derived.Test.YthcplpfiidlinaaDoorJU
import Derived.Test.YthcplpfiidlinaaDoorJO
open Go.Ev Go
open Option renaming bind_some->ae
namespace Go.Proofs.YthcplpfiidlinaaDoor.J
def pz(n:Int):Int:=if 1125899906842624<(if(-1125899906842624)>n then(-1125899906842624)else n)then 1125899906842624 else(if(-1125899906842624)>n then(-1125899906842624)else n)
theorem Fz(n:Int):-1125899906842624<=pz n/\pz n<=1125899906842624:=by unfold pz;split<;>split<;>omega
theorem IS(n:Int):iW n=some (pz n):=rfl
def tV(gap:Int)(rd:List aj)(k:Nat):Bool:=decide (pz (gt rd k).2.1-pz (gt rd (k-1)).2.1<gap)
def tU(gap:Int)(rd:List aj)(k d:Nat):List ap:=(List.range' k d).flatMap fun(j:Nat)=>bif tV gap rd j then[(4,(j:Int),0)]else[]
theorem Dt{t:ah}{old now:Sl (Sl Int)}{mv:Sl af}{rd:Sl aj}{a b c d gap:Int}(hb:rd.l.length<=1000):
  ∀(n i:Nat)(dO:Sl ap),i+n=rd.l.length->1<=i->dO.l.length+n<1000000000->∃out',br (dF gap) ((i:Int),t,old,now,mv,rd,a,b,c,d,dO)=some (t,old,now,mv,rd,a,b,c,d,out')/\out'.l=dO.l++tU gap rd.l i n:=by
 intro n;induction n with
 |zero=>
  intro i dO hi h1 _;obtain rfl:i=rd.l.length:=by omega
  exact⟨dO,ci (by simp only[dF,j4,cond_false]),by simp[tU]⟩
 |succ n ih=>
  intro i dO hi h1 ho;have hil:i<rd.l.length:=by omega
  have hw:wr .i64 ((i:Int)-1)=((i-1:Nat):Int):=by rw[nT (by omega) (by omega)];omega
  have n1:=Fz (gt rd.l i).2.1;have n2:=Fz (gt rd.l (i-1)).2.1;have hd:wr .i64 (pz (aj.At (gt rd.l i))-pz (aj.At (gt rd.l (i-1))))=pz (gt rd.l i).2.1-pz (gt rd.l (i-1)).2.1:=nT (n:=pz (gt rd.l i).2.1-pz (gt rd.l (i-1)).2.1) (by omega) (by omega);have hlen:(py dO (tV gap rd.l i) 4 (i:Int) 0).l.length<=dO.l.length+1:=by rw[qK];cases tV gap rd.l i<;>simp
  obtain⟨o',e1,e2⟩:=ih (i+1) (py dO (tV gap rd.l i) 4 (i:Int) 0) (by omega) (by omega) (by omega);refine⟨o',(cG ?_).trans e1,?_⟩
  .have hc:decide (pz (gt rd.l i).2.1-pz (gt rd.l (i-1)).2.1<gap)=tV gap rd.l i:=rfl;simp only[dF,jm hil,cond_true,bI hil,ae,IS,hw,bI (show i-1<rd.l.length by omega),hd,hc,nz (show dO.l.length<2147483648 by omega),kz (show i<9223372036854775807 by omega)]
  .rw [e2,qK,List.append_assoc];congr 1
def ut(n:Int):Int:=if 1048576<(if 0>n then 0 else n)then 1048576 else(if 0>n then 0 else n)
theorem Ly(n:Int):0<=ut n/\ut n<=1048576:=by unfold ut;split<;>split<;>omega
theorem F_{t:ah}{old now:Sl (Sl Int)}{mv:Sl af}{rd:Sl aj}{miss b c d:Int}{dO:Sl ap}(hV:mn t)(hb:rd.l.length<=1000)(ho:dO.l.length<100000000):
  ∃out',fJ t old now mv rd miss b c d dO=some (t,old,now,mv,rd,miss,b,c,d,out')/\out'.l=dO.l++tU (2*ut miss+qb t+1) rd.l 1 (rd.l.length-1):=by
 obtain⟨m1,m2⟩:=Ly miss;have hg:=LL hV m1 m2;have hg:oN t (if 1048576<(if 0>miss then 0 else miss)then 1048576 else(if 0>miss then 0 else miss))=_:=hg;by_cases h0:rd.l.length=0
 .refine ⟨dO,?_,by rw[h0];simp[tU]⟩;have e:br (dF (2*ut miss+qb t+1)) (1,t,old,now,mv,rd,miss,b,c,d,dO)=some (t,old,now,mv,rd,miss,b,c,d,dO):=ci (by have hlt:decide ((1:Int)<(rd.l.length:Int))=false:=decide_eq_false (by omega);simp only[dF,hlt,cond_false]);simp only[fJ,hg,ae,e]
 .obtain ⟨o',e1,e2⟩:=Dt (t:=t) (old:=old) (now:=now) (mv:=mv) (a:=miss) (b:=b) (c:=c) (d:=d) (gap:=2*ut miss+qb t+1) hb (rd.l.length-1) 1 dO (by omega) (by omega) (by omega);have e1:br (dF (2*ut miss+qb t+1)) (1,t,old,now,mv,rd,miss,b,c,d,dO)=_:=e1;exact⟨o',by simp only[fJ,hg,ae,e1],e2⟩
end Go.Proofs.YthcplpfiidlinaaDoor.J
