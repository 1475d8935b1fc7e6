/- Findings: extra moves; all that is to be moved. Conditions: lengths as stated. -/
import Derived.Test.YthcplpfiidlinaaDoorJY
open Go.Ev Go
open Bool renaming and_eq_true->ai
open Option renaming bind_some->af
namespace Go.Proofs.YthcplpfiidlinaaDoor.J
def ua(t:ah)(m:ae):Bool:=(((decide (m.1>=0))&&(decide (m.1<t.bo)))&&(decide (m.2.1>=0)))&&(decide (m.2.1<(t.bf.l.length:Int)))
def oF(t:ah)(old now:Sl (Sl Int))(rd:List aj)(m:ae):Bool:=bif !(ua t m)then true else bif(gt (gt now.l m.1.toNat).l m.2.1.toNat !=m.2.2.1)then true else bif(gt (gt old.l m.1.toNat).l m.2.1.toNat==m.2.2.1)then true else !(rd.any fun r=>oB r m)
def wt(t:ah)(old now:Sl (Sl Int))(mv:List ae)(rd:List aj)(k n:Nat):List aq:=(List.range' k n).flatMap fun(k:Nat)=>bif oF t old now rd (gt mv k)then[(3,(k:Int),(gt mv k).2.1)]else[]
section
variable{t:ah}{old now:Sl (Sl Int)}{mv:Sl ae}{rd:Sl aj}{a b c d:Int}{dX:Sl aq}
theorem F9(hr:rd.l.length<9223372036854775808)(hrs:∀r∈rd.l,r.2.2.l.length<9223372036854775808)(hm:mv.l.length<=1000000)(h1:(now.l.length:Int)=t.bo)(h2:(old.l.length:Int)=t.bo)
  (hn:∀s,s<now.l.length->(gt now.l s).l.length=t.bf.l.length) (ho:∀s,s<old.l.length->(gt old.l s).l.length=t.bf.l.length):
  ∀(n k:Nat)(dX:Sl aq),k+n=mv.l.length->dX.l.length+n<1000000000->∃out',bE (eS mv) ((k:Int),t,old,now,mv,rd,a,b,c,d,dX)=some (t,old,now,mv,rd,a,b,c,d,out')/\out'.l=dX.l++wt t old now mv.l rd.l k n:=by
 intro n;induction n with
 |zero=>
  intro k dX hk hl;obtain rfl:k=mv.l.length:=by omega
  exact⟨dX,ct (by simp only[eS,kG,cond_false]),by simp[wt]⟩
 |succ n ih=>
  intro k dX hk hl;have hkl:k<mv.l.length:=by omega
  have hlen:(pY dX (oF t old now rd.l (gt mv.l k)) 3 (k:Int) (gt mv.l k).2.1).l.length<=dX.l.length+1:=by rw[rm];cases oF t old now rd.l (gt mv.l k)<;>simp
  obtain⟨o',e1,e2⟩:=ih (k+1) (pY dX (oF t old now rd.l (gt mv.l k)) 3 (k:Int) (gt mv.l k).2.1) (by omega) (by omega);refine⟨o',(dh ?_).trans e1,?_⟩
  .have hout:dX.l.length<2147483648:=by omega
   have hi:fr (⟨t,old,now,(⟨mv,rd,a,b,c,d⟩:dq),dX⟩:bt) (gt mv.l k)=some (ua t (gt mv.l k)):=rfl;have hd:eY (⟨t,old,now,(⟨mv,rd,a,b,c,d⟩:dq),dX⟩:bt) (gt mv.l k)=some (rd.l.any fun r=>oB r (gt mv.l k)):=D7 (x:=(⟨t,old,now,(⟨mv,rd,a,b,c,d⟩:dq),dX⟩:bt)) hr hrs;simp only[eS,jo hkl,cond_true,bA hkl,af,hi];cases hB:ua t (gt mv.l k)with
   |false=>
    have hx:oF t old now rd.l (gt mv.l k)=true:=by unfold oF;rw[hB];rfl
    simp only[Bool.not_false,cond_true,og hout,af,hx,lp (show k<9223372036854775807 by omega)]
   |true=>
    unfold ua at hB;simp only[ai,decide_eq_true_eq]at hB;obtain⟨⟨⟨b1,b2⟩,b3⟩,b4⟩:=hB;have hBt:ua t (gt mv.l k)=true:=by unfold ua;simp only[ai,decide_eq_true_eq];exact⟨⟨⟨b1,b2⟩,b3⟩,b4⟩
    have s1:(gt mv.l k).1.toNat<now.l.length:=by omega
    have s2:(gt mv.l k).1.toNat<old.l.length:=by omega
    have i1:fw (ae.Sw (gt mv.l k)) now.l.length=some (gt mv.l k).1.toNat:=gq.2 ⟨by show(gt mv.l k).1=_;omega,s1⟩;have i2:fw (ae.nh (gt mv.l k)) (gt now.l (gt mv.l k).1.toNat).l.length=some (gt mv.l k).2.1.toNat:=gq.2 ⟨by show(gt mv.l k).2.1=_;omega,by rw[hn _ s1];omega⟩;have i3:fw (ae.Sw (gt mv.l k)) old.l.length=some (gt mv.l k).1.toNat:=gq.2 ⟨by show(gt mv.l k).1=_;omega,s2⟩;have i4:fw (ae.nh (gt mv.l k)) (gt old.l (gt mv.l k).1.toNat).l.length=some (gt mv.l k).2.1.toNat:=gq.2 ⟨by show(gt mv.l k).2.1=_;omega,by rw[ho _ s2];omega⟩;have hx:oF t old now rd.l (gt mv.l k)=bif(gt (gt now.l (gt mv.l k).1.toNat).l (gt mv.l k).2.1.toNat !=(ae.ot (gt mv.l k)))then true else bif(gt (gt old.l (gt mv.l k).1.toNat).l (gt mv.l k).2.1.toNat==(ae.ot (gt mv.l k)))then true else !(rd.l.any fun r=>oB r (gt mv.l k)):=by unfold oF;rw[hBt];rfl
    rw[hx];simp only[Bool.not_true,cond_false,i1,i2,i3,i4,af];cases(gt (gt now.l (gt mv.l k).1.toNat).l (gt mv.l k).2.1.toNat !=(ae.ot (gt mv.l k)))with
    |true=>simp only[cond_true,og hout,af,lp (show k<9223372036854775807 by omega)]
    |false=>simp only[cond_false];cases(gt (gt old.l (gt mv.l k).1.toNat).l (gt mv.l k).2.1.toNat==(ae.ot (gt mv.l k)))with|true=>simp only[cond_true,og hout,af,lp (show k<9223372036854775807 by omega)]|false=>simp only[cond_false,hd,og hout,af,lp (show k<9223372036854775807 by omega)]
  .rw [e2,rm,List.append_assoc];congr 1
end
end Go.Proofs.YthcplpfiidlinaaDoor.J
