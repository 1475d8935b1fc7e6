/- Findings: extra moves; all that is to be moved. Conditions: lengths as stated. -/
import Derived.Test.YthcplpfiidlinaaDoorJY
open Go.Ev Go
open Bool renaming and_eq_true->ai
open Option renaming bind_some->ae
namespace Go.Proofs.YthcplpfiidlinaaDoor.J
def sV(t:ah)(m:af):Bool:=(((decide (m.1>=0))&&(decide (m.1<t.bh)))&&(decide (m.2.1>=0)))&&(decide (m.2.1<(t.a_.l.length:Int)))
def mU(t:ah)(old now:Sl (Sl Int))(rd:List aj)(m:af):Bool:=bif !(sV t m)then true else bif(gt (gt now.l m.1.toNat).l m.2.1.toNat !=m.2.2.1)then true else bif(gt (gt old.l m.1.toNat).l m.2.1.toNat==m.2.2.1)then true else !(rd.any fun r=>nH r m)
def tO(t:ah)(old now:Sl (Sl Int))(mv:List af)(rd:List aj)(k n:Nat):List ap:=(List.range' k n).flatMap fun(k:Nat)=>bif mU t old now rd (gt mv k)then[(3,(k:Int),(gt mv k).2.1)]else[]
section
variable{t:ah}{old now:Sl (Sl Int)}{mv:Sl af}{rd:Sl aj}{a b c d:Int}{dO:Sl ap}
theorem EF(hr:rd.l.length<9223372036854775808)(hrs:∀r∈rd.l,r.2.2.l.length<9223372036854775808)(hm:mv.l.length<=1000000)(h1:(now.l.length:Int)=t.bh)(h2:(old.l.length:Int)=t.bh)
  (hn:∀s,s<now.l.length->(gt now.l s).l.length=t.a_.l.length) (ho:∀s,s<old.l.length->(gt old.l s).l.length=t.a_.l.length):
  ∀(n k:Nat)(dO:Sl ap),k+n=mv.l.length->dO.l.length+n<1000000000->∃out',br (eN mv) ((k:Int),t,old,now,mv,rd,a,b,c,d,dO)=some (t,old,now,mv,rd,a,b,c,d,out')/\out'.l=dO.l++tO t old now mv.l rd.l k n:=by
 intro n;induction n with
 |zero=>
  intro k dO hk hl;obtain rfl:k=mv.l.length:=by omega
  exact⟨dO,ci (by simp only[eN,j4,cond_false]),by simp[tO]⟩
 |succ n ih=>
  intro k dO hk hl;have hkl:k<mv.l.length:=by omega
  have hlen:(py dO (mU t old now rd.l (gt mv.l k)) 3 (k:Int) (gt mv.l k).2.1).l.length<=dO.l.length+1:=by rw[qK];cases mU t old now rd.l (gt mv.l k)<;>simp
  obtain⟨o',e1,e2⟩:=ih (k+1) (py dO (mU t old now rd.l (gt mv.l k)) 3 (k:Int) (gt mv.l k).2.1) (by omega) (by omega);refine⟨o',(cG ?_).trans e1,?_⟩
  .have hout:dO.l.length<2147483648:=by omega
   have hi:fh (⟨t,old,now,(⟨mv,rd,a,b,c,d⟩:aE),dO⟩:bw) (gt mv.l k)=some (sV t (gt mv.l k)):=rfl;have hd:eT (⟨t,old,now,(⟨mv,rd,a,b,c,d⟩:aE),dO⟩:bw) (gt mv.l k)=some (rd.l.any fun r=>nH r (gt mv.l k)):=CP (x:=(⟨t,old,now,(⟨mv,rd,a,b,c,d⟩:aE),dO⟩:bw)) hr hrs;simp only[eN,jm hkl,cond_true,bI hkl,ae,hi];cases hB:sV t (gt mv.l k)with
   |false=>
    have hx:mU t old now rd.l (gt mv.l k)=true:=by unfold mU;rw[hB];rfl
    simp only[Bool.not_false,cond_true,nz hout,ae,hx,kz (show k<9223372036854775807 by omega)]
   |true=>
    unfold sV at hB;simp only[ai,decide_eq_true_eq]at hB;obtain⟨⟨⟨b1,b2⟩,b3⟩,b4⟩:=hB;have hBt:sV t (gt mv.l k)=true:=by unfold sV;simp only[ai,decide_eq_true_eq];exact⟨⟨⟨b1,b2⟩,b3⟩,b4⟩
    have s1:(gt mv.l k).1.toNat<now.l.length:=by omega
    have s2:(gt mv.l k).1.toNat<old.l.length:=by omega
    have i1:e_ (af.Sw (gt mv.l k)) now.l.length=some (gt mv.l k).1.toNat:=fX.2 ⟨by show(gt mv.l k).1=_;omega,s1⟩;have i2:e_ (af.mr (gt mv.l k)) (gt now.l (gt mv.l k).1.toNat).l.length=some (gt mv.l k).2.1.toNat:=fX.2 ⟨by show(gt mv.l k).2.1=_;omega,by rw[hn _ s1];omega⟩;have i3:e_ (af.Sw (gt mv.l k)) old.l.length=some (gt mv.l k).1.toNat:=fX.2 ⟨by show(gt mv.l k).1=_;omega,s2⟩;have i4:e_ (af.mr (gt mv.l k)) (gt old.l (gt mv.l k).1.toNat).l.length=some (gt mv.l k).2.1.toNat:=fX.2 ⟨by show(gt mv.l k).2.1=_;omega,by rw[ho _ s2];omega⟩;have hx:mU t old now rd.l (gt mv.l k)=bif(gt (gt now.l (gt mv.l k).1.toNat).l (gt mv.l k).2.1.toNat !=(af.mq (gt mv.l k)))then true else bif(gt (gt old.l (gt mv.l k).1.toNat).l (gt mv.l k).2.1.toNat==(af.mq (gt mv.l k)))then true else !(rd.l.any fun r=>nH r (gt mv.l k)):=by unfold mU;rw[hBt];rfl
    rw[hx];simp only[Bool.not_true,cond_false,i1,i2,i3,i4,ae];cases(gt (gt now.l (gt mv.l k).1.toNat).l (gt mv.l k).2.1.toNat !=(af.mq (gt mv.l k)))with
    |true=>simp only[cond_true,nz hout,ae,kz (show k<9223372036854775807 by omega)]
    |false=>simp only[cond_false];cases(gt (gt old.l (gt mv.l k).1.toNat).l (gt mv.l k).2.1.toNat==(af.mq (gt mv.l k)))with|true=>simp only[cond_true,nz hout,ae,kz (show k<9223372036854775807 by omega)]|false=>simp only[cond_false,hd,nz hout,ae,kz (show k<9223372036854775807 by omega)]
  .rw [e2,qK,List.append_assoc];congr 1
end
end Go.Proofs.YthcplpfiidlinaaDoor.J
