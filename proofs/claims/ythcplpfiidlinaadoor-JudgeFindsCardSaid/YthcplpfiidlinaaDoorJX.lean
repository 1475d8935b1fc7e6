/- Findings: extra moves; all that is to be moved. Conditions: lengths as stated. -/
import Derived.Test.YthcplpfiidlinaaDoorJY
open Go.Ev Go
open Bool renaming and_eq_true->ai
open Option renaming bind_some->af
namespace Go.Proofs.YthcplpfiidlinaaDoor.J
def uN(t:ah)(m:ae):Bool:=(((decide (m.1>=0))&&(decide (m.1<t.bq)))&&(decide (m.2.1>=0)))&&(decide (m.2.1<(t.bd.l.length:Int)))
def oJ(t:ah)(old now:Sl (Sl Int))(rd:List aj)(m:ae):Bool:=bif !(uN t m)then true else bif(gt (gt now.l m.1.toNat).l m.2.1.toNat !=m.2.2.1)then true else bif(gt (gt old.l m.1.toNat).l m.2.1.toNat==m.2.2.1)then true else !(rd.any fun r=>oF r m)
def wu(t:ah)(old now:Sl (Sl Int))(mv:List ae)(rd:List aj)(k n:Nat):List am:=(List.range' k n).flatMap fun(k:Nat)=>bif oJ t old now rd (gt mv k)then[(3,(k:Int),(gt mv k).2.1)]else[]
section
variable{t:ah}{old now:Sl (Sl Int)}{mv:Sl ae}{rd:Sl aj}{a b c d:Int}{dV:Sl am}
theorem Ge(hr:rd.l.length<9223372036854775808)(hrs:∀r∈rd.l,r.2.2.l.length<9223372036854775808)(hm:mv.l.length<=1000000)(h1:(now.l.length:Int)=t.bq)(h2:(old.l.length:Int)=t.bq)
  (hn:∀s,s<now.l.length->(gt now.l s).l.length=t.bd.l.length) (ho:∀s,s<old.l.length->(gt old.l s).l.length=t.bd.l.length):
  ∀(n k:Nat)(dV:Sl am),k+n=mv.l.length->dV.l.length+n<1000000000->∃out',bD (eQ mv) ((k:Int),t,old,now,mv,rd,a,b,c,d,dV)=some (t,old,now,mv,rd,a,b,c,d,out')/\out'.l=dV.l++wu t old now mv.l rd.l k n:=by
 intro n;induction n with
 |zero=>
  intro k dV hk hl;obtain rfl:k=mv.l.length:=by omega
  exact⟨dV,cA (by simp only[eQ,kH,cond_false]),by simp[wu]⟩
 |succ n ih=>
  intro k dV hk hl;have hkl:k<mv.l.length:=by omega
  have hlen:(p8 dV (oJ t old now rd.l (gt mv.l k)) 3 (k:Int) (gt mv.l k).2.1).l.length<=dV.l.length+1:=by rw[rm];cases oJ t old now rd.l (gt mv.l k)<;>simp
  obtain⟨o',e1,e2⟩:=ih (k+1) (p8 dV (oJ t old now rd.l (gt mv.l k)) 3 (k:Int) (gt mv.l k).2.1) (by omega) (by omega);refine⟨o',(dl ?_).trans e1,?_⟩
  .have hout:dV.l.length<2147483648:=by omega
   have hi:fx (⟨t,old,now,(⟨mv,rd,a,b,c,d⟩:dh),dV⟩:bv) (gt mv.l k)=some (uN t (gt mv.l k)):=rfl;have hd:eW (⟨t,old,now,(⟨mv,rd,a,b,c,d⟩:dh),dV⟩:bv) (gt mv.l k)=some (rd.l.any fun r=>oF r (gt mv.l k)):=D_ (x:=(⟨t,old,now,(⟨mv,rd,a,b,c,d⟩:dh),dV⟩:bv)) hr hrs;simp only[eQ,js hkl,cond_true,bp hkl,af,hi];cases hB:uN t (gt mv.l k)with
   |false=>
    have hx:oJ t old now rd.l (gt mv.l k)=true:=by unfold oJ;rw[hB];rfl
    simp only[Bool.not_false,cond_true,ot hout,af,hx,kY (show k<9223372036854775807 by omega)]
   |true=>
    unfold uN at hB;simp only[ai,decide_eq_true_eq]at hB;obtain⟨⟨⟨b1,b2⟩,b3⟩,b4⟩:=hB;have hBt:uN t (gt mv.l k)=true:=by unfold uN;simp only[ai,decide_eq_true_eq];exact⟨⟨⟨b1,b2⟩,b3⟩,b4⟩
    have s1:(gt mv.l k).1.toNat<now.l.length:=by omega
    have s2:(gt mv.l k).1.toNat<old.l.length:=by omega
    have i1:eX (ae.Sw (gt mv.l k)) now.l.length=some (gt mv.l k).1.toNat:=gA.2 ⟨by show(gt mv.l k).1=_;omega,s1⟩;have i2:eX (ae.mL (gt mv.l k)) (gt now.l (gt mv.l k).1.toNat).l.length=some (gt mv.l k).2.1.toNat:=gA.2 ⟨by show(gt mv.l k).2.1=_;omega,by rw[hn _ s1];omega⟩;have i3:eX (ae.Sw (gt mv.l k)) old.l.length=some (gt mv.l k).1.toNat:=gA.2 ⟨by show(gt mv.l k).1=_;omega,s2⟩;have i4:eX (ae.mL (gt mv.l k)) (gt old.l (gt mv.l k).1.toNat).l.length=some (gt mv.l k).2.1.toNat:=gA.2 ⟨by show(gt mv.l k).2.1=_;omega,by rw[ho _ s2];omega⟩;have hx:oJ t old now rd.l (gt mv.l k)=bif(gt (gt now.l (gt mv.l k).1.toNat).l (gt mv.l k).2.1.toNat !=(ae.oA (gt mv.l k)))then true else bif(gt (gt old.l (gt mv.l k).1.toNat).l (gt mv.l k).2.1.toNat==(ae.oA (gt mv.l k)))then true else !(rd.l.any fun r=>oF r (gt mv.l k)):=by unfold oJ;rw[hBt];rfl
    rw[hx];simp only[Bool.not_true,cond_false,i1,i2,i3,i4,af];cases(gt (gt now.l (gt mv.l k).1.toNat).l (gt mv.l k).2.1.toNat !=(ae.oA (gt mv.l k)))with
    |true=>simp only[cond_true,ot hout,af,kY (show k<9223372036854775807 by omega)]
    |false=>simp only[cond_false];cases(gt (gt old.l (gt mv.l k).1.toNat).l (gt mv.l k).2.1.toNat==(ae.oA (gt mv.l k)))with|true=>simp only[cond_true,ot hout,af,kY (show k<9223372036854775807 by omega)]|false=>simp only[cond_false,hd,ot hout,af,kY (show k<9223372036854775807 by omega)]
  .rw [e2,rm,List.append_assoc];congr 1
end
end Go.Proofs.YthcplpfiidlinaaDoor.J
