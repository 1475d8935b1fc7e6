/- Findings: extra moves; all that is to be moved. Conditions: lengths as stated. -/
import Derived.Test.YthcplpfiidlinaaDoorJY
open Go.Ev Go
open Bool renaming and_eq_true->ai
open Option renaming bind_some->af
namespace Go.Proofs.YthcplpfiidlinaaDoor.J
def ud(t:ah)(m:ae):Bool:=(((decide (m.1>=0))&&(decide (m.1<t.br)))&&(decide (m.2.1>=0)))&&(decide (m.2.1<(t.bd.l.length:Int)))
def oN(t:ah)(old now:Sl (Sl Int))(rd:List aj)(m:ae):Bool:=bif !(ud t m)then true else bif(gt (gt now.l m.1.toNat).l m.2.1.toNat !=m.2.2.1)then true else bif(gt (gt old.l m.1.toNat).l m.2.1.toNat==m.2.2.1)then true else !(rd.any fun r=>oJ r m)
def wB(t:ah)(old now:Sl (Sl Int))(mv:List ae)(rd:List aj)(k n:Nat):List am:=(List.range' k n).flatMap fun(k:Nat)=>bif oN t old now rd (gt mv k)then[(3,(k:Int),(gt mv k).2.1)]else[]
section
variable{t:ah}{old now:Sl (Sl Int)}{mv:Sl ae}{rd:Sl aj}{a b c d:Int}{dY:Sl am}
theorem Gh(hr:rd.l.length<9223372036854775808)(hrs:∀r∈rd.l,r.2.2.l.length<9223372036854775808)(hm:mv.l.length<=1000000)(h1:(now.l.length:Int)=t.br)(h2:(old.l.length:Int)=t.br)
  (hn:∀s,s<now.l.length->(gt now.l s).l.length=t.bd.l.length) (ho:∀s,s<old.l.length->(gt old.l s).l.length=t.bd.l.length):
  ∀(n k:Nat)(dY:Sl am),k+n=mv.l.length->dY.l.length+n<1000000000->∃out',bD (eT mv) ((k:Int),t,old,now,mv,rd,a,b,c,d,dY)=some (t,old,now,mv,rd,a,b,c,d,out')/\out'.l=dY.l++wB t old now mv.l rd.l k n:=by
 intro n;induction n with
 |zero=>
  intro k dY hk hl;obtain rfl:k=mv.l.length:=by omega
  exact⟨dY,cB (by simp only[eT,kK,cond_false]),by simp[wB]⟩
 |succ n ih=>
  intro k dY hk hl;have hkl:k<mv.l.length:=by omega
  have hlen:(qa dY (oN t old now rd.l (gt mv.l k)) 3 (k:Int) (gt mv.l k).2.1).l.length<=dY.l.length+1:=by rw[rt];cases oN t old now rd.l (gt mv.l k)<;>simp
  obtain⟨o',e1,e2⟩:=ih (k+1) (qa dY (oN t old now rd.l (gt mv.l k)) 3 (k:Int) (gt mv.l k).2.1) (by omega) (by omega);refine⟨o',(dl ?_).trans e1,?_⟩
  .have hout:dY.l.length<2147483648:=by omega
   have hi:fA (⟨t,old,now,(⟨mv,rd,a,b,c,d⟩:bI),dY⟩:bg) (gt mv.l k)=some (ud t (gt mv.l k)):=rfl;have hd:eZ (⟨t,old,now,(⟨mv,rd,a,b,c,d⟩:bI),dY⟩:bg) (gt mv.l k)=some (rd.l.any fun r=>oJ r (gt mv.l k)):=Eg (x:=(⟨t,old,now,(⟨mv,rd,a,b,c,d⟩:bI),dY⟩:bg)) hr hrs;simp only[eT,jt hkl,cond_true,bq hkl,af,hi];cases hB:ud t (gt mv.l k)with
   |false=>
    have hx:oN t old now rd.l (gt mv.l k)=true:=by unfold oN;rw[hB];rfl
    simp only[Bool.not_false,cond_true,oB hout,af,hx,k9 (show k<9223372036854775807 by omega)]
   |true=>
    unfold ud at hB;simp only[ai,decide_eq_true_eq]at hB;obtain⟨⟨⟨b1,b2⟩,b3⟩,b4⟩:=hB;have hBt:ud t (gt mv.l k)=true:=by unfold ud;simp only[ai,decide_eq_true_eq];exact⟨⟨⟨b1,b2⟩,b3⟩,b4⟩
    have s1:(gt mv.l k).1.toNat<now.l.length:=by omega
    have s2:(gt mv.l k).1.toNat<old.l.length:=by omega
    have i1:e9 (ae.Sw (gt mv.l k)) now.l.length=some (gt mv.l k).1.toNat:=gB.2 ⟨by show(gt mv.l k).1=_;omega,s1⟩;have i2:e9 (ae.mC (gt mv.l k)) (gt now.l (gt mv.l k).1.toNat).l.length=some (gt mv.l k).2.1.toNat:=gB.2 ⟨by show(gt mv.l k).2.1=_;omega,by rw[hn _ s1];omega⟩;have i3:e9 (ae.Sw (gt mv.l k)) old.l.length=some (gt mv.l k).1.toNat:=gB.2 ⟨by show(gt mv.l k).1=_;omega,s2⟩;have i4:e9 (ae.mC (gt mv.l k)) (gt old.l (gt mv.l k).1.toNat).l.length=some (gt mv.l k).2.1.toNat:=gB.2 ⟨by show(gt mv.l k).2.1=_;omega,by rw[ho _ s2];omega⟩;have hx:oN t old now rd.l (gt mv.l k)=bif(gt (gt now.l (gt mv.l k).1.toNat).l (gt mv.l k).2.1.toNat !=(ae.oc (gt mv.l k)))then true else bif(gt (gt old.l (gt mv.l k).1.toNat).l (gt mv.l k).2.1.toNat==(ae.oc (gt mv.l k)))then true else !(rd.l.any fun r=>oJ r (gt mv.l k)):=by unfold oN;rw[hBt];rfl
    rw[hx];simp only[Bool.not_true,cond_false,i1,i2,i3,i4,af];cases(gt (gt now.l (gt mv.l k).1.toNat).l (gt mv.l k).2.1.toNat !=(ae.oc (gt mv.l k)))with
    |true=>simp only[cond_true,oB hout,af,k9 (show k<9223372036854775807 by omega)]
    |false=>simp only[cond_false];cases(gt (gt old.l (gt mv.l k).1.toNat).l (gt mv.l k).2.1.toNat==(ae.oc (gt mv.l k)))with|true=>simp only[cond_true,oB hout,af,k9 (show k<9223372036854775807 by omega)]|false=>simp only[cond_false,hd,oB hout,af,k9 (show k<9223372036854775807 by omega)]
  .rw [e2,rt,List.append_assoc];congr 1
end
end Go.Proofs.YthcplpfiidlinaaDoor.J
