/- Findings: extra moves; all that is to be moved. Conditions: lengths as stated. -/
import Derived.Test.YthcplpfiidlinaaDoorJY
open Go.Ev Go
open Bool renaming and_eq_true->ai
open Option renaming bind_some->af
namespace Go.Proofs.YthcplpfiidlinaaDoor.J
def ui(t:ah)(m:ae):Bool:=(((decide (m.1>=0))&&(decide (m.1<t.bq)))&&(decide (m.2.1>=0)))&&(decide (m.2.1<(t.bf.l.length:Int)))
def oO(t:ah)(old now:Sl (Sl Int))(rd:List aj)(m:ae):Bool:=bif !(ui t m)then true else bif(gt (gt now.l m.1.toNat).l m.2.1.toNat !=m.2.2.1)then true else bif(gt (gt old.l m.1.toNat).l m.2.1.toNat==m.2.2.1)then true else !(rd.any fun r=>oK r m)
def wD(t:ah)(old now:Sl (Sl Int))(mv:List ae)(rd:List aj)(k n:Nat):List ao:=(List.range' k n).flatMap fun(k:Nat)=>bif oO t old now rd (gt mv k)then[(3,(k:Int),(gt mv k).2.1)]else[]
section
variable{t:ah}{old now:Sl (Sl Int)}{mv:Sl ae}{rd:Sl aj}{a b c d:Int}{ed:Sl ao}
theorem Gs(hr:rd.l.length<9223372036854775808)(hrs:∀r∈rd.l,r.2.2.l.length<9223372036854775808)(hm:mv.l.length<=1000000)(h1:(now.l.length:Int)=t.bq)(h2:(old.l.length:Int)=t.bq)
  (hn:∀s,s<now.l.length->(gt now.l s).l.length=t.bf.l.length) (ho:∀s,s<old.l.length->(gt old.l s).l.length=t.bf.l.length):
  ∀(n k:Nat)(ed:Sl ao),k+n=mv.l.length->ed.l.length+n<1000000000->∃out',bE (eW mv) ((k:Int),t,old,now,mv,rd,a,b,c,d,ed)=some (t,old,now,mv,rd,a,b,c,d,out')/\out'.l=ed.l++wD t old now mv.l rd.l k n:=by
 intro n;induction n with
 |zero=>
  intro k ed hk hl;obtain rfl:k=mv.l.length:=by omega
  exact⟨ed,cA (by simp only[eW,kL,cond_false]),by simp[wD]⟩
 |succ n ih=>
  intro k ed hk hl;have hkl:k<mv.l.length:=by omega
  have hlen:(qe ed (oO t old now rd.l (gt mv.l k)) 3 (k:Int) (gt mv.l k).2.1).l.length<=ed.l.length+1:=by rw[rA];cases oO t old now rd.l (gt mv.l k)<;>simp
  obtain⟨o',e1,e2⟩:=ih (k+1) (qe ed (oO t old now rd.l (gt mv.l k)) 3 (k:Int) (gt mv.l k).2.1) (by omega) (by omega);refine⟨o',(dl ?_).trans e1,?_⟩
  .have hout:ed.l.length<2147483648:=by omega
   have hi:fB (⟨t,old,now,(⟨mv,rd,a,b,c,d⟩:dv),ed⟩:bv) (gt mv.l k)=some (ui t (gt mv.l k)):=rfl;have hd:fc (⟨t,old,now,(⟨mv,rd,a,b,c,d⟩:dv),ed⟩:bv) (gt mv.l k)=some (rd.l.any fun r=>oK r (gt mv.l k)):=Eo (x:=(⟨t,old,now,(⟨mv,rd,a,b,c,d⟩:dv),ed⟩:bv)) hr hrs;simp only[eW,jt hkl,cond_true,bp hkl,af,hi];cases hB:ui t (gt mv.l k)with
   |false=>
    have hx:oO t old now rd.l (gt mv.l k)=true:=by unfold oO;rw[hB];rfl
    simp only[Bool.not_false,cond_true,oA hout,af,hx,k7 (show k<9223372036854775807 by omega)]
   |true=>
    unfold ui at hB;simp only[ai,decide_eq_true_eq]at hB;obtain⟨⟨⟨b1,b2⟩,b3⟩,b4⟩:=hB;have hBt:ui t (gt mv.l k)=true:=by unfold ui;simp only[ai,decide_eq_true_eq];exact⟨⟨⟨b1,b2⟩,b3⟩,b4⟩
    have s1:(gt mv.l k).1.toNat<now.l.length:=by omega
    have s2:(gt mv.l k).1.toNat<old.l.length:=by omega
    have i1:ff (ae.Sw (gt mv.l k)) now.l.length=some (gt mv.l k).1.toNat:=gB.2 ⟨by show(gt mv.l k).1=_;omega,s1⟩;have i2:ff (ae.mS (gt mv.l k)) (gt now.l (gt mv.l k).1.toNat).l.length=some (gt mv.l k).2.1.toNat:=gB.2 ⟨by show(gt mv.l k).2.1=_;omega,by rw[hn _ s1];omega⟩;have i3:ff (ae.Sw (gt mv.l k)) old.l.length=some (gt mv.l k).1.toNat:=gB.2 ⟨by show(gt mv.l k).1=_;omega,s2⟩;have i4:ff (ae.mS (gt mv.l k)) (gt old.l (gt mv.l k).1.toNat).l.length=some (gt mv.l k).2.1.toNat:=gB.2 ⟨by show(gt mv.l k).2.1=_;omega,by rw[ho _ s2];omega⟩;have hx:oO t old now rd.l (gt mv.l k)=bif(gt (gt now.l (gt mv.l k).1.toNat).l (gt mv.l k).2.1.toNat !=(ae.oF (gt mv.l k)))then true else bif(gt (gt old.l (gt mv.l k).1.toNat).l (gt mv.l k).2.1.toNat==(ae.oF (gt mv.l k)))then true else !(rd.l.any fun r=>oK r (gt mv.l k)):=by unfold oO;rw[hBt];rfl
    rw[hx];simp only[Bool.not_true,cond_false,i1,i2,i3,i4,af];cases(gt (gt now.l (gt mv.l k).1.toNat).l (gt mv.l k).2.1.toNat !=(ae.oF (gt mv.l k)))with
    |true=>simp only[cond_true,oA hout,af,k7 (show k<9223372036854775807 by omega)]
    |false=>simp only[cond_false];cases(gt (gt old.l (gt mv.l k).1.toNat).l (gt mv.l k).2.1.toNat==(ae.oF (gt mv.l k)))with|true=>simp only[cond_true,oA hout,af,k7 (show k<9223372036854775807 by omega)]|false=>simp only[cond_false,hd,oA hout,af,k7 (show k<9223372036854775807 by omega)]
  .rw [e2,rA,List.append_assoc];congr 1
end
end Go.Proofs.YthcplpfiidlinaaDoor.J
