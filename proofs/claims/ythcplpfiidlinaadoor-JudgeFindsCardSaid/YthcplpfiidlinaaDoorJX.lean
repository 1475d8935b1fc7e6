/- Findings: extra moves; all that is to be moved. Conditions: lengths as stated. -/
import Derived.Test.YthcplpfiidlinaaDoorJY
open Bool renaming and_eq_true->ai
open Option renaming bind_some->af
open Go.Ev Go
namespace Go.Proofs.YthcplpfiidlinaaDoor.J
def um(t:ah)(m:ae):Bool:=(((decide (m.1>=0))&&(decide (m.1<t.br)))&&(decide (m.2.1>=0)))&&(decide (m.2.1<(t.bf.l.length:Int)))
def oS(t:ah)(old now:Sl (Sl Int))(rd:List aj)(m:ae):Bool:=bif !(um t m)then true else bif(gt (gt now.l m.1.toNat).l m.2.1.toNat !=m.2.2.1)then true else bif(gt (gt old.l m.1.toNat).l m.2.1.toNat==m.2.2.1)then true else !(rd.any fun r=>oO r m)
def wI(t:ah)(old now:Sl (Sl Int))(mv:List ae)(rd:List aj)(k n:Nat):List am:=(List.range' k n).flatMap fun(k:Nat)=>bif oS t old now rd (gt mv k)then[(3,(k:Int),(gt mv k).2.1)]else[]
section
variable{t:ah}{old now:Sl (Sl Int)}{mv:Sl ae}{rd:Sl aj}{a b c d:Int}{eg:Sl am}
theorem Gx(hr:rd.l.length<9223372036854775808)(hrs:∀r∈rd.l,r.2.2.l.length<9223372036854775808)(hm:mv.l.length<=1000000)(h1:(now.l.length:Int)=t.br)(h2:(old.l.length:Int)=t.br)
  (hn:∀s,s<now.l.length->(gt now.l s).l.length=t.bf.l.length) (ho:∀s,s<old.l.length->(gt old.l s).l.length=t.bf.l.length):
  ∀(n k:Nat)(eg:Sl am),k+n=mv.l.length->eg.l.length+n<1000000000->∃out',bE (eZ mv) ((k:Int),t,old,now,mv,rd,a,b,c,d,eg)=some (t,old,now,mv,rd,a,b,c,d,out')/\out'.l=eg.l++wI t old now mv.l rd.l k n:=by
 intro n;induction n with
 |zero=>
  intro k eg hk hl;obtain rfl:k=mv.l.length:=by omega
  exact⟨eg,cB (by simp only[eZ,kO,cond_false]),by simp[wI]⟩
 |succ n ih=>
  intro k eg hk hl;have hkl:k<mv.l.length:=by omega
  have hlen:(qh eg (oS t old now rd.l (gt mv.l k)) 3 (k:Int) (gt mv.l k).2.1).l.length<=eg.l.length+1:=by rw[rE];cases oS t old now rd.l (gt mv.l k)<;>simp
  obtain⟨o',e1,e2⟩:=ih (k+1) (qh eg (oS t old now rd.l (gt mv.l k)) 3 (k:Int) (gt mv.l k).2.1) (by omega) (by omega);refine⟨o',(dm ?_).trans e1,?_⟩
  .have hout:eg.l.length<2147483648:=by omega
   have hi:fE (⟨t,old,now,(⟨mv,rd,a,b,c,d⟩:bK),eg⟩:bh) (gt mv.l k)=some (um t (gt mv.l k)):=rfl;have hd:fh (⟨t,old,now,(⟨mv,rd,a,b,c,d⟩:bK),eg⟩:bh) (gt mv.l k)=some (rd.l.any fun r=>oO r (gt mv.l k)):=Ey (x:=(⟨t,old,now,(⟨mv,rd,a,b,c,d⟩:bK),eg⟩:bh)) hr hrs;simp only[eZ,jw hkl,cond_true,bq hkl,af,hi];cases hB:um t (gt mv.l k)with
   |false=>
    have hx:oS t old now rd.l (gt mv.l k)=true:=by unfold oS;rw[hB];rfl
    simp only[Bool.not_false,cond_true,oG hout,af,hx,k_ (show k<9223372036854775807 by omega)]
   |true=>
    unfold um at hB;simp only[ai,decide_eq_true_eq]at hB;obtain⟨⟨⟨b1,b2⟩,b3⟩,b4⟩:=hB;have hBt:um t (gt mv.l k)=true:=by unfold um;simp only[ai,decide_eq_true_eq];exact⟨⟨⟨b1,b2⟩,b3⟩,b4⟩
    have s1:(gt mv.l k).1.toNat<now.l.length:=by omega
    have s2:(gt mv.l k).1.toNat<old.l.length:=by omega
    have i1:fk (ae.Sw (gt mv.l k)) now.l.length=some (gt mv.l k).1.toNat:=gB.2 ⟨by show(gt mv.l k).1=_;omega,s1⟩;have i2:fk (ae.mI (gt mv.l k)) (gt now.l (gt mv.l k).1.toNat).l.length=some (gt mv.l k).2.1.toNat:=gB.2 ⟨by show(gt mv.l k).2.1=_;omega,by rw[hn _ s1];omega⟩;have i3:fk (ae.Sw (gt mv.l k)) old.l.length=some (gt mv.l k).1.toNat:=gB.2 ⟨by show(gt mv.l k).1=_;omega,s2⟩;have i4:fk (ae.mI (gt mv.l k)) (gt old.l (gt mv.l k).1.toNat).l.length=some (gt mv.l k).2.1.toNat:=gB.2 ⟨by show(gt mv.l k).2.1=_;omega,by rw[ho _ s2];omega⟩;have hx:oS t old now rd.l (gt mv.l k)=bif(gt (gt now.l (gt mv.l k).1.toNat).l (gt mv.l k).2.1.toNat !=(ae.oe (gt mv.l k)))then true else bif(gt (gt old.l (gt mv.l k).1.toNat).l (gt mv.l k).2.1.toNat==(ae.oe (gt mv.l k)))then true else !(rd.l.any fun r=>oO r (gt mv.l k)):=by unfold oS;rw[hBt];rfl
    rw[hx];simp only[Bool.not_true,cond_false,i1,i2,i3,i4,af];cases(gt (gt now.l (gt mv.l k).1.toNat).l (gt mv.l k).2.1.toNat !=(ae.oe (gt mv.l k)))with
    |true=>simp only[cond_true,oG hout,af,k_ (show k<9223372036854775807 by omega)]
    |false=>simp only[cond_false];cases(gt (gt old.l (gt mv.l k).1.toNat).l (gt mv.l k).2.1.toNat==(ae.oe (gt mv.l k)))with|true=>simp only[cond_true,oG hout,af,k_ (show k<9223372036854775807 by omega)]|false=>simp only[cond_false,hd,oG hout,af,k_ (show k<9223372036854775807 by omega)]
  .rw [e2,rE,List.append_assoc];congr 1
end
end Go.Proofs.YthcplpfiidlinaaDoor.J
