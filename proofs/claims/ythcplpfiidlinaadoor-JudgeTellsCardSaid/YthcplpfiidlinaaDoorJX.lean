/- Findings: extra moves; all that is to be moved. Conditions: lengths as stated. -/
import Derived.Test.YthcplpfiidlinaaDoorJY
open Go.Ev Go
open Bool renaming and_eq_true->ai
open Option renaming bind_some->ae
namespace Go.Proofs.YthcplpfiidlinaaDoor.J
def s7(t:af)(m:ah):Bool:=(((decide (m.1>=0))&&(decide (m.1<t.aU)))&&(decide (m.2.1>=0)))&&(decide (m.2.1<(t.aN.l.length:Int)))
def ko(t:af)(old now:Sl (Sl Int))(rd:List aj)(m:ah):Bool:=bif !(s7 t m)then true else bif(gt (gt now.l m.1.toNat).l m.2.1.toNat !=m.2.2.1)then true else bif(gt (gt old.l m.1.toNat).l m.2.1.toNat==m.2.2.1)then true else !(rd.any fun r=>mj r m)
def vc(t:af)(old now:Sl (Sl Int))(mv:List ah)(rd:List aj)(k n:Nat):List ak:=(List.range' k n).flatMap fun(k:Nat)=>bif ko t old now rd (gt mv k)then[(3,(k:Int),(gt mv k).2.1)]else[]
section
variable{t:af}{old now:Sl (Sl Int)}{mv:Sl ah}{rd:Sl aj}{a b c d:Int}{cF:Sl ak}
theorem Gf(hr:rd.l.length<9223372036854775808)(hrs:∀r∈rd.l,r.2.2.l.length<9223372036854775808)(hm:mv.l.length<=1000000)(h1:(now.l.length:Int)=t.aU)(h2:(old.l.length:Int)=t.aU)
  (hn:∀s,s<now.l.length->(gt now.l s).l.length=t.aN.l.length) (ho:∀s,s<old.l.length->(gt old.l s).l.length=t.aN.l.length):
  ∀(n k:Nat)(cF:Sl ak),k+n=mv.l.length->cF.l.length+n<1000000000->∃out',bc (eT mv) ((k:Int),t,old,now,mv,rd,a,b,c,d,cF)=some (t,old,now,mv,rd,a,b,c,d,out')/\out'.l=cF.l++vc t old now mv.l rd.l k n:=by
 intro n;induction n with
 |zero=>
  intro k cF hk hl;obtain rfl:k=mv.l.length:=by omega
  exact⟨cF,bC (by simp only[eT,gk,cond_false]),by simp[vc]⟩
 |succ n ih=>
  intro k cF hk hl;have hkl:k<mv.l.length:=by omega
  have hlen:(lk cF (ko t old now rd.l (gt mv.l k)) 3 (k:Int) (gt mv.l k).2.1).l.length<=cF.l.length+1:=by rw[mB];cases ko t old now rd.l (gt mv.l k)<;>simp
  obtain⟨o',e1,e2⟩:=ih (k+1) (lk cF (ko t old now rd.l (gt mv.l k)) 3 (k:Int) (gt mv.l k).2.1) (by omega) (by omega);refine⟨o',(bL ?_).trans e1,?_⟩
  .have hout:cF.l.length<2147483648:=by omega
   have hi:fx (⟨t,old,now,(⟨mv,rd,a,b,c,d⟩:am),cF⟩:bH) (gt mv.l k)=some (s7 t (gt mv.l k)):=rfl;have hd:eZ (⟨t,old,now,(⟨mv,rd,a,b,c,d⟩:am),cF⟩:bH) (gt mv.l k)=some (rd.l.any fun r=>mj r (gt mv.l k)):=Eh (x:=(⟨t,old,now,(⟨mv,rd,a,b,c,d⟩:am),cF⟩:bH)) hr hrs;simp only[eT,fz hkl,cond_true,bm hkl,ae,hi];cases hB:s7 t (gt mv.l k)with
   |false=>
    have hx:ko t old now rd.l (gt mv.l k)=true:=by unfold ko;rw[hB];rfl
    simp only[Bool.not_false,cond_true,oW hout,ae,hx,gB (show k<9223372036854775807 by omega)]
   |true=>
    unfold s7 at hB;simp only[ai,decide_eq_true_eq]at hB;obtain⟨⟨⟨b1,b2⟩,b3⟩,b4⟩:=hB;have hBt:s7 t (gt mv.l k)=true:=by unfold s7;simp only[ai,decide_eq_true_eq];exact⟨⟨⟨b1,b2⟩,b3⟩,b4⟩
    have s1:(gt mv.l k).1.toNat<now.l.length:=by omega
    have s2:(gt mv.l k).1.toNat<old.l.length:=by omega
    have i1:df (ah.Sw (gt mv.l k)) now.l.length=some (gt mv.l k).1.toNat:=fo.2 ⟨by show(gt mv.l k).1=_;omega,s1⟩;have i2:df (ah.jF (gt mv.l k)) (gt now.l (gt mv.l k).1.toNat).l.length=some (gt mv.l k).2.1.toNat:=fo.2 ⟨by show(gt mv.l k).2.1=_;omega,by rw[hn _ s1];omega⟩;have i3:df (ah.Sw (gt mv.l k)) old.l.length=some (gt mv.l k).1.toNat:=fo.2 ⟨by show(gt mv.l k).1=_;omega,s2⟩;have i4:df (ah.jF (gt mv.l k)) (gt old.l (gt mv.l k).1.toNat).l.length=some (gt mv.l k).2.1.toNat:=fo.2 ⟨by show(gt mv.l k).2.1=_;omega,by rw[ho _ s2];omega⟩;have hx:ko t old now rd.l (gt mv.l k)=bif(gt (gt now.l (gt mv.l k).1.toNat).l (gt mv.l k).2.1.toNat !=(ah.h_ (gt mv.l k)))then true else bif(gt (gt old.l (gt mv.l k).1.toNat).l (gt mv.l k).2.1.toNat==(ah.h_ (gt mv.l k)))then true else !(rd.l.any fun r=>mj r (gt mv.l k)):=by unfold ko;rw[hBt];rfl
    rw[hx];simp only[Bool.not_true,cond_false,i1,i2,i3,i4,ae];cases(gt (gt now.l (gt mv.l k).1.toNat).l (gt mv.l k).2.1.toNat !=(ah.h_ (gt mv.l k)))with
    |true=>simp only[cond_true,oW hout,ae,gB (show k<9223372036854775807 by omega)]
    |false=>simp only[cond_false];cases(gt (gt old.l (gt mv.l k).1.toNat).l (gt mv.l k).2.1.toNat==(ah.h_ (gt mv.l k)))with|true=>simp only[cond_true,oW hout,ae,gB (show k<9223372036854775807 by omega)]|false=>simp only[cond_false,hd,oW hout,ae,gB (show k<9223372036854775807 by omega)]
  .rw [e2,mB,List.append_assoc];congr 1
end
end Go.Proofs.YthcplpfiidlinaaDoor.J
