/- Findings: the reference's ports, and all that its Check notes. Conditions: lengths as stated. -/
import Derived.Test.YthcplpfiidlinaaDoorJD
open Go.Ev Go
open Option renaming bind_some->ae
namespace Go.Proofs.YthcplpfiidlinaaDoor.J
def rN(r:aj)(s h:Nat)(m:af):Bool:=bif m.1==(s:Int)then(bif m.2.1==(h:Int)then nH r m else false)else false
theorem uz{t:ah}{m:af}:sV t m=true<->(0<=m.1/\m.1<t.bh)/\0<=m.2.1/\m.2.1<(t.a_.l.length:Int):=by unfold sV;simp only[Bool.and_eq_true,decide_eq_true_eq];exact⟨fun⟨⟨⟨a,b⟩,c⟩,d⟩=>⟨⟨a,b⟩,c,d⟩,fun⟨⟨a,b⟩,c,d⟩=>⟨⟨⟨a,b⟩,c⟩,d⟩⟩
theorem CS{t:ah}{r:aj}{m:af}(h:lq t r m=true):sV t m=true/\nH r m=true:=by unfold lq at h;cases hB:sV t m with|true=>rw[hB]at h;exact⟨rfl,h⟩|false=>rw[hB]at h;cases h
theorem AG{r:aj}{s h:Nat}{m:af}(hn:¬(m.1=(s:Int)/\m.2.1=(h:Int))):rN r s h m=false:=by
 unfold rN;by_cases h1:m.1=(s:Int)
 .have h2:¬m.2.1=(h:Int):=fun h2=>hn ⟨h1,h2⟩;rw[beq_false_of_ne h2];cases m.1==(s:Int)<;>rfl
 .rw [beq_false_of_ne h1];rfl
theorem uC{r:aj}{s h:Nat}{m:af}(h1:m.1=(s:Int))(h2:m.2.1=(h:Int)):rN r s h m=nH r m:=by unfold rN;rw[h1,h2,beq_self_eq_true,beq_self_eq_true];rfl
theorem Jy{r:aj}{s h:Nat}{m:af}:rN r s h m=true<->(m.1=(s:Int)/\m.2.1=(h:Int))/\nH r m=true:=by
 by_cases hn:m.1=(s:Int)/\m.2.1=(h:Int)
 .rw [uC hn.1 hn.2];exact⟨fun x=>⟨hn,x⟩,fun x=>x.2⟩
 .rw [AG hn];exact⟨fun x=>absurd x Bool.false_ne_true,fun x=>absurd x.1 hn⟩
section
variable{t:ah}{old now:Sl (Sl Int)}{p:aE}
theorem FF{r:aj}{A:List (Sl Int)}{s h:Nat}{m:af}(hs:s<A.length)(hA:(A.length:Int)=t.bh)(hh:h<t.a_.l.length)(hr:(gt A s).l.length=t.a_.l.length):
  gt (gt (vp t r A m) s).l h=bif rN r s h m then m.2.2.1 else gt (gt A s).l h:=by
 by_cases hn:m.1=(s:Int)/\m.2.1=(h:Int)
 .have hB:sV t m=true:=uz.2 ⟨⟨by omega,by omega⟩,by omega,by omega⟩;have e1:m.1.toNat=s:=by omega
  have e2:m.2.1.toNat=h:=by omega
  rw[uC hn.1 hn.2];unfold vp lq;rw[hB,cond_true,e1,e2];cases nH r m with|false=>rfl|true=>rw[cond_true,cond_true,m7,if_pos ⟨rfl,hs⟩,Sl.kT,m7,if_pos ⟨rfl,by omega⟩]
 .rw [AG hn,cond_false];unfold vp;cases hd:lq t r m with
  |false=>rfl
  |true=>
   obtain⟨⟨b1,b2⟩,b3,b4⟩:=uz.1 (CS hd).1;rw[cond_true,m7];split
   .rename_i h1;rw[Sl.kT,m7,if_neg (by omega),h1.1]
   .rfl
theorem Mm{r:aj}{P:List (Sl Int)}{s h:Nat}{m:af}(hs:s<P.length)(hA:(P.length:Int)=t.bh)(hh:h<t.a_.l.length):
  (gt (vN t r h P m) s).l=bif rN r s h m then(gt P s).l++[m.2.2.1]else(gt P s).l:=by
 by_cases hn:m.1=(s:Int)/\m.2.1=(h:Int)
 .have hB:sV t m=true:=uz.2 ⟨⟨by omega,by omega⟩,by omega,by omega⟩;have e1:m.1.toNat=s:=by omega
  rw[uC hn.1 hn.2];unfold vN lq;rw[hB,cond_true,e1,hn.2,beq_self_eq_true,cond_true];cases nH r m with|false=>rfl|true=>rw[cond_true,cond_true,m7,if_pos ⟨rfl,hs⟩,Sl.kT]
 .rw [AG hn,cond_false];unfold vN;cases hq:m.2.1==(h:Int)with
  |false=>rfl
  |true=>rw[cond_true];cases hd:lq t r m with|false=>rfl|true=>obtain⟨⟨b1,b2⟩,b3,b4⟩:=uz.1 (CS hd).1;have h2:m.2.1=(h:Int):=eq_of_beq hq;rw[cond_true,m7,if_neg (by omega)]
theorem Gr{k s h:Nat}(hk:k<p.bc.l.length)(hb:∀r∈p.bc.l,r.2.2.l.length<1000000)(hm:p.cZ.l.length<=1000000)(hh:h<t.a_.l.length):
  ∀(n j:Nat)(A:List (Sl Int)),j+n=p.cZ.l.length->(A.length:Int)=t.bh->s<A.length->(gt A s).l.length=t.a_.l.length->
   br (ng p (s:Int) (h:Int) (k:Int)) (gt (gt A s).l h,(j:Int))=some (gt (gt (HL t (gt p.bc.l k) (p.cZ.l.drop j) A) s).l h):=by
 intro n;induction n with
 |zero=>
  intro j A hj hA hs hr;obtain rfl:j=p.cZ.l.length:=by omega
  exact ci (by simp only[ng,j4,cond_false,List.drop_length];rfl)
 |succ n ih=>
  intro j A hj hA hs hr;have hjl:j<p.cZ.l.length:=by omega
  have e:p.cZ.l.drop j=gt p.cZ.l j::p.cZ.l.drop (j+1):=by rw[eA hjl];exact List.drop_eq_getElem_cons hjl
  rw[e];have hd:=Gp (m:=gt p.cZ.l j) hk (hb _ (by rw[eA hk];exact List.getElem_mem _));have hc:(bif((cn.Sw (gt p.cZ.l j))==(s:Int))then(bif((cn.mr (gt p.cZ.l j))==(h:Int))then(some (nH (gt p.bc.l k) (gt p.cZ.l j)):Option Bool)else some false)else some false)=some (rN (gt p.bc.l k) s h (gt p.cZ.l j)):=by unfold rN;show(bif((gt p.cZ.l j).1==(s:Int))then(bif((gt p.cZ.l j).2.1==(h:Int))then _ else _)else _)=_;cases((gt p.cZ.l j).1==(s:Int))<;>cases((gt p.cZ.l j).2.1==(h:Int))<;>rfl
  refine(cG ?_).trans (ih (j+1) (vp t (gt p.bc.l k) A (gt p.cZ.l j)) (by omega) (by rw[oS];exact hA) (by rw[oS];exact hs) (by rw[ux];exact hr));rw[FF hs hA hh hr];simp only[ng,jm hjl,cond_true,bI hjl,ae,hd,hc,kz (show j<9223372036854775807 by omega)];cases rN (gt p.bc.l k) s h (gt p.cZ.l j)<;>rfl
theorem Gq{k s h:Nat}(hk:k<=p.bc.l.length)(hR:p.bc.l.length<=1000)(hb:∀r∈p.bc.l,r.2.2.l.length<1000000)(hm:p.cZ.l.length<=1000000)(hh:h<t.a_.l.length){A:List (Sl Int)}(hA:(A.length:Int)=t.bh)(hs:s<A.length)(hr:(gt A s).l.length=t.a_.l.length):
  ∀(n i:Nat),i+n=k->br (nf p (k:Int) (s:Int) (h:Int)) (gt (gt (uQ t p.bc.l p.cZ.l A i) s).l h,(i:Int))=some (gt (gt (uQ t p.bc.l p.cZ.l A k) s).l h):=by
 intro n;induction n with
 |zero=>
  intro i hi;obtain rfl:i=k:=by omega
  exact ci (by simp only[nf,j4,cond_false])
 |succ n ih=>
  intro i hi;have hik:i<k:=by omega
  have h1:=Gr (t:=t) (p:=p) (k:=i) (s:=s) (h:=h) (by omega) hb hm hh p.cZ.l.length 0 (uQ t p.bc.l p.cZ.l A i) (by omega) (by rw[ml];exact hA) (by rw[ml];exact hs) (by rw[uJ];exact hr);rw[List.drop_zero,<-uI (by omega)]at h1;refine(cG ?_).trans (ih (i+1) (by omega));have h1:br (ng p (s:Int) (h:Int) (i:Int)) (gt (gt (uQ t p.bc.l p.cZ.l A i) s).l h,0)=_:=h1;simp only[nf,jm hik,cond_true,h1,ae,kz (show i<9223372036854775807 by omega)]
theorem Fk{k s h:Nat}(hk:k<=p.bc.l.length)(hR:p.bc.l.length<=1000)(hb:∀r∈p.bc.l,r.2.2.l.length<1000000)(hm:p.cZ.l.length<=1000000)(hh:h<t.a_.l.length)(hA:(old.l.length:Int)=t.bh)(hs:s<old.l.length)(hr:(gt old.l s).l.length=t.a_.l.length):
  rE old p (k:Int) (s:Int) (h:Int)=some (gt (gt (uQ t p.bc.l p.cZ.l old.l k) s).l h):=by
 have h1:=Gq (t:=t) (p:=p) (A:=old.l) hk hR hb hm hh hA hs hr k 0 (by omega);have h1:br (nf p (k:Int) (s:Int) (h:Int)) (gt (gt old.l s).l h,0)=_:=h1;simp only[rE,bI hs,bI (show h<(gt old.l s).l.length by omega),ae,h1]
end
end Go.Proofs.YthcplpfiidlinaaDoor.J
