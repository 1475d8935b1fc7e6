/- JudgeTells: the law's bv steps. Conditions: as stated. -/
import Derived.Test.YthcplpfiidlinaaDoorJE
import Derived.Test.YthcplpfiidlinaaDoorJt
open Go.Ev Go
noncomputable section
open Bool renaming and_eq_true->ai
open List renaming length_append->aF,length_singleton->bD,length_take->dM,nil_append->bp
open Option renaming bind_some->ae
namespace Go.Proofs.YthcplpfiidlinaaDoor.J
def tY(t:ah)(old now:Sl (Sl Int))(p:aE):Prop:=(∀r∈p.bc.l,r.2.2.l.length<=20)/\rg t old/\rg t now/\p.cZ.l.length<=40/\p.bc.l.length<=12
instance(t:ah)(old now:Sl (Sl Int))(p:aE):Decidable (tY t old now p):=Classical.propDecidable _
section
variable{t:ah}{old now:Sl (Sl Int)}{p:aE}
theorem Bx(ho:old.l.length<9223372036854775808)(hn:now.l.length<9223372036854775808)(hp:p.bc.l.length<9223372036854775808):nr t old now p=some (decide (tY t old now p)):=by
 have h:=Ml (f:=l8 p) p.bc.l (fun r=>decide ((r.2.2.l.length:Int)>20)) hp (fun i hi=>by simp only[l8,jm hi,cond_true,bI hi,ae];show(bif decide (((gt p.bc.l i).2.2.l.length:Int)>20)then _ else _)=_;cases decide (((gt p.bc.l i).2.2.l.length:Int)>20)<;>rfl) (by simp only[l8,j4,cond_false]);by_cases h1:∀r∈p.bc.l,r.2.2.l.length<=20
 .rw [if_pos (fun r hr=>by rw[decide_eq_false_iff_not];have:=h1 r hr;omega)]at h;simp only[nr,h,ae,wX ho,wX hn];by_cases h2:rg t old
  .rw [decide_eq_true h2,cond_true];have e:((decide (rg t now)&&decide (((aE.cZ p).l.length:Int)<=40))&&decide (((aE.bc p).l.length:Int)<=12))=decide (tY t old now p):=by rw[Bool.eq_iff_iff,ai,ai,decide_eq_true_eq,decide_eq_true_eq,decide_eq_true_eq,decide_eq_true_eq];unfold tY;exact⟨fun⟨⟨a,b⟩,c⟩=>⟨h1,h2,a,by omega,by omega⟩,fun⟨_,_,a,b,c⟩=>⟨⟨a,by omega⟩,by omega⟩⟩
   rw[e];rfl
  .rw [decide_eq_false h2,cond_false,decide_eq_false (fun q:tY t old now p=>h2 q.2.1)];rfl
 .have hq:¬∀r∈p.bc.l,decide ((r.2.2.l.length:Int)>20)=false:=fun q=>h1 fun r hr=>by have:=q r hr;rw[decide_eq_false_iff_not]at this;omega
  rw[if_neg hq]at h;rw[decide_eq_false (fun q:tY t old now p=>h1 q.1)];simp only[nr,h,ae]
theorem Eb{l:Sl cn}(hb:l.l.length<=1000):∃s,qM l=some s/\s.l=l.l:=by
 obtain⟨s,e1,e2⟩:=Jd (f:=mZ l) l.l (fun m=>[(m:af)]) .nil (by omega) (fun i s hi hs=>by
  have hsl:s.l.length<=1000:=by rw[hs,Sl.Jf,bp];have:=j5 (m:=1) (f:=fun m:cn=>[(m:af)]) (fun m=>by simp) (l.l.take i);rw[dM]at this;omega
  have hcap:h_ (s.l++[(gt l.l i:af)])=some (s.l++[(gt l.l i:af)]):=js (by rw[aF,bD];omega);refine⟨.mk (s.l++[(gt l.l i:af)]),?_,rfl⟩;simp only[mZ,jm hi,cond_true,bI hi,ae];show((h_ (s.l++[(gt l.l i:af)])).bind _)=_;rw[hcap];rfl) (fun s=>by simp only[mZ,j4,cond_false])
 exact⟨s,by simp only[qM,e1,ae],by rw[e2,Sl.Jf,bp];simp⟩
theorem Ci(hR:p.bc.l.length<=1000){a:Sl af}{b c d e:Int}:∀(n i:Nat)(s:Sl aj),i+n=p.bc.l.length->s.l=p.bc.l.take i->∃s',br (ll p) ((i:Int),a,b,c,d,e,s)=some (a,b,c,d,e,s')/\s'.l=p.bc.l:=by
 intro n;induction n with
 |zero=>
  intro i s hi hs;obtain rfl:i=p.bc.l.length:=by omega
  exact⟨s,ci (by simp only[ll,j4,cond_false]),by rw[hs,List.take_length]⟩
 |succ n ih=>
  intro i s hi hs;have hil:i<p.bc.l.length:=by omega
  have hcap:h_ (s.l++[(gt p.bc.l i:aj)])=some (s.l++[(gt p.bc.l i:aj)]):=js (by rw[hs,aF,bD,dM];omega);obtain⟨s',e1,e2⟩:=ih (i+1) (.mk (s.l++[(gt p.bc.l i:aj)])) (by omega) (by rw[Sl.kT,hs,eA hil,List.take_append_getElem hil]);refine⟨s',(cG ?_).trans e1,e2⟩;simp only[ll,jm hil,cond_true,bI hil,ae];show((h_ (s.l++[(gt p.bc.l i:aj)])).bind _)=_;rw[hcap,kz (show i<9223372036854775807 by omega)];rfl
theorem I0(hm:p.cZ.l.length<=1000)(hR:p.bc.l.length<=1000):∃q:bn,qL p=some q/\q.cZ.l=p.cZ.l/\q.bc.l=p.bc.l/\q.tZ=p.tZ:=by obtain⟨s,e1,e2⟩:=Eb (l:=p.cZ) hm;obtain⟨s',f1,f2⟩:=Ci (p:=p) hR (a:=s) (b:=p.tZ) (c:=p.Dd) (d:=p.oz) (e:=p.To) p.bc.l.length 0 .nil (by omega) (by simp);have f1:br (ll p) (0,s,aE.tZ p,aE.Dd p,aE.oz p,aE.To p,Sl.nil)=_:=f1;exact⟨(s,s',p.tZ,p.Dd,p.oz,p.To),by simp only[qL,e1,ae,f1],e2,f2,rfl⟩
theorem EV{q:bn}(h1:q.cZ.l=p.cZ.l)(h2:q.bc.l=p.bc.l)(h3:q.tZ=p.tZ):yi t old now q=yi t old now p:=by have e1:bn.cZ p=aE.cZ p:=rfl;have e2:bn.bc p=aE.bc p:=rfl;have e3:bn.tZ p=aE.tZ p:=rfl;unfold yi;rw[h1,h2,h3]
end
end Go.Proofs.YthcplpfiidlinaaDoor.J
