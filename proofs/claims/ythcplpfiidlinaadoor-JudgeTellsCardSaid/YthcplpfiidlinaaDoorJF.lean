/- JudgeTells: the law's bG steps. Conditions: as stated. -/
import Derived.Test.YthcplpfiidlinaaDoorJE
import Derived.Test.YthcplpfiidlinaaDoorJt
open Go.Ev Go
noncomputable section
open Bool renaming and_eq_true->ai
open List renaming length_append->ap,length_singleton->aW,length_take->d_,nil_append->bw
open Option renaming bind_some->ae
namespace Go.Proofs.YthcplpfiidlinaaDoor.J
def vj(t:af)(old now:Sl (Sl Int))(p:am):Prop:=(∀r∈p.az.l,r.2.2.l.length<=20)/\o5 t old/\o5 t now/\p.aJ.l.length<=40/\p.az.l.length<=12
instance(t:af)(old now:Sl (Sl Int))(p:am):Decidable (vj t old now p):=Classical.propDecidable _
section
variable{t:af}{old now:Sl (Sl Int)}{p:am}
theorem CV(ho:old.l.length<9223372036854775808)(hn:now.l.length<9223372036854775808)(hp:p.az.l.length<9223372036854775808):oR t old now p=some (decide (vj t old now p)):=by
 have h:=Av (f:=nf p) p.az.l (fun r=>decide ((r.2.2.l.length:Int)>20)) hp (fun i hi=>by simp only[nf,fz hi,cond_true,bm hi,ae];show(bif decide (((gt p.az.l i).2.2.l.length:Int)>20)then _ else _)=_;cases decide (((gt p.az.l i).2.2.l.length:Int)>20)<;>rfl) (by simp only[nf,gk,cond_false]);by_cases h1:∀r∈p.az.l,r.2.2.l.length<=20
 .rw [if_pos (fun r hr=>by rw[decide_eq_false_iff_not];have:=h1 r hr;omega)]at h;simp only[oR,h,ae,yv ho,yv hn];by_cases h2:o5 t old
  .rw [decide_eq_true h2,cond_true];have e:((decide (o5 t now)&&decide (((am.aJ p).l.length:Int)<=40))&&decide (((am.az p).l.length:Int)<=12))=decide (vj t old now p):=by rw[Bool.eq_iff_iff,ai,ai,decide_eq_true_eq,decide_eq_true_eq,decide_eq_true_eq,decide_eq_true_eq];unfold vj;exact⟨fun⟨⟨a,b⟩,c⟩=>⟨h1,h2,a,by omega,by omega⟩,fun⟨_,_,a,b,c⟩=>⟨⟨a,by omega⟩,by omega⟩⟩
   rw[e];rfl
  .rw [decide_eq_false h2,cond_false,decide_eq_false (fun q:vj t old now p=>h2 q.2.1)];rfl
 .have hq:¬∀r∈p.az.l,decide ((r.2.2.l.length:Int)>20)=false:=fun q=>h1 fun r hr=>by have:=q r hr;rw[decide_eq_false_iff_not]at this;omega
  rw[if_neg hq]at h;rw[decide_eq_false (fun q:vj t old now p=>h1 q.1)];simp only[oR,h,ae]
theorem FS{l:Sl aZ}(hb:l.l.length<=1000):∃s,sq l=some s/\s.l=l.l:=by
 obtain⟨s,e1,e2⟩:=KG (f:=oA l) l.l (fun m=>[(m:ah)]) .nil (by omega) (fun i s hi hs=>by
  have hsl:s.l.length<=1000:=by rw[hs,Sl.DU,bw];have:=iv (m:=1) (f:=fun m:aZ=>[(m:ah)]) (fun m=>by simp) (l.l.take i);rw[d_]at this;omega
  have hcap:fF (s.l++[(gt l.l i:ah)])=some (s.l++[(gt l.l i:ah)]):=fR (by rw[ap,aW];omega);refine⟨.mk (s.l++[(gt l.l i:ah)]),?_,rfl⟩;simp only[oA,fz hi,cond_true,bm hi,ae];show((fF (s.l++[(gt l.l i:ah)])).bind _)=_;rw[hcap];rfl) (fun s=>by simp only[oA,gk,cond_false])
 exact⟨s,by simp only[sq,e1,ae],by rw[e2,Sl.DU,bw];simp⟩
theorem DM(hR:p.az.l.length<=1000){a:Sl ah}{b c d e:Int}:∀(n i:Nat)(s:Sl aj),i+n=p.az.l.length->s.l=p.az.l.take i->∃s',bc (me p) ((i:Int),a,b,c,d,e,s)=some (a,b,c,d,e,s')/\s'.l=p.az.l:=by
 intro n;induction n with
 |zero=>
  intro i s hi hs;obtain rfl:i=p.az.l.length:=by omega
  exact⟨s,bC (by simp only[me,gk,cond_false]),by rw[hs,List.take_length]⟩
 |succ n ih=>
  intro i s hi hs;have hil:i<p.az.l.length:=by omega
  have hcap:fF (s.l++[(gt p.az.l i:aj)])=some (s.l++[(gt p.az.l i:aj)]):=fR (by rw[hs,ap,aW,d_];omega);obtain⟨s',e1,e2⟩:=ih (i+1) (.mk (s.l++[(gt p.az.l i:aj)])) (by omega) (by rw[Sl.lp,hs,dV hil,List.take_append_getElem hil]);refine⟨s',(bL ?_).trans e1,e2⟩;simp only[me,fz hil,cond_true,bm hil,ae];show((fF (s.l++[(gt p.az.l i:aj)])).bind _)=_;rw[hcap,gB (show i<9223372036854775807 by omega)];rfl
theorem Kr(hm:p.aJ.l.length<=1000)(hR:p.az.l.length<=1000):∃q:bB,sj p=some q/\q.aJ.l=p.aJ.l/\q.az.l=p.az.l/\q.j4=p.j4:=by obtain⟨s,e1,e2⟩:=FS (l:=p.aJ) hm;obtain⟨s',f1,f2⟩:=DM (p:=p) hR (a:=s) (b:=p.j4) (c:=p.EK) (d:=p.mV) (e:=p.To) p.az.l.length 0 .nil (by omega) (by simp);have f1:bc (me p) (0,s,am.j4 p,am.EK p,am.mV p,am.To p,Sl.nil)=_:=f1;exact⟨(s,s',p.j4,p.EK,p.mV,p.To),by simp only[sj,e1,ae,f1],e2,f2,rfl⟩
theorem Gw{q:bB}(h1:q.aJ.l=p.aJ.l)(h2:q.az.l=p.az.l)(h3:q.j4=p.j4):zL t old now q=zL t old now p:=by have e1:bB.aJ p=am.aJ p:=rfl;have e2:bB.az p=am.az p:=rfl;have e3:bB.j4 p=am.j4 p:=rfl;unfold zL;rw[h1,h2,h3]
theorem KC{a:Sl ak}{b:Sl aL}(h:a.l=b.l)(hb:b.l.length<9223372036854775807):sn a b=some true:=by
 have h1:=Av (f:=oz a b) a.l (fun _=>false) (by rw[h];omega) (fun i hi=>by
  have hi2:i<b.l.length:=by rw[<-h];exact hi
  have e:gt a.l i=gt b.l i:=by rw[h]
  have c1:(ak.L1 (gt a.l i) !=aL.L1 (gt b.l i))=false:=by rw[e];exact bne_self_eq_false _
  have c2:(ak.K (gt a.l i) !=aL.K (gt b.l i))=false:=by rw[e];exact bne_self_eq_false _
  have c3:(ak.H (gt a.l i) !=aL.H (gt b.l i))=false:=by rw[e];exact bne_self_eq_false _
  simp only[oz,fz hi,cond_true,bm hi,bm hi2,ae,c1,c2,c3,cond_false]) (by simp only[oz,gk,cond_false])
 rw[if_pos (fun _ _=>rfl)]at h1;have hl:((a.l.length:Int) !=(b.l.length:Int))=false:=by rw[h];exact bne_self_eq_false _
 simp only[sn,hl,cond_false,h1,ae]
theorem Ki(k:Int):∃a b,mC k=some a/\p_ k=some b/\(a.toList==b.toList)=true:=by
 by_cases h1:k<1
 .exact ⟨⟨#[63]⟩,⟨#[63]⟩,by simp only[mC,decide_eq_true h1,Bool.true_or,cond_true],by simp only[p_,decide_eq_true h1,Bool.true_or,cond_true],by rw[beq_self_eq_true]⟩
 .by_cases h2:k>6
  .exact ⟨⟨#[63]⟩,⟨#[63]⟩,by simp only[mC,decide_eq_true h2,Bool.or_true,cond_true],by simp only[p_,decide_eq_true h2,Bool.or_true,cond_true],by rw[beq_self_eq_true]⟩
  .have:k=1\/k=2\/k=3\/k=4\/k=5\/k=6:=by omega
   rcases this with rfl|rfl|rfl|rfl|rfl|rfl
   all_goals exact⟨_,_,rfl,rfl,by rw[beq_iff_eq];rfl⟩
theorem HH(t:af)(old now:Sl (Sl Int))(p:am)(kind:Int)(ho:old.l.length<9223372036854775808)(hn:now.l.length<9223372036854775808)(hp:p.az.l.length<9223372036854775808):nX t old now p kind=some true:=by
 unfold nX;rw[CV ho hn hp];simp only[ae];by_cases hS:vj t old now p
 .rw [decide_eq_true hS,Bool.not_true,cond_false];obtain⟨s1,s2,s3,s4,s5⟩:=hS;obtain⟨q,q1,q2,q3,q4⟩:=Kr (p:=p) (by omega) (by omega);obtain⟨a,a1,a2⟩:=I5 (t:=t) (old:=old) (now:=now) (p:=q) s2 s3 (by rw[q2];omega) (by rw[q3];exact s5) (fun r hr=>s1 r (by rw[<-q3];exact hr));obtain⟨b,b1,b2,b3⟩:=Fx (t:=t) (old:=old) (now:=now) (p:=p) s2 s3 s4 s5 s1;rw[Gw q2 q3 q4,<-b2]at a2;obtain⟨x,y,n1,n2,n3⟩:=Ki kind;simp only[q1,a1,b1,KC a2 (show b.l.length<9223372036854775807 by omega),ae,cond_true,n1,n2,n3,rx]
 .rw [decide_eq_false hS,Bool.not_false,cond_true,rx];rfl
end
end Go.Proofs.YthcplpfiidlinaaDoor.J
