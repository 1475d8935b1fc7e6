/- Findings: the ports that a packet may meet, the edges among them. Conditions: lengths as stated. -/
import Derived.Test.YthcplpfiidlinaaDoorJX
open Go.Ev Go
open List renaming append_assoc->aJ,length_append->aF,length_singleton->bD,range'->dX
open Option renaming bind_some->ae
namespace Go.Proofs.YthcplpfiidlinaaDoor.J
def qf(t:ah)(h:Nat)(sw p:Int):Bool:=!(jA t sw p).2.2.2&&!(decide (gt t.a_.l h=((sw,p):fH)))
def qm(t:ah)(sw p:Int):List aO:=bif(jA t sw p).2.2.2 then[(sw,(jA t sw p).1)]else[]
theorem Er{t:ah}{P:Sl (Sl Int)}{h s:Nat}(hb:t.bT.l.length<9223372036854775808)(hh:h<t.a_.l.length)(hP:(gt P.l s).l.length<=1000000):
  ∀(n j:Nat)(b:Bool)(es:Sl aO),j+n=(gt P.l s).l.length->es.l.length+n<1000000000->∃es',br (dW t P (h:Int) (s:Int) s) (b,(j:Int),es)=some (b||((gt P.l s).l.drop j).any (qf t h (s:Int)),es')/\es'.l=es.l++((gt P.l s).l.drop j).flatMap (qm t (s:Int)):=by
 intro n;induction n with
 |zero=>
  intro j b es hj ho;obtain rfl:j=(gt P.l s).l.length:=by omega
  exact⟨es,ci (by simp only[dW,j4,cond_false,List.drop_length,List.any_nil,Bool.or_false]),by simp⟩
 |succ n ih=>
  intro j b es hj ho;have hjl:j<(gt P.l s).l.length:=by omega
  have e:(gt P.l s).l.drop j=gt (gt P.l s).l j::(gt P.l s).l.drop (j+1):=by rw[eA hjl];exact List.drop_eq_getElem_cons hjl
  have hp:=zw (t:=t) (s:Int) (gt (gt P.l s).l j) hb;have ih1:e_ (h:Int) ((ah.a_ t).l).length=some h:=bI hh;rw[e,List.any_cons,List.flatMap_cons];cases hk:(jA t (s:Int) (gt (gt P.l s).l j)).2.2.2 with
  |true=>
   have hE:qm t (s:Int) (gt (gt P.l s).l j)=[((s:Int),(jA t (s:Int) (gt (gt P.l s).l j)).1)]:=by unfold qm;rw[hk];rfl
   have hH:qf t h (s:Int) (gt (gt P.l s).l j)=false:=by unfold qf;rw[hk];rfl
   obtain⟨es',e1,e2⟩:=ih (j+1) b (.mk (es.l++[((s:Int),(jA t (s:Int) (gt (gt P.l s).l j)).1)])) (by omega) (by rw[Sl.kT,aF,bD];omega);refine⟨es',?_,by rw[e2,Sl.kT,hE,aJ]⟩;rw[hH,Bool.false_or];refine(cG ?_).trans e1;have hcap:h_ (es.l++[(((s:Int),(jA t (s:Int) (gt (gt P.l s).l j)).1):aO)])=some _:=js (by rw[aF,bD];omega);simp only[dW,jm hjl,cond_true,bI hjl,ae,hp,hk,hcap,kz (show j<9223372036854775807 by omega)]
  |false=>
   have hE:qm t (s:Int) (gt (gt P.l s).l j)=[]:=by unfold qm;rw[hk];rfl
   have hH:qf t h (s:Int) (gt (gt P.l s).l j)=!(decide (gt t.a_.l h=(((s:Int),gt (gt P.l s).l j):fH))):=by unfold qf;rw[hk];rfl
   obtain⟨es',e1,e2⟩:=ih (j+1) (b||!(decide (gt t.a_.l h=(((s:Int),gt (gt P.l s).l j):fH)))) es (by omega) (by omega);refine⟨es',?_,by rw[e2,hE,List.nil_append]⟩;rw[hH,<-Bool.or_assoc];refine(cG ?_).trans e1;simp only[dW,jm hjl,cond_true,bI hjl,ae,hp,hk,cond_false,ih1,kz (show j<9223372036854775807 by omega)];cases decide (gt t.a_.l h=(((s:Int),gt (gt P.l s).l j):fH))<;>cases b<;>rfl
def mP(t:ah)(h:Nat)(P:List (Sl Int))(s n:Nat):Bool:=(dX s n).any fun(s:Nat)=>(gt P s).l.any (qf t h (s:Int))
def rR(t:ah)(P:List (Sl Int))(s n:Nat):List aO:=(dX s n).flatMap fun(s:Nat)=>(gt P s).l.flatMap (qm t (s:Int))
theorem CK{t:ah}{sw p:Int}:(qm t sw p).length<=1:=by unfold qm;cases(jA t sw p).2.2.2<;>simp
theorem Ep{t:ah}{P:Sl (Sl Int)}{h:Nat}(hb:t.bT.l.length<9223372036854775808)(hh:h<t.a_.l.length)(hP:∀s,s<P.l.length->(gt P.l s).l.length<=1000)(hn:P.l.length<=1000):
  ∀(n s:Nat)(b:Bool)(es:Sl aO),s+n=P.l.length->es.l.length+1000*n<1000000000->∃es',br (fc t P (h:Int)) (b,(s:Int),es)=some (b||mP t h P.l s n,es')/\es'.l=es.l++rR t P.l s n:=by
 intro n;induction n with
 |zero=>
  intro s b es hs ho;obtain rfl:s=P.l.length:=by omega
  exact⟨es,ci (by simp only[fc,j4,cond_false,mP,List.range'_zero,List.any_nil,Bool.or_false]),by simp[rR]⟩
 |succ n ih=>
  intro s b es hs ho;have hsl:s<P.l.length:=by omega
  have hp:=hP s hsl;obtain⟨e1,f1,f2⟩:=Er (b:=b) (es:=es) hb hh (show(gt P.l s).l.length<=1000000 by omega) (gt P.l s).l.length 0 (by omega) (by omega);rw[List.drop_zero]at f1 f2;have f1:br (dW t P (h:Int) (s:Int) s) (b,0,es)=_:=f1;have hl:e1.l.length<=es.l.length+1000:=by rw[f2,aF];have:=j5 (m:=1) (f:=qm t (s:Int)) (fun p=>CK) (gt P.l s).l;omega
  obtain⟨es',g1,g2⟩:=ih (s+1) (b||(gt P.l s).l.any (qf t h (s:Int))) e1 (by omega) (by omega);refine⟨es',?_,?_⟩
  .have hx:(b||mP t h P.l s (n+1))=((b||(gt P.l s).l.any (qf t h (s:Int)))||mP t h P.l (s+1) n):=by unfold mP;rw[List.range'_succ,List.any_cons,Bool.or_assoc]
   rw[hx];refine(cG ?_).trans g1;simp only[fc,jm hsl,cond_true,bI hsl,ae,f1,kz (show s<9223372036854775807 by omega)]
  .rw [g2,f2,aJ];congr 1
end Go.Proofs.YthcplpfiidlinaaDoor.J
