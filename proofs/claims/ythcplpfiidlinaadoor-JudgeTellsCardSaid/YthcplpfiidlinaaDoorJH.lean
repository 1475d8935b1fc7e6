/- Findings: the ports that a packet may meet, the edges among them. Conditions: lengths as stated. -/
import Derived.Test.YthcplpfiidlinaaDoorJX
open Go.Ev Go
open Bool renaming or_false->mr
open List renaming any_cons->mq,append_assoc->aH,length_append->ap,length_singleton->aW,range'->dh
open Option renaming bind_some->ae
namespace Go.Proofs.YthcplpfiidlinaaDoor.J
def qe(t:af)(h:Nat)(sw p:Int):Bool:=!(jb t sw p).2.2.2&&!(decide (gt t.aN.l h=((sw,p):cW)))
def nG(t:af)(sw p:Int):List aS:=bif(jb t sw p).2.2.2 then[(sw,(jb t sw p).1)]else[]
theorem F6{t:af}{P:Sl (Sl Int)}{h s:Nat}(hb:t.aY.l.length<9223372036854775808)(hh:h<t.aN.l.length)(hP:(gt P.l s).l.length<=1000000):
  ∀(n j:Nat)(b:Bool)(es:Sl aS),j+n=(gt P.l s).l.length->es.l.length+n<1000000000->∃es',bc (ez t P (h:Int) (s:Int) s) (b,(j:Int),es)=some (b||((gt P.l s).l.drop j).any (qe t h (s:Int)),es')/\es'.l=es.l++((gt P.l s).l.drop j).flatMap (nG t (s:Int)):=by
 intro n;induction n with
 |zero=>
  intro j b es hj ho;obtain rfl:j=(gt P.l s).l.length:=by omega
  exact⟨es,bC (by simp only[ez,gk,cond_false,List.drop_length,List.any_nil,mr]),by simp⟩
 |succ n ih=>
  intro j b es hj ho;have hjl:j<(gt P.l s).l.length:=by omega
  have e:(gt P.l s).l.drop j=gt (gt P.l s).l j::(gt P.l s).l.drop (j+1):=by rw[dV hjl];exact List.drop_eq_getElem_cons hjl
  have hp:=AU (t:=t) (s:Int) (gt (gt P.l s).l j) hb;have ih1:df (h:Int) ((af.aN t).l).length=some h:=bm hh;rw[e,mq,List.flatMap_cons];cases hk:(jb t (s:Int) (gt (gt P.l s).l j)).2.2.2 with
  |true=>
   have hE:nG t (s:Int) (gt (gt P.l s).l j)=[((s:Int),(jb t (s:Int) (gt (gt P.l s).l j)).1)]:=by unfold nG;rw[hk];rfl
   have hH:qe t h (s:Int) (gt (gt P.l s).l j)=false:=by unfold qe;rw[hk];rfl
   obtain⟨es',e1,e2⟩:=ih (j+1) b (.mk (es.l++[((s:Int),(jb t (s:Int) (gt (gt P.l s).l j)).1)])) (by omega) (by rw[Sl.lp,ap,aW];omega);refine⟨es',?_,by rw[e2,Sl.lp,hE,aH]⟩;rw[hH,Bool.false_or];refine(bL ?_).trans e1;have hcap:fF (es.l++[(((s:Int),(jb t (s:Int) (gt (gt P.l s).l j)).1):aS)])=some _:=fR (by rw[ap,aW];omega);simp only[ez,fz hjl,cond_true,bm hjl,ae,hp,hk,hcap,gB (show j<9223372036854775807 by omega)]
  |false=>
   have hE:nG t (s:Int) (gt (gt P.l s).l j)=[]:=by unfold nG;rw[hk];rfl
   have hH:qe t h (s:Int) (gt (gt P.l s).l j)=!(decide (gt t.aN.l h=(((s:Int),gt (gt P.l s).l j):cW))):=by unfold qe;rw[hk];rfl
   obtain⟨es',e1,e2⟩:=ih (j+1) (b||!(decide (gt t.aN.l h=(((s:Int),gt (gt P.l s).l j):cW)))) es (by omega) (by omega);refine⟨es',?_,by rw[e2,hE,List.nil_append]⟩;rw[hH,<-Bool.or_assoc];refine(bL ?_).trans e1;simp only[ez,fz hjl,cond_true,bm hjl,ae,hp,hk,cond_false,ih1,gB (show j<9223372036854775807 by omega)];cases decide (gt t.aN.l h=(((s:Int),gt (gt P.l s).l j):cW))<;>cases b<;>rfl
def km(t:af)(h:Nat)(P:List (Sl Int))(s n:Nat):Bool:=(dh s n).any fun(s:Nat)=>(gt P s).l.any (qe t h (s:Int))
def sF(t:af)(P:List (Sl Int))(s n:Nat):List aS:=(dh s n).flatMap fun(s:Nat)=>(gt P s).l.flatMap (nG t (s:Int))
theorem zG{t:af}{sw p:Int}:(nG t sw p).length<=1:=by unfold nG;cases(jb t sw p).2.2.2<;>simp
theorem F5{t:af}{P:Sl (Sl Int)}{h:Nat}(hb:t.aY.l.length<9223372036854775808)(hh:h<t.aN.l.length)(hP:∀s,s<P.l.length->(gt P.l s).l.length<=1000)(hn:P.l.length<=1000):
  ∀(n s:Nat)(b:Bool)(es:Sl aS),s+n=P.l.length->es.l.length+1000*n<1000000000->∃es',bc (fm t P (h:Int)) (b,(s:Int),es)=some (b||km t h P.l s n,es')/\es'.l=es.l++sF t P.l s n:=by
 intro n;induction n with
 |zero=>
  intro s b es hs ho;obtain rfl:s=P.l.length:=by omega
  exact⟨es,bC (by simp only[fm,gk,cond_false,km,List.range'_zero,List.any_nil,mr]),by simp[sF]⟩
 |succ n ih=>
  intro s b es hs ho;have hsl:s<P.l.length:=by omega
  have hp:=hP s hsl;obtain⟨e1,f1,f2⟩:=F6 (b:=b) (es:=es) hb hh (show(gt P.l s).l.length<=1000000 by omega) (gt P.l s).l.length 0 (by omega) (by omega);rw[List.drop_zero]at f1 f2;have f1:bc (ez t P (h:Int) (s:Int) s) (b,0,es)=_:=f1;have hl:e1.l.length<=es.l.length+1000:=by rw[f2,ap];have:=iv (m:=1) (f:=nG t (s:Int)) (fun p=>zG) (gt P.l s).l;omega
  obtain⟨es',g1,g2⟩:=ih (s+1) (b||(gt P.l s).l.any (qe t h (s:Int))) e1 (by omega) (by omega);refine⟨es',?_,?_⟩
  .have hx:(b||km t h P.l s (n+1))=((b||(gt P.l s).l.any (qe t h (s:Int)))||km t h P.l (s+1) n):=by unfold km;rw[List.range'_succ,mq,Bool.or_assoc]
   rw[hx];refine(bL ?_).trans g1;simp only[fm,fz hsl,cond_true,bm hsl,ae,f1,gB (show s<9223372036854775807 by omega)]
  .rw [g2,f2,aH];congr 1
end Go.Proofs.YthcplpfiidlinaaDoor.J
