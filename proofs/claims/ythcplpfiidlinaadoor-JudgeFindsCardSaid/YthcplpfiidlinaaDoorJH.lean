/- Findings: the ports that a packet may meet, the edges among them. Conditions: lengths as stated. -/
import Derived.Test.YthcplpfiidlinaaDoorJX
open Go.Ev Go
open Bool renaming or_false->me
open List renaming append_assoc->aL,length_append->av,length_singleton->bo,range'->dM
open Option renaming bind_some->af
namespace Go.Proofs.YthcplpfiidlinaaDoor.J
def t_(t:ah)(h:Nat)(sw p:Int):Bool:=!(kN t sw p).2.2.2&&!(decide (gt t.bd.l h=((sw,p):fQ)))
def qP(t:ah)(sw p:Int):List aQ:=bif(kN t sw p).2.2.2 then[(sw,(kN t sw p).1)]else[]
theorem F3{t:ah}{P:Sl (Sl Int)}{h s:Nat}(hb:t.bU.l.length<9223372036854775808)(hh:h<t.bd.l.length)(hP:(gt P.l s).l.length<=1000000):
  ∀(n j:Nat)(b:Bool)(es:Sl aQ),j+n=(gt P.l s).l.length->es.l.length+n<1000000000->∃es',bD (er t P (h:Int) (s:Int) s) (b,(j:Int),es)=some (b||((gt P.l s).l.drop j).any (t_ t h (s:Int)),es')/\es'.l=es.l++((gt P.l s).l.drop j).flatMap (qP t (s:Int)):=by
 intro n;induction n with
 |zero=>
  intro j b es hj ho;obtain rfl:j=(gt P.l s).l.length:=by omega
  exact⟨es,cA (by simp only[er,kH,cond_false,List.drop_length,List.any_nil,me]),by simp⟩
 |succ n ih=>
  intro j b es hj ho;have hjl:j<(gt P.l s).l.length:=by omega
  have e:(gt P.l s).l.drop j=gt (gt P.l s).l j::(gt P.l s).l.drop (j+1):=by rw[cP hjl];exact List.drop_eq_getElem_cons hjl
  have hp:=AD (t:=t) (s:Int) (gt (gt P.l s).l j) hb;have ih1:eX (h:Int) ((ah.bd t).l).length=some h:=bp hh;rw[e,List.any_cons,List.flatMap_cons];cases hk:(kN t (s:Int) (gt (gt P.l s).l j)).2.2.2 with
  |true=>
   have hE:qP t (s:Int) (gt (gt P.l s).l j)=[((s:Int),(kN t (s:Int) (gt (gt P.l s).l j)).1)]:=by unfold qP;rw[hk];rfl
   have hH:t_ t h (s:Int) (gt (gt P.l s).l j)=false:=by unfold t_;rw[hk];rfl
   obtain⟨es',e1,e2⟩:=ih (j+1) b (.mk (es.l++[((s:Int),(kN t (s:Int) (gt (gt P.l s).l j)).1)])) (by omega) (by rw[Sl.iM,av,bo];omega);refine⟨es',?_,by rw[e2,Sl.iM,hE,aL]⟩;rw[hH,Bool.false_or];refine(dl ?_).trans e1;have hcap:iF (es.l++[(((s:Int),(kN t (s:Int) (gt (gt P.l s).l j)).1):aQ)])=some _:=ij (by rw[av,bo];omega);simp only[er,js hjl,cond_true,bp hjl,af,hp,hk,hcap,kY (show j<9223372036854775807 by omega)]
  |false=>
   have hE:qP t (s:Int) (gt (gt P.l s).l j)=[]:=by unfold qP;rw[hk];rfl
   have hH:t_ t h (s:Int) (gt (gt P.l s).l j)=!(decide (gt t.bd.l h=(((s:Int),gt (gt P.l s).l j):fQ))):=by unfold t_;rw[hk];rfl
   obtain⟨es',e1,e2⟩:=ih (j+1) (b||!(decide (gt t.bd.l h=(((s:Int),gt (gt P.l s).l j):fQ)))) es (by omega) (by omega);refine⟨es',?_,by rw[e2,hE,List.nil_append]⟩;rw[hH,<-Bool.or_assoc];refine(dl ?_).trans e1;simp only[er,js hjl,cond_true,bp hjl,af,hp,hk,cond_false,ih1,kY (show j<9223372036854775807 by omega)];cases decide (gt t.bd.l h=(((s:Int),gt (gt P.l s).l j):fQ))<;>cases b<;>rfl
def nL(t:ah)(h:Nat)(P:List (Sl Int))(s n:Nat):Bool:=(dM s n).any fun(s:Nat)=>(gt P s).l.any (t_ t h (s:Int))
def ww(t:ah)(P:List (Sl Int))(s n:Nat):List aQ:=(dM s n).flatMap fun(s:Nat)=>(gt P s).l.flatMap (qP t (s:Int))
theorem D5{t:ah}{sw p:Int}:(qP t sw p).length<=1:=by unfold qP;cases(kN t sw p).2.2.2<;>simp
theorem F1{t:ah}{P:Sl (Sl Int)}{h:Nat}(hb:t.bU.l.length<9223372036854775808)(hh:h<t.bd.l.length)(hP:∀s,s<P.l.length->(gt P.l s).l.length<=1000)(hn:P.l.length<=1000):
  ∀(n s:Nat)(b:Bool)(es:Sl aQ),s+n=P.l.length->es.l.length+1000*n<1000000000->∃es',bD (fm t P (h:Int)) (b,(s:Int),es)=some (b||nL t h P.l s n,es')/\es'.l=es.l++ww t P.l s n:=by
 intro n;induction n with
 |zero=>
  intro s b es hs ho;obtain rfl:s=P.l.length:=by omega
  exact⟨es,cA (by simp only[fm,kH,cond_false,nL,List.range'_zero,List.any_nil,me]),by simp[ww]⟩
 |succ n ih=>
  intro s b es hs ho;have hsl:s<P.l.length:=by omega
  have hp:=hP s hsl;obtain⟨e1,f1,f2⟩:=F3 (b:=b) (es:=es) hb hh (show(gt P.l s).l.length<=1000000 by omega) (gt P.l s).l.length 0 (by omega) (by omega);rw[List.drop_zero]at f1 f2;have f1:bD (er t P (h:Int) (s:Int) s) (b,0,es)=_:=f1;have hl:e1.l.length<=es.l.length+1000:=by rw[f2,av];have:=ia (m:=1) (f:=qP t (s:Int)) (fun p=>D5) (gt P.l s).l;omega
  obtain⟨es',g1,g2⟩:=ih (s+1) (b||(gt P.l s).l.any (t_ t h (s:Int))) e1 (by omega) (by omega);refine⟨es',?_,?_⟩
  .have hx:(b||nL t h P.l s (n+1))=((b||(gt P.l s).l.any (t_ t h (s:Int)))||nL t h P.l (s+1) n):=by unfold nL;rw[List.range'_succ,List.any_cons,Bool.or_assoc]
   rw[hx];refine(dl ?_).trans g1;simp only[fm,js hsl,cond_true,bp hsl,af,f1,kY (show s<9223372036854775807 by omega)]
  .rw [g2,f2,aL];congr 1
end Go.Proofs.YthcplpfiidlinaaDoor.J
