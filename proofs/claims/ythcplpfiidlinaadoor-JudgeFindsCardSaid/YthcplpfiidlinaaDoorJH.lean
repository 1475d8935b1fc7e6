/- Findings: the ports that a packet may meet, the edges among them. Conditions: lengths as stated. -/
import Derived.Test.YthcplpfiidlinaaDoorJX
open Go.Ev Go
open Bool renaming or_false->mj
open List renaming append_assoc->aL,length_append->av,length_singleton->bp,range'->dP
open Option renaming bind_some->af
namespace Go.Proofs.YthcplpfiidlinaaDoor.J
def ue(t:ah)(h:Nat)(sw p:Int):Bool:=!(kQ t sw p).2.2.2&&!(decide (gt t.bd.l h=((sw,p):fS)))
def qS(t:ah)(sw p:Int):List aQ:=bif(kQ t sw p).2.2.2 then[(sw,(kQ t sw p).1)]else[]
theorem F7{t:ah}{P:Sl (Sl Int)}{h s:Nat}(hb:t.bW.l.length<9223372036854775808)(hh:h<t.bd.l.length)(hP:(gt P.l s).l.length<=1000000):
  ∀(n j:Nat)(b:Bool)(es:Sl aQ),j+n=(gt P.l s).l.length->es.l.length+n<1000000000->∃es',bD (ez t P (h:Int) (s:Int) s) (b,(j:Int),es)=some (b||((gt P.l s).l.drop j).any (ue t h (s:Int)),es')/\es'.l=es.l++((gt P.l s).l.drop j).flatMap (qS t (s:Int)):=by
 intro n;induction n with
 |zero=>
  intro j b es hj ho;obtain rfl:j=(gt P.l s).l.length:=by omega
  exact⟨es,cB (by simp only[ez,kK,cond_false,List.drop_length,List.any_nil,mj]),by simp⟩
 |succ n ih=>
  intro j b es hj ho;have hjl:j<(gt P.l s).l.length:=by omega
  have e:(gt P.l s).l.drop j=gt (gt P.l s).l j::(gt P.l s).l.drop (j+1):=by rw[cR hjl];exact List.drop_eq_getElem_cons hjl
  have hp:=AM (t:=t) (s:Int) (gt (gt P.l s).l j) hb;have ih1:e9 (h:Int) ((ah.bd t).l).length=some h:=bq hh;rw[e,List.any_cons,List.flatMap_cons];cases hk:(kQ t (s:Int) (gt (gt P.l s).l j)).2.2.2 with
  |true=>
   have hE:qS t (s:Int) (gt (gt P.l s).l j)=[((s:Int),(kQ t (s:Int) (gt (gt P.l s).l j)).1)]:=by unfold qS;rw[hk];rfl
   have hH:ue t h (s:Int) (gt (gt P.l s).l j)=false:=by unfold ue;rw[hk];rfl
   obtain⟨es',e1,e2⟩:=ih (j+1) b (.mk (es.l++[((s:Int),(kQ t (s:Int) (gt (gt P.l s).l j)).1)])) (by omega) (by rw[Sl.iO,av,bp];omega);refine⟨es',?_,by rw[e2,Sl.iO,hE,aL]⟩;rw[hH,Bool.false_or];refine(dl ?_).trans e1;have hcap:iH (es.l++[(((s:Int),(kQ t (s:Int) (gt (gt P.l s).l j)).1):aQ)])=some _:=ik (by rw[av,bp];omega);simp only[ez,jt hjl,cond_true,bq hjl,af,hp,hk,hcap,k9 (show j<9223372036854775807 by omega)]
  |false=>
   have hE:qS t (s:Int) (gt (gt P.l s).l j)=[]:=by unfold qS;rw[hk];rfl
   have hH:ue t h (s:Int) (gt (gt P.l s).l j)=!(decide (gt t.bd.l h=(((s:Int),gt (gt P.l s).l j):fS))):=by unfold ue;rw[hk];rfl
   obtain⟨es',e1,e2⟩:=ih (j+1) (b||!(decide (gt t.bd.l h=(((s:Int),gt (gt P.l s).l j):fS)))) es (by omega) (by omega);refine⟨es',?_,by rw[e2,hE,List.nil_append]⟩;rw[hH,<-Bool.or_assoc];refine(dl ?_).trans e1;simp only[ez,jt hjl,cond_true,bq hjl,af,hp,hk,cond_false,ih1,k9 (show j<9223372036854775807 by omega)];cases decide (gt t.bd.l h=(((s:Int),gt (gt P.l s).l j):fS))<;>cases b<;>rfl
def nP(t:ah)(h:Nat)(P:List (Sl Int))(s n:Nat):Bool:=(dP s n).any fun(s:Nat)=>(gt P s).l.any (ue t h (s:Int))
def wD(t:ah)(P:List (Sl Int))(s n:Nat):List aQ:=(dP s n).flatMap fun(s:Nat)=>(gt P s).l.flatMap (qS t (s:Int))
theorem Ea{t:ah}{sw p:Int}:(qS t sw p).length<=1:=by unfold qS;cases(kQ t sw p).2.2.2<;>simp
theorem F6{t:ah}{P:Sl (Sl Int)}{h:Nat}(hb:t.bW.l.length<9223372036854775808)(hh:h<t.bd.l.length)(hP:∀s,s<P.l.length->(gt P.l s).l.length<=1000)(hn:P.l.length<=1000):
  ∀(n s:Nat)(b:Bool)(es:Sl aQ),s+n=P.l.length->es.l.length+1000*n<1000000000->∃es',bD (fw t P (h:Int)) (b,(s:Int),es)=some (b||nP t h P.l s n,es')/\es'.l=es.l++wD t P.l s n:=by
 intro n;induction n with
 |zero=>
  intro s b es hs ho;obtain rfl:s=P.l.length:=by omega
  exact⟨es,cB (by simp only[fw,kK,cond_false,nP,List.range'_zero,List.any_nil,mj]),by simp[wD]⟩
 |succ n ih=>
  intro s b es hs ho;have hsl:s<P.l.length:=by omega
  have hp:=hP s hsl;obtain⟨e1,f1,f2⟩:=F7 (b:=b) (es:=es) hb hh (show(gt P.l s).l.length<=1000000 by omega) (gt P.l s).l.length 0 (by omega) (by omega);rw[List.drop_zero]at f1 f2;have f1:bD (ez t P (h:Int) (s:Int) s) (b,0,es)=_:=f1;have hl:e1.l.length<=es.l.length+1000:=by rw[f2,av];have:=gT (m:=1) (f:=qS t (s:Int)) (fun p=>Ea) (gt P.l s).l;omega
  obtain⟨es',g1,g2⟩:=ih (s+1) (b||(gt P.l s).l.any (ue t h (s:Int))) e1 (by omega) (by omega);refine⟨es',?_,?_⟩
  .have hx:(b||nP t h P.l s (n+1))=((b||(gt P.l s).l.any (ue t h (s:Int)))||nP t h P.l (s+1) n):=by unfold nP;rw[List.range'_succ,List.any_cons,Bool.or_assoc]
   rw[hx];refine(dl ?_).trans g1;simp only[fw,jt hsl,cond_true,bq hsl,af,f1,k9 (show s<9223372036854775807 by omega)]
  .rw [g2,f2,aL];congr 1
end Go.Proofs.YthcplpfiidlinaaDoor.J
