/- Findings: the ports that a packet may meet, the edges among them. Conditions: lengths as stated. -/
import Derived.Test.YthcplpfiidlinaaDoorJX
open Bool renaming or_false->mo
open List renaming append_assoc->aJ,length_append->av,length_singleton->bp,range'->dU
open Option renaming bind_some->af
open Go.Ev Go
namespace Go.Proofs.YthcplpfiidlinaaDoor.J
def uo(t:ah)(h:Nat)(sw p:Int):Bool:=!(kT t sw p).2.2.2&&!(decide (gt t.bf.l h=((sw,p):fU)))
def q_(t:ah)(sw p:Int):List aQ:=bif(kT t sw p).2.2.2 then[(sw,(kT t sw p).1)]else[]
theorem Gj{t:ah}{P:Sl (Sl Int)}{h s:Nat}(hb:t.bW.l.length<9223372036854775808)(hh:h<t.bf.l.length)(hP:(gt P.l s).l.length<=1000000):
  ∀(n j:Nat)(b:Bool)(es:Sl aQ),j+n=(gt P.l s).l.length->es.l.length+n<1000000000->∃es',bE (eE t P (h:Int) (s:Int) s) (b,(j:Int),es)=some (b||((gt P.l s).l.drop j).any (uo t h (s:Int)),es')/\es'.l=es.l++((gt P.l s).l.drop j).flatMap (q_ t (s:Int)):=by
 intro n;induction n with
 |zero=>
  intro j b es hj ho;obtain rfl:j=(gt P.l s).l.length:=by omega
  exact⟨es,cB (by simp only[eE,kO,cond_false,List.drop_length,List.any_nil,mo]),by simp⟩
 |succ n ih=>
  intro j b es hj ho;have hjl:j<(gt P.l s).l.length:=by omega
  have e:(gt P.l s).l.drop j=gt (gt P.l s).l j::(gt P.l s).l.drop (j+1):=by rw[cR hjl];exact List.drop_eq_getElem_cons hjl
  have hp:=AW (t:=t) (s:Int) (gt (gt P.l s).l j) hb;have ih1:fk (h:Int) ((ah.bf t).l).length=some h:=bq hh;rw[e,List.any_cons,List.flatMap_cons];cases hk:(kT t (s:Int) (gt (gt P.l s).l j)).2.2.2 with
  |true=>
   have hE:q_ t (s:Int) (gt (gt P.l s).l j)=[((s:Int),(kT t (s:Int) (gt (gt P.l s).l j)).1)]:=by unfold q_;rw[hk];rfl
   have hH:uo t h (s:Int) (gt (gt P.l s).l j)=false:=by unfold uo;rw[hk];rfl
   obtain⟨es',e1,e2⟩:=ih (j+1) b (.mk (es.l++[((s:Int),(kT t (s:Int) (gt (gt P.l s).l j)).1)])) (by omega) (by rw[Sl.iP,av,bp];omega);refine⟨es',?_,by rw[e2,Sl.iP,hE,aJ]⟩;rw[hH,Bool.false_or];refine(dm ?_).trans e1;have hcap:iI (es.l++[(((s:Int),(kT t (s:Int) (gt (gt P.l s).l j)).1):aQ)])=some _:=il (by rw[av,bp];omega);simp only[eE,jw hjl,cond_true,bq hjl,af,hp,hk,hcap,k_ (show j<9223372036854775807 by omega)]
  |false=>
   have hE:q_ t (s:Int) (gt (gt P.l s).l j)=[]:=by unfold q_;rw[hk];rfl
   have hH:uo t h (s:Int) (gt (gt P.l s).l j)=!(decide (gt t.bf.l h=(((s:Int),gt (gt P.l s).l j):fU))):=by unfold uo;rw[hk];rfl
   obtain⟨es',e1,e2⟩:=ih (j+1) (b||!(decide (gt t.bf.l h=(((s:Int),gt (gt P.l s).l j):fU)))) es (by omega) (by omega);refine⟨es',?_,by rw[e2,hE,List.nil_append]⟩;rw[hH,<-Bool.or_assoc];refine(dm ?_).trans e1;simp only[eE,jw hjl,cond_true,bq hjl,af,hp,hk,cond_false,ih1,k_ (show j<9223372036854775807 by omega)];cases decide (gt t.bf.l h=(((s:Int),gt (gt P.l s).l j):fU))<;>cases b<;>rfl
def nU(t:ah)(h:Nat)(P:List (Sl Int))(s n:Nat):Bool:=(dU s n).any fun(s:Nat)=>(gt P s).l.any (uo t h (s:Int))
def wK(t:ah)(P:List (Sl Int))(s n:Nat):List aQ:=(dU s n).flatMap fun(s:Nat)=>(gt P s).l.flatMap (q_ t (s:Int))
theorem Er{t:ah}{sw p:Int}:(q_ t sw p).length<=1:=by unfold q_;cases(kT t sw p).2.2.2<;>simp
theorem Gi{t:ah}{P:Sl (Sl Int)}{h:Nat}(hb:t.bW.l.length<9223372036854775808)(hh:h<t.bf.l.length)(hP:∀s,s<P.l.length->(gt P.l s).l.length<=1000)(hn:P.l.length<=1000):
  ∀(n s:Nat)(b:Bool)(es:Sl aQ),s+n=P.l.length->es.l.length+1000*n<1000000000->∃es',bE (fA t P (h:Int)) (b,(s:Int),es)=some (b||nU t h P.l s n,es')/\es'.l=es.l++wK t P.l s n:=by
 intro n;induction n with
 |zero=>
  intro s b es hs ho;obtain rfl:s=P.l.length:=by omega
  exact⟨es,cB (by simp only[fA,kO,cond_false,nU,List.range'_zero,List.any_nil,mo]),by simp[wK]⟩
 |succ n ih=>
  intro s b es hs ho;have hsl:s<P.l.length:=by omega
  have hp:=hP s hsl;obtain⟨e1,f1,f2⟩:=Gj (b:=b) (es:=es) hb hh (show(gt P.l s).l.length<=1000000 by omega) (gt P.l s).l.length 0 (by omega) (by omega);rw[List.drop_zero]at f1 f2;have f1:bE (eE t P (h:Int) (s:Int) s) (b,0,es)=_:=f1;have hl:e1.l.length<=es.l.length+1000:=by rw[f2,av];have:=gT (m:=1) (f:=q_ t (s:Int)) (fun p=>Er) (gt P.l s).l;omega
  obtain⟨es',g1,g2⟩:=ih (s+1) (b||(gt P.l s).l.any (uo t h (s:Int))) e1 (by omega) (by omega);refine⟨es',?_,?_⟩
  .have hx:(b||nU t h P.l s (n+1))=((b||(gt P.l s).l.any (uo t h (s:Int)))||nU t h P.l (s+1) n):=by unfold nU;rw[List.range'_succ,List.any_cons,Bool.or_assoc]
   rw[hx];refine(dm ?_).trans g1;simp only[fA,jw hsl,cond_true,bq hsl,af,f1,k_ (show s<9223372036854775807 by omega)]
  .rw [g2,f2,aJ];congr 1
end Go.Proofs.YthcplpfiidlinaaDoor.J
