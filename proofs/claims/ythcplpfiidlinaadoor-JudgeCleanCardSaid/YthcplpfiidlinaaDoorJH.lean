/- Findings: the ports that a packet may meet, the edges among them. Conditions: lengths as stated. -/
import Derived.Test.YthcplpfiidlinaaDoorJX
open Go.Ev Go
open List renaming append_assoc->aJ,length_append->az,length_singleton->bn,range'->eu
open Option renaming bind_some->af
namespace Go.Proofs.YthcplpfiidlinaaDoor.J
def ub(t:ah)(h:Nat)(sw p:Int):Bool:=!(kL t sw p).2.2.2&&!(decide (gt t.bf.l h=((sw,p):fK)))
def qN(t:ah)(sw p:Int):List aP:=bif(kL t sw p).2.2.2 then[(sw,(kL t sw p).1)]else[]
theorem FW{t:ah}{P:Sl (Sl Int)}{h s:Nat}(hb:t.bS.l.length<9223372036854775808)(hh:h<t.bf.l.length)(hP:(gt P.l s).l.length<=1000000):
  ∀(n j:Nat)(b:Bool)(es:Sl aP),j+n=(gt P.l s).l.length->es.l.length+n<1000000000->∃es',bE (er t P (h:Int) (s:Int) s) (b,(j:Int),es)=some (b||((gt P.l s).l.drop j).any (ub t h (s:Int)),es')/\es'.l=es.l++((gt P.l s).l.drop j).flatMap (qN t (s:Int)):=by
 intro n;induction n with
 |zero=>
  intro j b es hj ho;obtain rfl:j=(gt P.l s).l.length:=by omega
  exact⟨es,ct (by simp only[er,kG,cond_false,List.drop_length,List.any_nil,Bool.or_false]),by simp⟩
 |succ n ih=>
  intro j b es hj ho;have hjl:j<(gt P.l s).l.length:=by omega
  have e:(gt P.l s).l.drop j=gt (gt P.l s).l j::(gt P.l s).l.drop (j+1):=by rw[cY hjl];exact List.drop_eq_getElem_cons hjl
  have hp:=AB (t:=t) (s:Int) (gt (gt P.l s).l j) hb;have ih1:fw (h:Int) ((ah.bf t).l).length=some h:=bA hh;rw[e,List.any_cons,List.flatMap_cons];cases hk:(kL t (s:Int) (gt (gt P.l s).l j)).2.2.2 with
  |true=>
   have hE:qN t (s:Int) (gt (gt P.l s).l j)=[((s:Int),(kL t (s:Int) (gt (gt P.l s).l j)).1)]:=by unfold qN;rw[hk];rfl
   have hH:ub t h (s:Int) (gt (gt P.l s).l j)=false:=by unfold ub;rw[hk];rfl
   obtain⟨es',e1,e2⟩:=ih (j+1) b (.mk (es.l++[((s:Int),(kL t (s:Int) (gt (gt P.l s).l j)).1)])) (by omega) (by rw[Sl.iZ,az,bn];omega);refine⟨es',?_,by rw[e2,Sl.iZ,hE,aJ]⟩;rw[hH,Bool.false_or];refine(dh ?_).trans e1;have hcap:jF (es.l++[(((s:Int),(kL t (s:Int) (gt (gt P.l s).l j)).1):aP)])=some _:=jq (by rw[az,bn];omega);simp only[er,jo hjl,cond_true,bA hjl,af,hp,hk,hcap,lp (show j<9223372036854775807 by omega)]
  |false=>
   have hE:qN t (s:Int) (gt (gt P.l s).l j)=[]:=by unfold qN;rw[hk];rfl
   have hH:ub t h (s:Int) (gt (gt P.l s).l j)=!(decide (gt t.bf.l h=(((s:Int),gt (gt P.l s).l j):fK))):=by unfold ub;rw[hk];rfl
   obtain⟨es',e1,e2⟩:=ih (j+1) (b||!(decide (gt t.bf.l h=(((s:Int),gt (gt P.l s).l j):fK)))) es (by omega) (by omega);refine⟨es',?_,by rw[e2,hE,List.nil_append]⟩;rw[hH,<-Bool.or_assoc];refine(dh ?_).trans e1;simp only[er,jo hjl,cond_true,bA hjl,af,hp,hk,cond_false,ih1,lp (show j<9223372036854775807 by omega)];cases decide (gt t.bf.l h=(((s:Int),gt (gt P.l s).l j):fK))<;>cases b<;>rfl
def nF(t:ah)(h:Nat)(P:List (Sl Int))(s n:Nat):Bool:=(eu s n).any fun(s:Nat)=>(gt P s).l.any (ub t h (s:Int))
def wv(t:ah)(P:List (Sl Int))(s n:Nat):List aP:=(eu s n).flatMap fun(s:Nat)=>(gt P s).l.flatMap (qN t (s:Int))
theorem D2{t:ah}{sw p:Int}:(qN t sw p).length<=1:=by unfold qN;cases(kL t sw p).2.2.2<;>simp
theorem FV{t:ah}{P:Sl (Sl Int)}{h:Nat}(hb:t.bS.l.length<9223372036854775808)(hh:h<t.bf.l.length)(hP:∀s,s<P.l.length->(gt P.l s).l.length<=1000)(hn:P.l.length<=1000):
  ∀(n s:Nat)(b:Bool)(es:Sl aP),s+n=P.l.length->es.l.length+1000*n<1000000000->∃es',bE (fm t P (h:Int)) (b,(s:Int),es)=some (b||nF t h P.l s n,es')/\es'.l=es.l++wv t P.l s n:=by
 intro n;induction n with
 |zero=>
  intro s b es hs ho;obtain rfl:s=P.l.length:=by omega
  exact⟨es,ct (by simp only[fm,kG,cond_false,nF,List.range'_zero,List.any_nil,Bool.or_false]),by simp[wv]⟩
 |succ n ih=>
  intro s b es hs ho;have hsl:s<P.l.length:=by omega
  have hp:=hP s hsl;obtain⟨e1,f1,f2⟩:=FW (b:=b) (es:=es) hb hh (show(gt P.l s).l.length<=1000000 by omega) (gt P.l s).l.length 0 (by omega) (by omega);rw[List.drop_zero]at f1 f2;have f1:bE (er t P (h:Int) (s:Int) s) (b,0,es)=_:=f1;have hl:e1.l.length<=es.l.length+1000:=by rw[f2,az];have:=gK (m:=1) (f:=qN t (s:Int)) (fun p=>D2) (gt P.l s).l;omega
  obtain⟨es',g1,g2⟩:=ih (s+1) (b||(gt P.l s).l.any (ub t h (s:Int))) e1 (by omega) (by omega);refine⟨es',?_,?_⟩
  .have hx:(b||nF t h P.l s (n+1))=((b||(gt P.l s).l.any (ub t h (s:Int)))||nF t h P.l (s+1) n):=by unfold nF;rw[List.range'_succ,List.any_cons,Bool.or_assoc]
   rw[hx];refine(dh ?_).trans g1;simp only[fm,jo hsl,cond_true,bA hsl,af,f1,lp (show s<9223372036854775807 by omega)]
  .rw [g2,f2,aJ];congr 1
end Go.Proofs.YthcplpfiidlinaaDoor.J
