/- Findings: missing moves, and extra ones. Conditions: lengths as stated. -/
import Derived.Test.YthcplpfiidlinaaDoorJV
open Go.Ev Go
open List renaming append_assoc->aJ,range'->eu
open Option renaming bind_some->af
namespace Go.Proofs.YthcplpfiidlinaaDoor.J
def IU(rd:List aj)(sw h p:Int)(m:ae):Bool:=bif((m.1==sw)&&(m.2.1==h))&&(m.2.2.1==p)then rd.any fun r=>oB r m else false
def qq(rd:List aj)(sw h p:Int)(l:List ae):Nat:=(l.filter (IU rd sw h p)).length
section
variable{t:ah}{old now:Sl (Sl Int)}{mv:Sl ae}{rd:Sl aj}{a b c d:Int}{dX:Sl aq}
theorem Gh{sw h:Int}{n48 n24:Nat}{S:Sl (Sl Int)}(hr:rd.l.length<9223372036854775808)(hrs:∀r∈rd.l,r.2.2.l.length<9223372036854775808)(hm:mv.l.length<=1000000):
  ∀(n j k:Nat),j+n=mv.l.length->k<=j->bE (dU sw dX a c d n48 S n24 h t old now mv rd b) ((k:Int),(j:Int))=some ((k+qq rd.l sw h (gt (gt S.l n24).l n48) (mv.l.drop j):Nat):Int):=by
 intro n;induction n with
 |zero=>
  intro j k hj hk;obtain rfl:j=mv.l.length:=by omega
  exact ct (by simp only[dU,kG,cond_false,List.drop_length];rfl)
 |succ n ih=>
  intro j k hj hk;have hjl:j<mv.l.length:=by omega
  have e:mv.l.drop j=gt mv.l j::mv.l.drop (j+1):=by rw[cY hjl];exact List.drop_eq_getElem_cons hjl
  have hd:=D7 (x:=(⟨t,old,now,(⟨mv,rd,a,b,c,d⟩:dq),dX⟩:bt)) (m:=gt mv.l j) hr hrs;have hd:eY (⟨t,old,now,(⟨mv,rd,a,b,c,d⟩:dq),dX⟩:bt) (gt mv.l j)=some (rd.l.any fun r=>oB r (gt mv.l j)):=hd;have hc:(bif((((ae.Sw (gt mv.l j))==sw)&&((ae.nh (gt mv.l j))==h))&&((ae.ot (gt mv.l j))==(gt (gt S.l n24).l n48)))then(some (rd.l.any fun r=>oB r (gt mv.l j)):Option Bool)else some false)=some (IU rd.l sw h (gt (gt S.l n24).l n48) (gt mv.l j)):=by unfold IU;show(bif((((gt mv.l j).1==sw)&&((gt mv.l j).2.1==h))&&((gt mv.l j).2.2.1==(gt (gt S.l n24).l n48)))then _ else _)=_;cases((((gt mv.l j).1==sw)&&((gt mv.l j).2.1==h))&&((gt mv.l j).2.2.1==(gt (gt S.l n24).l n48)))<;>rfl
  rw[e];cases hh:IU rd.l sw h (gt (gt S.l n24).l n48) (gt mv.l j)with
  |true=>
   have:=ih (j+1) (k+1) (by omega) (by omega);have e2:k+qq rd.l sw h (gt (gt S.l n24).l n48) (gt mv.l j::mv.l.drop (j+1))=k+1+qq rd.l sw h (gt (gt S.l n24).l n48) (mv.l.drop (j+1)):=by unfold qq;rw[List.filter_cons,if_pos hh,List.length_cons];omega
   rw[e2];refine(dh ?_).trans this;rw[hh]at hc;simp only[dU,jo hjl,cond_true,bA hjl,af,hd,hc,lp (show j<9223372036854775807 by omega),lp (show k<9223372036854775807 by omega)]
  |false=>
   have:=ih (j+1) k (by omega) (by omega);have e2:k+qq rd.l sw h (gt (gt S.l n24).l n48) (gt mv.l j::mv.l.drop (j+1))=k+qq rd.l sw h (gt (gt S.l n24).l n48) (mv.l.drop (j+1)):=by unfold qq;rw[List.filter_cons,if_neg (by rw[hh];simp)]
   rw[e2];refine(dh ?_).trans this;rw[hh]at hc;simp only[dU,jo hjl,cond_true,bA hjl,af,hd,hc,cond_false,lp (show j<9223372036854775807 by omega)]
def vh(old now:Sl (Sl Int))(mv:List ae)(rd:List aj)(s h:Nat):Bool:=(gt (gt now.l s).l h !=gt (gt old.l s).l h)&&(((qq rd (s:Int) (h:Int) (gt (gt now.l s).l h) mv:Nat):Int) !=1)
def AJ(old now:Sl (Sl Int))(mv:List ae)(rd:List aj)(s h n:Nat):List aq:=(eu h n).flatMap fun(h:Nat)=>bif vh old now mv rd s h then[(2,(s:Int),(h:Int))]else[]
theorem IH{s:Nat}(hr:rd.l.length<9223372036854775808)(hrs:∀r∈rd.l,r.2.2.l.length<9223372036854775808)(hm:mv.l.length<=1000000)(hs:s<old.l.length)(hrow:(gt old.l s).l.length=(gt now.l s).l.length)(hb:(gt now.l s).l.length<=1000):
  ∀(n h:Nat)(dX:Sl aq),h+n=(gt now.l s).l.length->dX.l.length+n<1000000000->∃out',bE (eU (s:Int) now s) ((h:Int),t,old,now,mv,rd,a,b,c,d,dX)=some (t,old,now,mv,rd,a,b,c,d,out')/\out'.l=dX.l++AJ old now mv.l rd.l s h n:=by
 intro n;induction n with
 |zero=>
  intro h dX hh ho;obtain rfl:h=(gt now.l s).l.length:=by omega
  exact⟨dX,ct (by simp only[eU,kG,cond_false]),by simp[AJ]⟩
 |succ n ih=>
  intro h dX hh ho;have hhl:h<(gt now.l s).l.length:=by omega
  have hc:=Gh (t:=t) (old:=old) (now:=now) (mv:=mv) (rd:=rd) (a:=a) (b:=b) (c:=c) (d:=d) (dX:=dX) (sw:=(s:Int)) (h:=(h:Int)) (n48:=h) (n24:=s) (S:=now) hr hrs hm mv.l.length 0 0 (by omega) (Nat.le_refl _);rw[List.drop_zero,Nat.zero_add]at hc;have hc:bE (dU (s:Int) dX a c d h now s (h:Int) t old now mv rd b) (0,0)=_:=hc;have hlen:(pY dX (vh old now mv.l rd.l s h) 2 (s:Int) (h:Int)).l.length<=dX.l.length+1:=by rw[rm];cases vh old now mv.l rd.l s h<;>simp
  obtain⟨o',e1,e2⟩:=ih (h+1) (pY dX (vh old now mv.l rd.l s h) 2 (s:Int) (h:Int)) (by omega) (by omega);refine⟨o',(dh ?_).trans e1,?_⟩
  .have hq:((gt (gt now.l s).l h !=gt (gt old.l s).l h)&&(((qq rd.l (s:Int) (h:Int) (gt (gt now.l s).l h) mv.l:Nat):Int) !=1))=vh old now mv.l rd.l s h:=rfl;simp only[eU,jo hhl,cond_true,bA hhl,af,hc,bA hs,bA (show h<(gt old.l s).l.length by omega),hq,og (show dX.l.length<2147483648 by omega),lp (show h<9223372036854775807 by omega)]
  .rw [e2,rm,aJ];congr 1
def AK(old now:Sl (Sl Int))(mv:List ae)(rd:List aj)(s n:Nat):List aq:=(eu s n).flatMap fun(s:Nat)=>AJ old now mv rd s 0 (gt now.l s).l.length
theorem DA{s h n:Nat}:(AJ old now mv.l rd.l s h n).length<=n:=by unfold AJ;have:=gK (m:=1) (f:=fun h:Nat=>bif vh old now mv.l rd.l s h then[((2,(s:Int),(h:Int)):aq)]else[]) (fun h=>by cases vh old now mv.l rd.l s h<;>simp) (eu h n);rw[List.length_range']at this;omega
theorem KZ(hr:rd.l.length<9223372036854775808)(hrs:∀r∈rd.l,r.2.2.l.length<9223372036854775808)(hm:mv.l.length<=1000000)(hlen:old.l.length=now.l.length)(hrow:∀s,s<now.l.length->(gt old.l s).l.length=(gt now.l s).l.length/\(gt now.l s).l.length<=1000)(hn:now.l.length<=1000):
  ∀(n s:Nat)(dX:Sl aq),s+n=now.l.length->dX.l.length+1000*n<1000000000->∃out',bE (eT now) ((s:Int),t,old,now,mv,rd,a,b,c,d,dX)=some (t,old,now,mv,rd,a,b,c,d,out')/\out'.l=dX.l++AK old now mv.l rd.l s n:=by
 intro n;induction n with
 |zero=>
  intro s dX hs ho;obtain rfl:s=now.l.length:=by omega
  exact⟨dX,ct (by simp only[eT,kG,cond_false]),by simp[AK]⟩
 |succ n ih=>
  intro s dX hs ho;have hsl:s<now.l.length:=by omega
  obtain⟨r1,r2⟩:=hrow s hsl;obtain⟨o1,f1,f2⟩:=IH (t:=t) (a:=a) (b:=b) (c:=c) (d:=d) hr hrs hm (show s<old.l.length by omega) r1 r2 (gt now.l s).l.length 0 dX (by omega) (by omega);have f1:bE (eU (s:Int) now s) (0,t,old,now,mv,rd,a,b,c,d,dX)=_:=f1;have hl1:o1.l.length<=dX.l.length+1000:=by rw[f2,List.length_append];have:=DA (old:=old) (now:=now) (mv:=mv) (rd:=rd) (s:=s) (h:=0) (n:=(gt now.l s).l.length);omega
  obtain⟨o',e1,e2⟩:=ih (s+1) o1 (by omega) (by omega);refine⟨o',(dh ?_).trans e1,?_⟩
  .simp only[eT,jo hsl,cond_true,bA hsl,af,f1,lp (show s<9223372036854775807 by omega)]
  .rw [e2,f2,aJ];congr 1
end
end Go.Proofs.YthcplpfiidlinaaDoor.J
