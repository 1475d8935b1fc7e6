/- Findings: missing moves, and extra ones. Conditions: lengths as stated. -/
import Derived.Test.YthcplpfiidlinaaDoorJV
open Go.Ev Go
open List renaming append_assoc->aH,filter_cons->j6,range'->dh
open Option renaming bind_some->ae
namespace Go.Proofs.YthcplpfiidlinaaDoor.J
def F7(rd:List aj)(sw h p:Int)(m:ah):Bool:=bif((m.1==sw)&&(m.2.1==h))&&(m.2.2.1==p)then rd.any fun r=>mj r m else false
def lC(rd:List aj)(sw h p:Int)(l:List ah):Nat:=(l.filter (F7 rd sw h p)).length
section
variable{t:af}{old now:Sl (Sl Int)}{mv:Sl ah}{rd:Sl aj}{a b c d:Int}{cF:Sl ak}
theorem Gn{sw h:Int}{n48 n24:Nat}{S:Sl (Sl Int)}(hr:rd.l.length<9223372036854775808)(hrs:∀r∈rd.l,r.2.2.l.length<9223372036854775808)(hm:mv.l.length<=1000000):
  ∀(n j k:Nat),j+n=mv.l.length->k<=j->bc (dU sw cF a c d n48 S n24 h t old now mv rd b) ((k:Int),(j:Int))=some ((k+lC rd.l sw h (gt (gt S.l n24).l n48) (mv.l.drop j):Nat):Int):=by
 intro n;induction n with
 |zero=>
  intro j k hj hk;obtain rfl:j=mv.l.length:=by omega
  exact bC (by simp only[dU,gk,cond_false,List.drop_length];rfl)
 |succ n ih=>
  intro j k hj hk;have hjl:j<mv.l.length:=by omega
  have e:mv.l.drop j=gt mv.l j::mv.l.drop (j+1):=by rw[dV hjl];exact List.drop_eq_getElem_cons hjl
  have hd:=Eh (x:=(⟨t,old,now,(⟨mv,rd,a,b,c,d⟩:am),cF⟩:bH)) (m:=gt mv.l j) hr hrs;have hd:eZ (⟨t,old,now,(⟨mv,rd,a,b,c,d⟩:am),cF⟩:bH) (gt mv.l j)=some (rd.l.any fun r=>mj r (gt mv.l j)):=hd;have hc:(bif((((ah.Sw (gt mv.l j))==sw)&&((ah.jF (gt mv.l j))==h))&&((ah.h_ (gt mv.l j))==(gt (gt S.l n24).l n48)))then(some (rd.l.any fun r=>mj r (gt mv.l j)):Option Bool)else some false)=some (F7 rd.l sw h (gt (gt S.l n24).l n48) (gt mv.l j)):=by unfold F7;show(bif((((gt mv.l j).1==sw)&&((gt mv.l j).2.1==h))&&((gt mv.l j).2.2.1==(gt (gt S.l n24).l n48)))then _ else _)=_;cases((((gt mv.l j).1==sw)&&((gt mv.l j).2.1==h))&&((gt mv.l j).2.2.1==(gt (gt S.l n24).l n48)))<;>rfl
  rw[e];cases hh:F7 rd.l sw h (gt (gt S.l n24).l n48) (gt mv.l j)with
  |true=>
   have:=ih (j+1) (k+1) (by omega) (by omega);have e2:k+lC rd.l sw h (gt (gt S.l n24).l n48) (gt mv.l j::mv.l.drop (j+1))=k+1+lC rd.l sw h (gt (gt S.l n24).l n48) (mv.l.drop (j+1)):=by unfold lC;rw[j6,if_pos hh,List.length_cons];omega
   rw[e2];refine(bL ?_).trans this;rw[hh]at hc;simp only[dU,fz hjl,cond_true,bm hjl,ae,hd,hc,gB (show j<9223372036854775807 by omega),gB (show k<9223372036854775807 by omega)]
  |false=>
   have:=ih (j+1) k (by omega) (by omega);have e2:k+lC rd.l sw h (gt (gt S.l n24).l n48) (gt mv.l j::mv.l.drop (j+1))=k+lC rd.l sw h (gt (gt S.l n24).l n48) (mv.l.drop (j+1)):=by unfold lC;rw[j6,if_neg (by rw[hh];simp)]
   rw[e2];refine(bL ?_).trans this;rw[hh]at hc;simp only[dU,fz hjl,cond_true,bm hjl,ae,hd,hc,cond_false,gB (show j<9223372036854775807 by omega)]
def rt(old now:Sl (Sl Int))(mv:List ah)(rd:List aj)(s h:Nat):Bool:=(gt (gt now.l s).l h !=gt (gt old.l s).l h)&&(((lC rd (s:Int) (h:Int) (gt (gt now.l s).l h) mv:Nat):Int) !=1)
def xw(old now:Sl (Sl Int))(mv:List ah)(rd:List aj)(s h n:Nat):List ak:=(dh h n).flatMap fun(h:Nat)=>bif rt old now mv rd s h then[(2,(s:Int),(h:Int))]else[]
theorem Iu{s:Nat}(hr:rd.l.length<9223372036854775808)(hrs:∀r∈rd.l,r.2.2.l.length<9223372036854775808)(hm:mv.l.length<=1000000)(hs:s<old.l.length)(hrow:(gt old.l s).l.length=(gt now.l s).l.length)(hb:(gt now.l s).l.length<=1000):
  ∀(n h:Nat)(cF:Sl ak),h+n=(gt now.l s).l.length->cF.l.length+n<1000000000->∃out',bc (eV (s:Int) now s) ((h:Int),t,old,now,mv,rd,a,b,c,d,cF)=some (t,old,now,mv,rd,a,b,c,d,out')/\out'.l=cF.l++xw old now mv.l rd.l s h n:=by
 intro n;induction n with
 |zero=>
  intro h cF hh ho;obtain rfl:h=(gt now.l s).l.length:=by omega
  exact⟨cF,bC (by simp only[eV,gk,cond_false]),by simp[xw]⟩
 |succ n ih=>
  intro h cF hh ho;have hhl:h<(gt now.l s).l.length:=by omega
  have hc:=Gn (t:=t) (old:=old) (now:=now) (mv:=mv) (rd:=rd) (a:=a) (b:=b) (c:=c) (d:=d) (cF:=cF) (sw:=(s:Int)) (h:=(h:Int)) (n48:=h) (n24:=s) (S:=now) hr hrs hm mv.l.length 0 0 (by omega) (Nat.le_refl _);rw[List.drop_zero,Nat.zero_add]at hc;have hc:bc (dU (s:Int) cF a c d h now s (h:Int) t old now mv rd b) (0,0)=_:=hc;have hlen:(lk cF (rt old now mv.l rd.l s h) 2 (s:Int) (h:Int)).l.length<=cF.l.length+1:=by rw[mB];cases rt old now mv.l rd.l s h<;>simp
  obtain⟨o',e1,e2⟩:=ih (h+1) (lk cF (rt old now mv.l rd.l s h) 2 (s:Int) (h:Int)) (by omega) (by omega);refine⟨o',(bL ?_).trans e1,?_⟩
  .have hq:((gt (gt now.l s).l h !=gt (gt old.l s).l h)&&(((lC rd.l (s:Int) (h:Int) (gt (gt now.l s).l h) mv.l:Nat):Int) !=1))=rt old now mv.l rd.l s h:=rfl;simp only[eV,fz hhl,cond_true,bm hhl,ae,hc,bm hs,bm (show h<(gt old.l s).l.length by omega),hq,oW (show cF.l.length<2147483648 by omega),gB (show h<9223372036854775807 by omega)]
  .rw [e2,mB,aH];congr 1
def y_(old now:Sl (Sl Int))(mv:List ah)(rd:List aj)(s n:Nat):List ak:=(dh s n).flatMap fun(s:Nat)=>xw old now mv rd s 0 (gt now.l s).l.length
theorem y9{s h n:Nat}:(xw old now mv.l rd.l s h n).length<=n:=by unfold xw;have:=iv (m:=1) (f:=fun h:Nat=>bif rt old now mv.l rd.l s h then[((2,(s:Int),(h:Int)):ak)]else[]) (fun h=>by cases rt old now mv.l rd.l s h<;>simp) (dh h n);rw[List.length_range']at this;omega
theorem Kq(hr:rd.l.length<9223372036854775808)(hrs:∀r∈rd.l,r.2.2.l.length<9223372036854775808)(hm:mv.l.length<=1000000)(hlen:old.l.length=now.l.length)(hrow:∀s,s<now.l.length->(gt old.l s).l.length=(gt now.l s).l.length/\(gt now.l s).l.length<=1000)(hn:now.l.length<=1000):
  ∀(n s:Nat)(cF:Sl ak),s+n=now.l.length->cF.l.length+1000*n<1000000000->∃out',bc (eU now) ((s:Int),t,old,now,mv,rd,a,b,c,d,cF)=some (t,old,now,mv,rd,a,b,c,d,out')/\out'.l=cF.l++y_ old now mv.l rd.l s n:=by
 intro n;induction n with
 |zero=>
  intro s cF hs ho;obtain rfl:s=now.l.length:=by omega
  exact⟨cF,bC (by simp only[eU,gk,cond_false]),by simp[y_]⟩
 |succ n ih=>
  intro s cF hs ho;have hsl:s<now.l.length:=by omega
  obtain⟨r1,r2⟩:=hrow s hsl;obtain⟨o1,f1,f2⟩:=Iu (t:=t) (a:=a) (b:=b) (c:=c) (d:=d) hr hrs hm (show s<old.l.length by omega) r1 r2 (gt now.l s).l.length 0 cF (by omega) (by omega);have f1:bc (eV (s:Int) now s) (0,t,old,now,mv,rd,a,b,c,d,cF)=_:=f1;have hl1:o1.l.length<=cF.l.length+1000:=by rw[f2,List.length_append];have:=y9 (old:=old) (now:=now) (mv:=mv) (rd:=rd) (s:=s) (h:=0) (n:=(gt now.l s).l.length);omega
  obtain⟨o',e1,e2⟩:=ih (s+1) o1 (by omega) (by omega);refine⟨o',(bL ?_).trans e1,?_⟩
  .simp only[eU,fz hsl,cond_true,bm hsl,ae,f1,gB (show s<9223372036854775807 by omega)]
  .rw [e2,f2,aH];congr 1
end
end Go.Proofs.YthcplpfiidlinaaDoor.J
