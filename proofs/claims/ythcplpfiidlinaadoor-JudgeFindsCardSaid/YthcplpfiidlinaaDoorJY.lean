/- Findings: missing moves, and extra ones. Conditions: lengths as stated. -/
import Derived.Test.YthcplpfiidlinaaDoorJV
open List renaming append_assoc->aJ,range'->dU
open Option renaming bind_some->af
open Go.Ev Go
namespace Go.Proofs.YthcplpfiidlinaaDoor.J
def Gl(rd:List aj)(sw h p:Int)(m:ae):Bool:=bif((m.1==sw)&&(m.2.1==h))&&(m.2.2.1==p)then rd.any fun r=>oO r m else false
def pN(rd:List aj)(sw h p:Int)(l:List ae):Nat:=(l.filter (Gl rd sw h p)).length
section
variable{t:ah}{old now:Sl (Sl Int)}{mv:Sl ae}{rd:Sl aj}{a b c d:Int}{eg:Sl am}
theorem GG{sw h:Int}{n48 n24:Nat}{S:Sl (Sl Int)}(hr:rd.l.length<9223372036854775808)(hrs:∀r∈rd.l,r.2.2.l.length<9223372036854775808)(hm:mv.l.length<=1000000):
  ∀(n j k:Nat),j+n=mv.l.length->k<=j->bE (d_ sw eg a c d n48 S n24 h t old now mv rd b) ((k:Int),(j:Int))=some ((k+pN rd.l sw h (gt (gt S.l n24).l n48) (mv.l.drop j):Nat):Int):=by
 intro n;induction n with
 |zero=>
  intro j k hj hk;obtain rfl:j=mv.l.length:=by omega
  exact cB (by simp only[d_,kO,cond_false,List.drop_length];rfl)
 |succ n ih=>
  intro j k hj hk;have hjl:j<mv.l.length:=by omega
  have e:mv.l.drop j=gt mv.l j::mv.l.drop (j+1):=by rw[cR hjl];exact List.drop_eq_getElem_cons hjl
  have hd:=Ey (x:=(⟨t,old,now,(⟨mv,rd,a,b,c,d⟩:bK),eg⟩:bh)) (m:=gt mv.l j) hr hrs;have hd:fh (⟨t,old,now,(⟨mv,rd,a,b,c,d⟩:bK),eg⟩:bh) (gt mv.l j)=some (rd.l.any fun r=>oO r (gt mv.l j)):=hd;have hc:(bif((((ae.Sw (gt mv.l j))==sw)&&((ae.mI (gt mv.l j))==h))&&((ae.oe (gt mv.l j))==(gt (gt S.l n24).l n48)))then(some (rd.l.any fun r=>oO r (gt mv.l j)):Option Bool)else some false)=some (Gl rd.l sw h (gt (gt S.l n24).l n48) (gt mv.l j)):=by unfold Gl;show(bif((((gt mv.l j).1==sw)&&((gt mv.l j).2.1==h))&&((gt mv.l j).2.2.1==(gt (gt S.l n24).l n48)))then _ else _)=_;cases((((gt mv.l j).1==sw)&&((gt mv.l j).2.1==h))&&((gt mv.l j).2.2.1==(gt (gt S.l n24).l n48)))<;>rfl
  rw[e];cases hh:Gl rd.l sw h (gt (gt S.l n24).l n48) (gt mv.l j)with
  |true=>
   have:=ih (j+1) (k+1) (by omega) (by omega);have e2:k+pN rd.l sw h (gt (gt S.l n24).l n48) (gt mv.l j::mv.l.drop (j+1))=k+1+pN rd.l sw h (gt (gt S.l n24).l n48) (mv.l.drop (j+1)):=by unfold pN;rw[List.filter_cons,if_pos hh,List.length_cons];omega
   rw[e2];refine(dm ?_).trans this;rw[hh]at hc;simp only[d_,jw hjl,cond_true,bq hjl,af,hd,hc,k_ (show j<9223372036854775807 by omega),k_ (show k<9223372036854775807 by omega)]
  |false=>
   have:=ih (j+1) k (by omega) (by omega);have e2:k+pN rd.l sw h (gt (gt S.l n24).l n48) (gt mv.l j::mv.l.drop (j+1))=k+pN rd.l sw h (gt (gt S.l n24).l n48) (mv.l.drop (j+1)):=by unfold pN;rw[List.filter_cons,if_neg (by rw[hh];simp)]
   rw[e2];refine(dm ?_).trans this;rw[hh]at hc;simp only[d_,jw hjl,cond_true,bq hjl,af,hd,hc,cond_false,k_ (show j<9223372036854775807 by omega)]
def sd(old now:Sl (Sl Int))(mv:List ae)(rd:List aj)(s h:Nat):Bool:=(gt (gt now.l s).l h !=gt (gt old.l s).l h)&&(((pN rd (s:Int) (h:Int) (gt (gt now.l s).l h) mv:Nat):Int) !=1)
def A5(old now:Sl (Sl Int))(mv:List ae)(rd:List aj)(s h n:Nat):List am:=(dU h n).flatMap fun(h:Nat)=>bif sd old now mv rd s h then[(2,(s:Int),(h:Int))]else[]
theorem I9{s:Nat}(hr:rd.l.length<9223372036854775808)(hrs:∀r∈rd.l,r.2.2.l.length<9223372036854775808)(hm:mv.l.length<=1000000)(hs:s<old.l.length)(hrow:(gt old.l s).l.length=(gt now.l s).l.length)(hb:(gt now.l s).l.length<=1000):
  ∀(n h:Nat)(eg:Sl am),h+n=(gt now.l s).l.length->eg.l.length+n<1000000000->∃out',bE (e_ (s:Int) now s) ((h:Int),t,old,now,mv,rd,a,b,c,d,eg)=some (t,old,now,mv,rd,a,b,c,d,out')/\out'.l=eg.l++A5 old now mv.l rd.l s h n:=by
 intro n;induction n with
 |zero=>
  intro h eg hh ho;obtain rfl:h=(gt now.l s).l.length:=by omega
  exact⟨eg,cB (by simp only[e_,kO,cond_false]),by simp[A5]⟩
 |succ n ih=>
  intro h eg hh ho;have hhl:h<(gt now.l s).l.length:=by omega
  have hc:=GG (t:=t) (old:=old) (now:=now) (mv:=mv) (rd:=rd) (a:=a) (b:=b) (c:=c) (d:=d) (eg:=eg) (sw:=(s:Int)) (h:=(h:Int)) (n48:=h) (n24:=s) (S:=now) hr hrs hm mv.l.length 0 0 (by omega) (Nat.le_refl _);rw[List.drop_zero,Nat.zero_add]at hc;have hc:bE (d_ (s:Int) eg a c d h now s (h:Int) t old now mv rd b) (0,0)=_:=hc;have hlen:(qh eg (sd old now mv.l rd.l s h) 2 (s:Int) (h:Int)).l.length<=eg.l.length+1:=by rw[rE];cases sd old now mv.l rd.l s h<;>simp
  obtain⟨o',e1,e2⟩:=ih (h+1) (qh eg (sd old now mv.l rd.l s h) 2 (s:Int) (h:Int)) (by omega) (by omega);refine⟨o',(dm ?_).trans e1,?_⟩
  .have hq:((gt (gt now.l s).l h !=gt (gt old.l s).l h)&&(((pN rd.l (s:Int) (h:Int) (gt (gt now.l s).l h) mv.l:Nat):Int) !=1))=sd old now mv.l rd.l s h:=rfl;simp only[e_,jw hhl,cond_true,bq hhl,af,hc,bq hs,bq (show h<(gt old.l s).l.length by omega),hq,oG (show eg.l.length<2147483648 by omega),k_ (show h<9223372036854775807 by omega)]
  .rw [e2,rE,aJ];congr 1
def xh(old now:Sl (Sl Int))(mv:List ae)(rd:List aj)(s n:Nat):List am:=(dU s n).flatMap fun(s:Nat)=>A5 old now mv rd s 0 (gt now.l s).l.length
theorem DU{s h n:Nat}:(A5 old now mv.l rd.l s h n).length<=n:=by unfold A5;have:=gT (m:=1) (f:=fun h:Nat=>bif sd old now mv.l rd.l s h then[((2,(s:Int),(h:Int)):am)]else[]) (fun h=>by cases sd old now mv.l rd.l s h<;>simp) (dU h n);rw[List.length_range']at this;omega
theorem Lp(hr:rd.l.length<9223372036854775808)(hrs:∀r∈rd.l,r.2.2.l.length<9223372036854775808)(hm:mv.l.length<=1000000)(hlen:old.l.length=now.l.length)(hrow:∀s,s<now.l.length->(gt old.l s).l.length=(gt now.l s).l.length/\(gt now.l s).l.length<=1000)(hn:now.l.length<=1000):
  ∀(n s:Nat)(eg:Sl am),s+n=now.l.length->eg.l.length+1000*n<1000000000->∃out',bE (e9 now) ((s:Int),t,old,now,mv,rd,a,b,c,d,eg)=some (t,old,now,mv,rd,a,b,c,d,out')/\out'.l=eg.l++xh old now mv.l rd.l s n:=by
 intro n;induction n with
 |zero=>
  intro s eg hs ho;obtain rfl:s=now.l.length:=by omega
  exact⟨eg,cB (by simp only[e9,kO,cond_false]),by simp[xh]⟩
 |succ n ih=>
  intro s eg hs ho;have hsl:s<now.l.length:=by omega
  obtain⟨r1,r2⟩:=hrow s hsl;obtain⟨o1,f1,f2⟩:=I9 (t:=t) (a:=a) (b:=b) (c:=c) (d:=d) hr hrs hm (show s<old.l.length by omega) r1 r2 (gt now.l s).l.length 0 eg (by omega) (by omega);have f1:bE (e_ (s:Int) now s) (0,t,old,now,mv,rd,a,b,c,d,eg)=_:=f1;have hl1:o1.l.length<=eg.l.length+1000:=by rw[f2,List.length_append];have:=DU (old:=old) (now:=now) (mv:=mv) (rd:=rd) (s:=s) (h:=0) (n:=(gt now.l s).l.length);omega
  obtain⟨o',e1,e2⟩:=ih (s+1) o1 (by omega) (by omega);refine⟨o',(dm ?_).trans e1,?_⟩
  .simp only[e9,jw hsl,cond_true,bq hsl,af,f1,k_ (show s<9223372036854775807 by omega)]
  .rw [e2,f2,aJ];congr 1
end
end Go.Proofs.YthcplpfiidlinaaDoor.J
