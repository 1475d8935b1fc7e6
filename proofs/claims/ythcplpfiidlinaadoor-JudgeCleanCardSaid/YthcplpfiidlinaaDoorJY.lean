/- Findings: missing moves, and extra ones. Conditions: lengths as stated. -/
import Derived.Test.YthcplpfiidlinaaDoorJV
open Go.Ev Go
open List renaming append_assoc->aL,range'->dP
open Option renaming bind_some->af
namespace Go.Proofs.YthcplpfiidlinaaDoor.J
def F9(rd:List aj)(sw h p:Int)(m:ae):Bool:=bif((m.1==sw)&&(m.2.1==h))&&(m.2.2.1==p)then rd.any fun r=>oJ r m else false
def pH(rd:List aj)(sw h p:Int)(l:List ae):Nat:=(l.filter (F9 rd sw h p)).length
section
variable{t:ah}{old now:Sl (Sl Int)}{mv:Sl ae}{rd:Sl aj}{a b c d:Int}{dY:Sl am}
theorem Gr{sw h:Int}{n48 n24:Nat}{S:Sl (Sl Int)}(hr:rd.l.length<9223372036854775808)(hrs:∀r∈rd.l,r.2.2.l.length<9223372036854775808)(hm:mv.l.length<=1000000):
  ∀(n j k:Nat),j+n=mv.l.length->k<=j->bD (dX sw dY a c d n48 S n24 h t old now mv rd b) ((k:Int),(j:Int))=some ((k+pH rd.l sw h (gt (gt S.l n24).l n48) (mv.l.drop j):Nat):Int):=by
 intro n;induction n with
 |zero=>
  intro j k hj hk;obtain rfl:j=mv.l.length:=by omega
  exact cB (by simp only[dX,kK,cond_false,List.drop_length];rfl)
 |succ n ih=>
  intro j k hj hk;have hjl:j<mv.l.length:=by omega
  have e:mv.l.drop j=gt mv.l j::mv.l.drop (j+1):=by rw[cR hjl];exact List.drop_eq_getElem_cons hjl
  have hd:=Eg (x:=(⟨t,old,now,(⟨mv,rd,a,b,c,d⟩:bI),dY⟩:bg)) (m:=gt mv.l j) hr hrs;have hd:eZ (⟨t,old,now,(⟨mv,rd,a,b,c,d⟩:bI),dY⟩:bg) (gt mv.l j)=some (rd.l.any fun r=>oJ r (gt mv.l j)):=hd;have hc:(bif((((ae.Sw (gt mv.l j))==sw)&&((ae.mC (gt mv.l j))==h))&&((ae.oc (gt mv.l j))==(gt (gt S.l n24).l n48)))then(some (rd.l.any fun r=>oJ r (gt mv.l j)):Option Bool)else some false)=some (F9 rd.l sw h (gt (gt S.l n24).l n48) (gt mv.l j)):=by unfold F9;show(bif((((gt mv.l j).1==sw)&&((gt mv.l j).2.1==h))&&((gt mv.l j).2.2.1==(gt (gt S.l n24).l n48)))then _ else _)=_;cases((((gt mv.l j).1==sw)&&((gt mv.l j).2.1==h))&&((gt mv.l j).2.2.1==(gt (gt S.l n24).l n48)))<;>rfl
  rw[e];cases hh:F9 rd.l sw h (gt (gt S.l n24).l n48) (gt mv.l j)with
  |true=>
   have:=ih (j+1) (k+1) (by omega) (by omega);have e2:k+pH rd.l sw h (gt (gt S.l n24).l n48) (gt mv.l j::mv.l.drop (j+1))=k+1+pH rd.l sw h (gt (gt S.l n24).l n48) (mv.l.drop (j+1)):=by unfold pH;rw[List.filter_cons,if_pos hh,List.length_cons];omega
   rw[e2];refine(dl ?_).trans this;rw[hh]at hc;simp only[dX,jt hjl,cond_true,bq hjl,af,hd,hc,k9 (show j<9223372036854775807 by omega),k9 (show k<9223372036854775807 by omega)]
  |false=>
   have:=ih (j+1) k (by omega) (by omega);have e2:k+pH rd.l sw h (gt (gt S.l n24).l n48) (gt mv.l j::mv.l.drop (j+1))=k+pH rd.l sw h (gt (gt S.l n24).l n48) (mv.l.drop (j+1)):=by unfold pH;rw[List.filter_cons,if_neg (by rw[hh];simp)]
   rw[e2];refine(dl ?_).trans this;rw[hh]at hc;simp only[dX,jt hjl,cond_true,bq hjl,af,hd,hc,cond_false,k9 (show j<9223372036854775807 by omega)]
def rS(old now:Sl (Sl Int))(mv:List ae)(rd:List aj)(s h:Nat):Bool:=(gt (gt now.l s).l h !=gt (gt old.l s).l h)&&(((pH rd (s:Int) (h:Int) (gt (gt now.l s).l h) mv:Nat):Int) !=1)
def AW(old now:Sl (Sl Int))(mv:List ae)(rd:List aj)(s h n:Nat):List am:=(dP h n).flatMap fun(h:Nat)=>bif rS old now mv rd s h then[(2,(s:Int),(h:Int))]else[]
theorem IZ{s:Nat}(hr:rd.l.length<9223372036854775808)(hrs:∀r∈rd.l,r.2.2.l.length<9223372036854775808)(hm:mv.l.length<=1000000)(hs:s<old.l.length)(hrow:(gt old.l s).l.length=(gt now.l s).l.length)(hb:(gt now.l s).l.length<=1000):
  ∀(n h:Nat)(dY:Sl am),h+n=(gt now.l s).l.length->dY.l.length+n<1000000000->∃out',bD (eV (s:Int) now s) ((h:Int),t,old,now,mv,rd,a,b,c,d,dY)=some (t,old,now,mv,rd,a,b,c,d,out')/\out'.l=dY.l++AW old now mv.l rd.l s h n:=by
 intro n;induction n with
 |zero=>
  intro h dY hh ho;obtain rfl:h=(gt now.l s).l.length:=by omega
  exact⟨dY,cB (by simp only[eV,kK,cond_false]),by simp[AW]⟩
 |succ n ih=>
  intro h dY hh ho;have hhl:h<(gt now.l s).l.length:=by omega
  have hc:=Gr (t:=t) (old:=old) (now:=now) (mv:=mv) (rd:=rd) (a:=a) (b:=b) (c:=c) (d:=d) (dY:=dY) (sw:=(s:Int)) (h:=(h:Int)) (n48:=h) (n24:=s) (S:=now) hr hrs hm mv.l.length 0 0 (by omega) (Nat.le_refl _);rw[List.drop_zero,Nat.zero_add]at hc;have hc:bD (dX (s:Int) dY a c d h now s (h:Int) t old now mv rd b) (0,0)=_:=hc;have hlen:(qa dY (rS old now mv.l rd.l s h) 2 (s:Int) (h:Int)).l.length<=dY.l.length+1:=by rw[rt];cases rS old now mv.l rd.l s h<;>simp
  obtain⟨o',e1,e2⟩:=ih (h+1) (qa dY (rS old now mv.l rd.l s h) 2 (s:Int) (h:Int)) (by omega) (by omega);refine⟨o',(dl ?_).trans e1,?_⟩
  .have hq:((gt (gt now.l s).l h !=gt (gt old.l s).l h)&&(((pH rd.l (s:Int) (h:Int) (gt (gt now.l s).l h) mv.l:Nat):Int) !=1))=rS old now mv.l rd.l s h:=rfl;simp only[eV,jt hhl,cond_true,bq hhl,af,hc,bq hs,bq (show h<(gt old.l s).l.length by omega),hq,oB (show dY.l.length<2147483648 by omega),k9 (show h<9223372036854775807 by omega)]
  .rw [e2,rt,aL];congr 1
def w8(old now:Sl (Sl Int))(mv:List ae)(rd:List aj)(s n:Nat):List am:=(dP s n).flatMap fun(s:Nat)=>AW old now mv rd s 0 (gt now.l s).l.length
theorem DG{s h n:Nat}:(AW old now mv.l rd.l s h n).length<=n:=by unfold AW;have:=gT (m:=1) (f:=fun h:Nat=>bif rS old now mv.l rd.l s h then[((2,(s:Int),(h:Int)):am)]else[]) (fun h=>by cases rS old now mv.l rd.l s h<;>simp) (dP h n);rw[List.length_range']at this;omega
theorem Lf(hr:rd.l.length<9223372036854775808)(hrs:∀r∈rd.l,r.2.2.l.length<9223372036854775808)(hm:mv.l.length<=1000000)(hlen:old.l.length=now.l.length)(hrow:∀s,s<now.l.length->(gt old.l s).l.length=(gt now.l s).l.length/\(gt now.l s).l.length<=1000)(hn:now.l.length<=1000):
  ∀(n s:Nat)(dY:Sl am),s+n=now.l.length->dY.l.length+1000*n<1000000000->∃out',bD (eU now) ((s:Int),t,old,now,mv,rd,a,b,c,d,dY)=some (t,old,now,mv,rd,a,b,c,d,out')/\out'.l=dY.l++w8 old now mv.l rd.l s n:=by
 intro n;induction n with
 |zero=>
  intro s dY hs ho;obtain rfl:s=now.l.length:=by omega
  exact⟨dY,cB (by simp only[eU,kK,cond_false]),by simp[w8]⟩
 |succ n ih=>
  intro s dY hs ho;have hsl:s<now.l.length:=by omega
  obtain⟨r1,r2⟩:=hrow s hsl;obtain⟨o1,f1,f2⟩:=IZ (t:=t) (a:=a) (b:=b) (c:=c) (d:=d) hr hrs hm (show s<old.l.length by omega) r1 r2 (gt now.l s).l.length 0 dY (by omega) (by omega);have f1:bD (eV (s:Int) now s) (0,t,old,now,mv,rd,a,b,c,d,dY)=_:=f1;have hl1:o1.l.length<=dY.l.length+1000:=by rw[f2,List.length_append];have:=DG (old:=old) (now:=now) (mv:=mv) (rd:=rd) (s:=s) (h:=0) (n:=(gt now.l s).l.length);omega
  obtain⟨o',e1,e2⟩:=ih (s+1) o1 (by omega) (by omega);refine⟨o',(dl ?_).trans e1,?_⟩
  .simp only[eU,jt hsl,cond_true,bq hsl,af,f1,k9 (show s<9223372036854775807 by omega)]
  .rw [e2,f2,aL];congr 1
end
end Go.Proofs.YthcplpfiidlinaaDoor.J
