/- Findings: missing moves, and extra ones. Conditions: lengths as stated. -/
import Derived.Test.YthcplpfiidlinaaDoorJV
open Go.Ev Go
open List renaming append_assoc->aJ,range'->dX
open Option renaming bind_some->ae
namespace Go.Proofs.YthcplpfiidlinaaDoor.J
def G6(rd:List aj)(sw h p:Int)(m:af):Bool:=bif((m.1==sw)&&(m.2.1==h))&&(m.2.2.1==p)then rd.any fun r=>nH r m else false
def nN(rd:List aj)(sw h p:Int)(l:List af):Nat:=(l.filter (G6 rd sw h p)).length
section
variable{t:ah}{old now:Sl (Sl Int)}{mv:Sl af}{rd:Sl aj}{a b c d:Int}{dO:Sl ap}
theorem EN{sw h:Int}{n48 n24:Nat}{S:Sl (Sl Int)}(hr:rd.l.length<9223372036854775808)(hrs:∀r∈rd.l,r.2.2.l.length<9223372036854775808)(hm:mv.l.length<=1000000):
  ∀(n j k:Nat),j+n=mv.l.length->k<=j->br (dG sw dO a c d n48 S n24 h t old now mv rd b) ((k:Int),(j:Int))=some ((k+nN rd.l sw h (gt (gt S.l n24).l n48) (mv.l.drop j):Nat):Int):=by
 intro n;induction n with
 |zero=>
  intro j k hj hk;obtain rfl:j=mv.l.length:=by omega
  exact ci (by simp only[dG,j4,cond_false,List.drop_length];rfl)
 |succ n ih=>
  intro j k hj hk;have hjl:j<mv.l.length:=by omega
  have e:mv.l.drop j=gt mv.l j::mv.l.drop (j+1):=by rw[eA hjl];exact List.drop_eq_getElem_cons hjl
  have hd:=CP (x:=(⟨t,old,now,(⟨mv,rd,a,b,c,d⟩:aE),dO⟩:bw)) (m:=gt mv.l j) hr hrs;have hd:eT (⟨t,old,now,(⟨mv,rd,a,b,c,d⟩:aE),dO⟩:bw) (gt mv.l j)=some (rd.l.any fun r=>nH r (gt mv.l j)):=hd;have hc:(bif((((af.Sw (gt mv.l j))==sw)&&((af.mr (gt mv.l j))==h))&&((af.mq (gt mv.l j))==(gt (gt S.l n24).l n48)))then(some (rd.l.any fun r=>nH r (gt mv.l j)):Option Bool)else some false)=some (G6 rd.l sw h (gt (gt S.l n24).l n48) (gt mv.l j)):=by unfold G6;show(bif((((gt mv.l j).1==sw)&&((gt mv.l j).2.1==h))&&((gt mv.l j).2.2.1==(gt (gt S.l n24).l n48)))then _ else _)=_;cases((((gt mv.l j).1==sw)&&((gt mv.l j).2.1==h))&&((gt mv.l j).2.2.1==(gt (gt S.l n24).l n48)))<;>rfl
  rw[e];cases hh:G6 rd.l sw h (gt (gt S.l n24).l n48) (gt mv.l j)with
  |true=>
   have:=ih (j+1) (k+1) (by omega) (by omega);have e2:k+nN rd.l sw h (gt (gt S.l n24).l n48) (gt mv.l j::mv.l.drop (j+1))=k+1+nN rd.l sw h (gt (gt S.l n24).l n48) (mv.l.drop (j+1)):=by unfold nN;rw[List.filter_cons,if_pos hh,List.length_cons];omega
   rw[e2];refine(cG ?_).trans this;rw[hh]at hc;simp only[dG,jm hjl,cond_true,bI hjl,ae,hd,hc,kz (show j<9223372036854775807 by omega),kz (show k<9223372036854775807 by omega)]
  |false=>
   have:=ih (j+1) k (by omega) (by omega);have e2:k+nN rd.l sw h (gt (gt S.l n24).l n48) (gt mv.l j::mv.l.drop (j+1))=k+nN rd.l sw h (gt (gt S.l n24).l n48) (mv.l.drop (j+1)):=by unfold nN;rw[List.filter_cons,if_neg (by rw[hh];simp)]
   rw[e2];refine(cG ?_).trans this;rw[hh]at hc;simp only[dG,jm hjl,cond_true,bI hjl,ae,hd,hc,cond_false,kz (show j<9223372036854775807 by omega)]
def sR(old now:Sl (Sl Int))(mv:List af)(rd:List aj)(s h:Nat):Bool:=(gt (gt now.l s).l h !=gt (gt old.l s).l h)&&(((nN rd (s:Int) (h:Int) (gt (gt now.l s).l h) mv:Nat):Int) !=1)
def xE(old now:Sl (Sl Int))(mv:List af)(rd:List aj)(s h n:Nat):List ap:=(dX h n).flatMap fun(h:Nat)=>bif sR old now mv rd s h then[(2,(s:Int),(h:Int))]else[]
theorem GT{s:Nat}(hr:rd.l.length<9223372036854775808)(hrs:∀r∈rd.l,r.2.2.l.length<9223372036854775808)(hm:mv.l.length<=1000000)(hs:s<old.l.length)(hrow:(gt old.l s).l.length=(gt now.l s).l.length)(hb:(gt now.l s).l.length<=1000):
  ∀(n h:Nat)(dO:Sl ap),h+n=(gt now.l s).l.length->dO.l.length+n<1000000000->∃out',br (eP (s:Int) now s) ((h:Int),t,old,now,mv,rd,a,b,c,d,dO)=some (t,old,now,mv,rd,a,b,c,d,out')/\out'.l=dO.l++xE old now mv.l rd.l s h n:=by
 intro n;induction n with
 |zero=>
  intro h dO hh ho;obtain rfl:h=(gt now.l s).l.length:=by omega
  exact⟨dO,ci (by simp only[eP,j4,cond_false]),by simp[xE]⟩
 |succ n ih=>
  intro h dO hh ho;have hhl:h<(gt now.l s).l.length:=by omega
  have hc:=EN (t:=t) (old:=old) (now:=now) (mv:=mv) (rd:=rd) (a:=a) (b:=b) (c:=c) (d:=d) (dO:=dO) (sw:=(s:Int)) (h:=(h:Int)) (n48:=h) (n24:=s) (S:=now) hr hrs hm mv.l.length 0 0 (by omega) (Nat.le_refl _);rw[List.drop_zero,Nat.zero_add]at hc;have hc:br (dG (s:Int) dO a c d h now s (h:Int) t old now mv rd b) (0,0)=_:=hc;have hlen:(py dO (sR old now mv.l rd.l s h) 2 (s:Int) (h:Int)).l.length<=dO.l.length+1:=by rw[qK];cases sR old now mv.l rd.l s h<;>simp
  obtain⟨o',e1,e2⟩:=ih (h+1) (py dO (sR old now mv.l rd.l s h) 2 (s:Int) (h:Int)) (by omega) (by omega);refine⟨o',(cG ?_).trans e1,?_⟩
  .have hq:((gt (gt now.l s).l h !=gt (gt old.l s).l h)&&(((nN rd.l (s:Int) (h:Int) (gt (gt now.l s).l h) mv.l:Nat):Int) !=1))=sR old now mv.l rd.l s h:=rfl;simp only[eP,jm hhl,cond_true,bI hhl,ae,hc,bI hs,bI (show h<(gt old.l s).l.length by omega),hq,nz (show dO.l.length<2147483648 by omega),kz (show h<9223372036854775807 by omega)]
  .rw [e2,qK,aJ];congr 1
def xF(old now:Sl (Sl Int))(mv:List af)(rd:List aj)(s n:Nat):List ap:=(dX s n).flatMap fun(s:Nat)=>xE old now mv rd s 0 (gt now.l s).l.length
theorem Ch{s h n:Nat}:(xE old now mv.l rd.l s h n).length<=n:=by unfold xE;have:=j5 (m:=1) (f:=fun h:Nat=>bif sR old now mv.l rd.l s h then[((2,(s:Int),(h:Int)):ap)]else[]) (fun h=>by cases sR old now mv.l rd.l s h<;>simp) (dX h n);rw[List.length_range']at this;omega
theorem IZ(hr:rd.l.length<9223372036854775808)(hrs:∀r∈rd.l,r.2.2.l.length<9223372036854775808)(hm:mv.l.length<=1000000)(hlen:old.l.length=now.l.length)(hrow:∀s,s<now.l.length->(gt old.l s).l.length=(gt now.l s).l.length/\(gt now.l s).l.length<=1000)(hn:now.l.length<=1000):
  ∀(n s:Nat)(dO:Sl ap),s+n=now.l.length->dO.l.length+1000*n<1000000000->∃out',br (eO now) ((s:Int),t,old,now,mv,rd,a,b,c,d,dO)=some (t,old,now,mv,rd,a,b,c,d,out')/\out'.l=dO.l++xF old now mv.l rd.l s n:=by
 intro n;induction n with
 |zero=>
  intro s dO hs ho;obtain rfl:s=now.l.length:=by omega
  exact⟨dO,ci (by simp only[eO,j4,cond_false]),by simp[xF]⟩
 |succ n ih=>
  intro s dO hs ho;have hsl:s<now.l.length:=by omega
  obtain⟨r1,r2⟩:=hrow s hsl;obtain⟨o1,f1,f2⟩:=GT (t:=t) (a:=a) (b:=b) (c:=c) (d:=d) hr hrs hm (show s<old.l.length by omega) r1 r2 (gt now.l s).l.length 0 dO (by omega) (by omega);have f1:br (eP (s:Int) now s) (0,t,old,now,mv,rd,a,b,c,d,dO)=_:=f1;have hl1:o1.l.length<=dO.l.length+1000:=by rw[f2,List.length_append];have:=Ch (old:=old) (now:=now) (mv:=mv) (rd:=rd) (s:=s) (h:=0) (n:=(gt now.l s).l.length);omega
  obtain⟨o',e1,e2⟩:=ih (s+1) o1 (by omega) (by omega);refine⟨o',(cG ?_).trans e1,?_⟩
  .simp only[eO,jm hsl,cond_true,bI hsl,ae,f1,kz (show s<9223372036854775807 by omega)]
  .rw [e2,f2,aJ];congr 1
end
end Go.Proofs.YthcplpfiidlinaaDoor.J
