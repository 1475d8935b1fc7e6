/- Findings: the reference's ports, and all that its Check notes. Conditions: lengths as stated. -/
import Derived.Test.YthcplpfiidlinaaDoorJD
open Go.Ev Go
open Bool renaming false_or->kM,not_false->dv,not_true->bO,or_false->mr
open List renaming any_cons->mq,append_assoc->aH,drop_eq_getElem_cons->cn,drop_length->dp,drop_zero->ck,flatMap_cons->bf,getElem_mem->ct,length_append->ap,length_range'->ft,length_singleton->aW,nil_append->bw,range->bt,range'->dh,range'_succ->iM
open Option renaming bind_some->ae
open Prod.mk renaming inj->ad
namespace Go.Proofs.YthcplpfiidlinaaDoor.J
def vb(r:aj)(s h:Nat)(m:ah):Bool:=bif m.1==(s:Int)then(bif m.2.1==(h:Int)then mj r m else false)else false
theorem x7{t:af}{m:ah}:s7 t m=true<->(0<=m.1/\m.1<t.aU)/\0<=m.2.1/\m.2.1<(t.aN.l.length:Int):=by unfold s7;simp only[Bool.and_eq_true,decide_eq_true_eq];exact⟨fun⟨⟨⟨a,b⟩,c⟩,d⟩=>⟨⟨a,b⟩,c,d⟩,fun⟨⟨a,b⟩,c,d⟩=>⟨⟨⟨a,b⟩,c⟩,d⟩⟩
theorem Ej{t:af}{r:aj}{m:ah}(h:ml t r m=true):s7 t m=true/\mj r m=true:=by unfold ml at h;cases hB:s7 t m with|true=>rw[hB]at h;exact⟨rfl,h⟩|false=>rw[hB]at h;cases h
theorem He{r:aj}{s h:Nat}{m:ah}(hn:¬(m.1=(s:Int)/\m.2.1=(h:Int))):vb r s h m=false:=by
 unfold vb;by_cases h1:m.1=(s:Int)
 .have h2:¬m.2.1=(h:Int):=fun h2=>hn ⟨h1,h2⟩;rw[beq_false_of_ne h2];cases m.1==(s:Int)<;>rfl
 .rw [beq_false_of_ne h1];rfl
theorem D0{r:aj}{s h:Nat}{m:ah}(h1:m.1=(s:Int))(h2:m.2.1=(h:Int)):vb r s h m=mj r m:=by unfold vb;rw[h1,h2,beq_self_eq_true,beq_self_eq_true];rfl
section
variable{t:af}{old now:Sl (Sl Int)}{p:am}
theorem M3{r:aj}{A:List (Sl Int)}{s h:Nat}{m:ah}(hs:s<A.length)(hA:(A.length:Int)=t.aU)(hh:h<t.aN.l.length)(hr:(gt A s).l.length=t.aN.l.length):
  gt (gt (zi t r A m) s).l h=bif vb r s h m then m.2.2.1 else gt (gt A s).l h:=by
 by_cases hn:m.1=(s:Int)/\m.2.1=(h:Int)
 .have hB:s7 t m=true:=x7.2 ⟨⟨by omega,by omega⟩,by omega,by omega⟩;have e1:m.1.toNat=s:=by omega
  have e2:m.2.1.toNat=h:=by omega
  rw[D0 hn.1 hn.2];unfold zi ml;rw[hB,cond_true,e1,e2];cases mj r m with|false=>rfl|true=>rw[cond_true,cond_true,oC,if_pos ⟨rfl,hs⟩,Sl.lp,oC,if_pos ⟨rfl,by omega⟩]
 .rw [He hn,cond_false];unfold zi;cases hd:ml t r m with
  |false=>rfl
  |true=>
   obtain⟨⟨b1,b2⟩,b3,b4⟩:=x7.1 (Ej hd).1;rw[cond_true,oC];split
   .rename_i h1;rw[Sl.lp,oC,if_neg (by omega),h1.1]
   .rfl
theorem NJ{r:aj}{P:List (Sl Int)}{s h:Nat}{m:ah}(hs:s<P.length)(hA:(P.length:Int)=t.aU)(hh:h<t.aN.l.length):
  (gt (xd t r h P m) s).l=bif vb r s h m then(gt P s).l++[m.2.2.1]else(gt P s).l:=by
 by_cases hn:m.1=(s:Int)/\m.2.1=(h:Int)
 .have hB:s7 t m=true:=x7.2 ⟨⟨by omega,by omega⟩,by omega,by omega⟩;have e1:m.1.toNat=s:=by omega
  rw[D0 hn.1 hn.2];unfold xd ml;rw[hB,cond_true,e1,hn.2,beq_self_eq_true,cond_true];cases mj r m with|false=>rfl|true=>rw[cond_true,cond_true,oC,if_pos ⟨rfl,hs⟩,Sl.lp]
 .rw [He hn,cond_false];unfold xd;cases hq:m.2.1==(h:Int)with
  |false=>rfl
  |true=>rw[cond_true];cases hd:ml t r m with|false=>rfl|true=>obtain⟨⟨b1,b2⟩,b3,b4⟩:=x7.1 (Ej hd).1;have h2:m.2.1=(h:Int):=eq_of_beq hq;rw[cond_true,oC,if_neg (by omega)]
theorem HZ{k s h:Nat}(hk:k<p.az.l.length)(hb:∀r∈p.az.l,r.2.2.l.length<1000000)(hm:p.aJ.l.length<=1000000)(hh:h<t.aN.l.length):
  ∀(n j:Nat)(A:List (Sl Int)),j+n=p.aJ.l.length->(A.length:Int)=t.aU->s<A.length->(gt A s).l.length=t.aN.l.length->
   bc (oK p (s:Int) (h:Int) (k:Int)) (gt (gt A s).l h,(j:Int))=some (gt (gt (Oe t (gt p.az.l k) (p.aJ.l.drop j) A) s).l h):=by
 intro n;induction n with
 |zero=>
  intro j A hj hA hs hr;obtain rfl:j=p.aJ.l.length:=by omega
  exact bC (by simp only[oK,gk,cond_false,dp];rfl)
 |succ n ih=>
  intro j A hj hA hs hr;have hjl:j<p.aJ.l.length:=by omega
  have e:p.aJ.l.drop j=gt p.aJ.l j::p.aJ.l.drop (j+1):=by rw[dV hjl];exact cn hjl
  rw[e];have hd:=wE (m:=gt p.aJ.l j) hk (hb _ (by rw[dV hk];exact ct _));have hc:(bif((aZ.Sw (gt p.aJ.l j))==(s:Int))then(bif((aZ.jF (gt p.aJ.l j))==(h:Int))then(some (mj (gt p.az.l k) (gt p.aJ.l j)):Option Bool)else some false)else some false)=some (vb (gt p.az.l k) s h (gt p.aJ.l j)):=by unfold vb;show(bif((gt p.aJ.l j).1==(s:Int))then(bif((gt p.aJ.l j).2.1==(h:Int))then _ else _)else _)=_;cases((gt p.aJ.l j).1==(s:Int))<;>cases((gt p.aJ.l j).2.1==(h:Int))<;>rfl
  refine(bL ?_).trans (ih (j+1) (zi t (gt p.az.l k) A (gt p.aJ.l j)) (by omega) (by rw[tG];exact hA) (by rw[tG];exact hs) (by rw[zh];exact hr));rw[M3 hs hA hh hr];simp only[oK,fz hjl,cond_true,bm hjl,ae,hd,hc,gB (show j<9223372036854775807 by omega)];cases vb (gt p.az.l k) s h (gt p.aJ.l j)<;>rfl
theorem HY{k s h:Nat}(hk:k<=p.az.l.length)(hR:p.az.l.length<=1000)(hb:∀r∈p.az.l,r.2.2.l.length<1000000)(hm:p.aJ.l.length<=1000000)(hh:h<t.aN.l.length){A:List (Sl Int)}(hA:(A.length:Int)=t.aU)(hs:s<A.length)(hr:(gt A s).l.length=t.aN.l.length):
  ∀(n i:Nat),i+n=k->bc (oJ p (k:Int) (s:Int) (h:Int)) (gt (gt (rO t p.az.l p.aJ.l A i) s).l h,(i:Int))=some (gt (gt (rO t p.az.l p.aJ.l A k) s).l h):=by
 intro n;induction n with
 |zero=>
  intro i hi;obtain rfl:i=k:=by omega
  exact bC (by simp only[oJ,gk,cond_false])
 |succ n ih=>
  intro i hi;have hik:i<k:=by omega
  have h1:=HZ (t:=t) (p:=p) (k:=i) (s:=s) (h:=h) (by omega) hb hm hh p.aJ.l.length 0 (rO t p.az.l p.aJ.l A i) (by omega) (by rw[pI];exact hA) (by rw[pI];exact hs) (by rw[Cp];exact hr);rw[ck,<-Ey (by omega)]at h1;refine(bL ?_).trans (ih (i+1) (by omega));have h1:bc (oK p (s:Int) (h:Int) (i:Int)) (gt (gt (rO t p.az.l p.aJ.l A i) s).l h,0)=_:=h1;simp only[oJ,fz hik,cond_true,h1,ae,gB (show i<9223372036854775807 by omega)]
theorem ME{k s h:Nat}(hk:k<=p.az.l.length)(hR:p.az.l.length<=1000)(hb:∀r∈p.az.l,r.2.2.l.length<1000000)(hm:p.aJ.l.length<=1000000)(hh:h<t.aN.l.length)(hA:(old.l.length:Int)=t.aU)(hs:s<old.l.length)(hr:(gt old.l s).l.length=t.aN.l.length):
  vA old p (k:Int) (s:Int) (h:Int)=some (gt (gt (rO t p.az.l p.aJ.l old.l k) s).l h):=by
 have h1:=HY (t:=t) (p:=p) (A:=old.l) hk hR hb hm hh hA hs hr k 0 (by omega);have h1:bc (oJ p (k:Int) (s:Int) (h:Int)) (gt (gt old.l s).l h,0)=_:=h1;simp only[vA,bm hs,bm (show h<(gt old.l s).l.length by omega),ae,h1]
theorem C8{k s h:Nat}(hk:k<p.az.l.length)(hb:∀r∈p.az.l,r.2.2.l.length<1000000)(hm:p.aJ.l.length<=1000000)(hh:h<t.aN.l.length):
  ∀(n j:Nat)(P:List (Sl Int))(o:Sl Int),j+n=p.aJ.l.length->(P.length:Int)=t.aU->s<P.length->o.l=(gt P s).l->o.l.length+n<1000000000->
   ∃o',bc (ld p (k:Int) (s:Int) (h:Int)) ((j:Int),o)=some o'/\o'.l=(gt (u4 t (gt p.az.l k) h (p.aJ.l.drop j) P) s).l:=by
 intro n;induction n with
 |zero=>
  intro j P o hj hA hs ho hl;obtain rfl:j=p.aJ.l.length:=by omega
  exact⟨o,bC (by simp only[ld,gk,cond_false]),by rw[ho,dp];rfl⟩
 |succ n ih=>
  intro j P o hj hA hs ho hl;have hjl:j<p.aJ.l.length:=by omega
  have e:p.aJ.l.drop j=gt p.aJ.l j::p.aJ.l.drop (j+1):=by rw[dV hjl];exact cn hjl
  rw[e];have hd:=wE (m:=gt p.aJ.l j) hk (hb _ (by rw[dV hk];exact ct _));have hc:(bif((aZ.Sw (gt p.aJ.l j))==(s:Int))then(bif((aZ.jF (gt p.aJ.l j))==(h:Int))then(some (mj (gt p.az.l k) (gt p.aJ.l j)):Option Bool)else some false)else some false)=some (vb (gt p.az.l k) s h (gt p.aJ.l j)):=by unfold vb;show(bif((gt p.aJ.l j).1==(s:Int))then(bif((gt p.aJ.l j).2.1==(h:Int))then _ else _)else _)=_;cases((gt p.aJ.l j).1==(s:Int))<;>cases((gt p.aJ.l j).2.1==(h:Int))<;>rfl
  have ha:=NJ (t:=t) (r:=gt p.az.l k) (P:=P) (m:=gt p.aJ.l j) hs hA hh;have hcap:fF (o.l++[aZ.h_ (gt p.aJ.l j)])=some _:=fR (by rw[ap,aW];omega)
  obtain⟨o',e1,e2⟩:=ih (j+1) (xd t (gt p.az.l k) h P (gt p.aJ.l j)) (bif vb (gt p.az.l k) s h (gt p.aJ.l j)then .mk (o.l++[aZ.h_ (gt p.aJ.l j)])else o) (by omega) (by rw[tX];exact hA) (by rw[tX];exact hs) (by
   rw[ha,<-ho];cases vb (gt p.az.l k) s h (gt p.aJ.l j)<;>rfl) (by
   cases vb (gt p.az.l k) s h (gt p.aJ.l j)
   .show o.l.length+n<_;omega
   .show (o.l++[_]).length+n<_;rw[ap,aW];omega)
  refine⟨o',(bL ?_).trans e1,e2⟩;simp only[ld,fz hjl,cond_true,bm hjl,ae,hd,hc,hcap,gB (show j<9223372036854775807 by omega)];cases vb (gt p.az.l k) s h (gt p.aJ.l j)<;>rfl
theorem Fl{k s h:Nat}(hk:k<p.az.l.length)(hR:p.az.l.length<=1000)(hb:∀r∈p.az.l,r.2.2.l.length<1000000)(hm:p.aJ.l.length<=1000000)(hh:h<t.aN.l.length)(hA:(old.l.length:Int)=t.aU)(hs:s<old.l.length)(hr:(gt old.l s).l.length=t.aN.l.length):
  ∃o,qE old p (k:Int) (s:Int) (h:Int)=some o/\o.l=(gt (gq t (gt p.az.l k) h p.aJ.l (rO t p.az.l p.aJ.l old.l k)) s).l:=by
 have hl:s<(rO t p.az.l p.aJ.l old.l k).length:=by rw[pI];exact hs
 have hg:gt ((bt (rO t p.az.l p.aJ.l old.l k).length).map fun s=>Sl.mk [gt (gt (rO t p.az.l p.aJ.l old.l k) s).l h]) s=Sl.mk [gt (gt (rO t p.az.l p.aJ.l old.l k) s).l h]:=by rw[dV (by simpa using hl)];simp
 obtain⟨o,e1,e2⟩:=C8 (t:=t) (p:=p) (k:=k) (s:=s) (h:=h) hk hb hm hh p.aJ.l.length 0 ((bt (rO t p.az.l p.aJ.l old.l k).length).map fun s=>Sl.mk [gt (gt (rO t p.az.l p.aJ.l old.l k) s).l h]) (.mk [gt (gt (rO t p.az.l p.aJ.l old.l k) s).l h]) (by omega) (by simpa[pI]using hA) (by simpa using hl) (by rw[hg]) (by simp;omega);have e1:bc (ld p (k:Int) (s:Int) (h:Int)) (0,.mk [gt (gt (rO t p.az.l p.aJ.l old.l k) s).l h])=_:=e1;exact⟨o,by simp only[qE,ME (t:=t) (Nat.le_of_lt hk) hR hb hm hh hA hs hr,ae,e1],by rw[e2,ck];rfl⟩
theorem Dc{h s:Nat}{r:Sl Int}(hb:t.aY.l.length<9223372036854775808)(hh:h<t.aN.l.length)(hP:r.l.length<=1000000):
  ∀(n j:Nat)(b:Bool)(es:Sl bD),j+n=r.l.length->es.l.length+n<1000000000->∃es',bc (kE t (h:Int) r (s:Int)) (b,(j:Int),es)=some (b||(r.l.drop j).any (qe t h (s:Int)),es')/\es'.l=es.l++(r.l.drop j).flatMap (nG t (s:Int)):=by
 intro n;induction n with
 |zero=>
  intro j b es hj ho;obtain rfl:j=r.l.length:=by omega
  exact⟨es,bC (by simp only[kE,gk,cond_false,dp,List.any_nil,mr]),by simp⟩
 |succ n ih=>
  intro j b es hj ho;have hjl:j<r.l.length:=by omega
  have e:r.l.drop j=gt r.l j::r.l.drop (j+1):=by rw[dV hjl];exact cn hjl
  have hp:=vz (t:=t) (s:Int) (gt r.l j) hb;have ih1:df (h:Int) ((af.aN t).l).length=some h:=bm hh;rw[e,mq,bf];cases hk:(jb t (s:Int) (gt r.l j)).2.2.2 with
  |true=>
   have hE:nG t (s:Int) (gt r.l j)=[((s:Int),(jb t (s:Int) (gt r.l j)).1)]:=by unfold nG;rw[hk];rfl
   have hH:qe t h (s:Int) (gt r.l j)=false:=by unfold qe;rw[hk];rfl
   obtain⟨es',e1,e2⟩:=ih (j+1) b (.mk (es.l++[((s:Int),(jb t (s:Int) (gt r.l j)).1)])) (by omega) (by rw[Sl.lp,ap,aW];omega);refine⟨es',?_,by rw[e2,Sl.lp,hE,aH]⟩;rw[hH,kM];refine(bL ?_).trans e1;have hcap:fF (es.l++[(((s:Int),(jb t (s:Int) (gt r.l j)).1):bD)])=some _:=fR (by rw[ap,aW];omega);simp only[kE,fz hjl,cond_true,bm hjl,ae,hp,hk,hcap,bO,cond_false,gB (show j<9223372036854775807 by omega)]
  |false=>
   have hE:nG t (s:Int) (gt r.l j)=[]:=by unfold nG;rw[hk];rfl
   have hH:qe t h (s:Int) (gt r.l j)=!(decide (gt t.aN.l h=(((s:Int),gt r.l j):cW))):=by unfold qe;rw[hk];rfl
   obtain⟨es',e1,e2⟩:=ih (j+1) (b||!(decide (gt t.aN.l h=(((s:Int),gt r.l j):cW)))) es (by omega) (by omega);refine⟨es',?_,by rw[e2,hE,bw]⟩;rw[hH,<-Bool.or_assoc];refine(bL ?_).trans e1
   have hc:(bif((cW.At (gt t.aN.l h)) !=(s:Int))then(some true:Option Bool)else some ((cW.h_ (gt t.aN.l h)) !=(gt r.l j)))=some (!(decide (gt t.aN.l h=(((s:Int),gt r.l j):cW)))):=by
    generalize gt t.aN.l h=q;obtain⟨a,c⟩:=q;show(bif(a !=(s:Int))then(some true:Option Bool)else some (c !=(gt r.l j)))=_;by_cases h1:a=(s:Int)
    .rw [h1,bne_self_eq_false,cond_false];by_cases h2:c=gt r.l j
     .rw [h2,bne_self_eq_false,decide_eq_true rfl];rfl
     .rw [bne_iff_ne.2 h2,decide_eq_false (fun q=>h2 (ad q).2)];rfl
    .rw [bne_iff_ne.2 h1,decide_eq_false (fun q=>h1 (ad q).1)];rfl
   simp only[kE,fz hjl,cond_true,bm hjl,ae,hp,hk,cond_false,dv,ih1,hc,gB (show j<9223372036854775807 by omega)];cases decide (gt t.aN.l h=(((s:Int),gt r.l j):cW))<;>cases b<;>rfl
theorem Db{k h:Nat}(hb:t.aY.l.length<9223372036854775808)(hh:h<t.aN.l.length)(hk:k<p.az.l.length)(hR:p.az.l.length<=1000)(hw:∀r∈p.az.l,r.2.2.l.length<1000000)(hm:p.aJ.l.length<=900)(hA:(old.l.length:Int)=t.aU)(hr:∀s,s<old.l.length->(gt old.l s).l.length=t.aN.l.length)(hn:old.l.length<=1000):
  ∀(n s:Nat)(b:Bool)(es:Sl bD),s+n=old.l.length->es.l.length+1000*n<1000000000->∃es',bc (lY t old p (k:Int) (h:Int)) (b,(s:Int),es)=some (b||km t h (gq t (gt p.az.l k) h p.aJ.l (rO t p.az.l p.aJ.l old.l k)) s n,es')/\es'.l=es.l++sF t (gq t (gt p.az.l k) h p.aJ.l (rO t p.az.l p.aJ.l old.l k)) s n:=by
 intro n;generalize hP:gq t (gt p.az.l k) h p.aJ.l (rO t p.az.l p.aJ.l old.l k)=P;induction n with
 |zero=>
  intro s b es hs ho;obtain rfl:s=old.l.length:=by omega
  have hd:decide ((old.l.length:Int)<af.aU t)=false:=decide_eq_false (by omega);exact⟨es,bC (by simp only[lY,hd,cond_false,km,List.range'_zero,List.any_nil,mr]),by simp[sF]⟩
 |succ n ih=>
  intro s b es hs ho;have hsl:s<old.l.length:=by omega
  have hd:decide ((s:Int)<af.aU t)=true:=decide_eq_true (by omega);obtain⟨o,p1,p2⟩:=Fl (t:=t) (p:=p) (old:=old) (k:=k) (s:=s) (h:=h) hk hR hw (by omega) hh hA hsl (hr s hsl);rw[hP]at p2;have hp:o.l.length<=1000:=by rw[p2,<-hP];have:=tu (t:=t) (r:=gt p.az.l k) (h:=h) (mv:=p.aJ.l) (A:=rO t p.az.l p.aJ.l old.l k) s;omega
  obtain⟨e1,f1,f2⟩:=Dc (t:=t) (h:=h) (s:=s) (r:=o) (by omega) hh (by omega) o.l.length 0 b es (by omega) (by omega);rw[ck]at f1 f2;have f1:bc (kE t (h:Int) o (s:Int)) (b,0,es)=_:=f1;rw[p2]at f1 f2;have hl:e1.l.length<=es.l.length+1000:=by rw[f2,ap];have:=iv (m:=1) (f:=nG t (s:Int)) (fun p=>zG) (gt P s).l;rw[p2]at hp;omega
  obtain⟨es',g1,g2⟩:=ih (s+1) (b||(gt P s).l.any (qe t h (s:Int))) e1 (by omega) (by omega);refine⟨es',?_,?_⟩
  .have hx:(b||km t h P s (n+1))=((b||(gt P s).l.any (qe t h (s:Int)))||km t h P (s+1) n):=by unfold km;rw[iM,mq,Bool.or_assoc]
   rw[hx];refine(bL ?_).trans g1;simp only[lY,hd,cond_true,p1,ae,f1,gB (show s<9223372036854775807 by omega)]
  .rw [g2,f2,aH];congr 1
theorem HV{k h:Nat}(hV:kS t)(hh:h<t.aN.l.length)(hk:k<p.az.l.length)(hR:p.az.l.length<=1000)(hw:∀r∈p.az.l,r.2.2.l.length<1000000)(hm:p.aJ.l.length<=900)(hA:(old.l.length:Int)=t.aU)(hr:∀s,s<old.l.length->(gt old.l s).l.length=t.aN.l.length):
  ∃o,sd t old p (k:Int) (h:Int)=some o/\o.l=sN t k h (gq t (gt p.az.l k) h p.aJ.l (rO t p.az.l p.aJ.l old.l k)):=by
 have hs:=hV.sw;have hlk:=hV.xx;obtain⟨es,e1,e2⟩:=Db (t:=t) (p:=p) (old:=old) (k:=k) (h:=h) (by omega) hh hk hR hw hm hA hr (by omega) old.l.length 0 false .nil (by omega) (by simp;omega);have hPl:(gq t (gt p.az.l k) h p.aJ.l (rO t p.az.l p.aJ.l old.l k)).length=old.l.length:=by rw[xr,pI]
 have hrow:∀s,s<(gq t (gt p.az.l k) h p.aJ.l (rO t p.az.l p.aJ.l old.l k)).length->(gt (gq t (gt p.az.l k) h p.aJ.l (rO t p.az.l p.aJ.l old.l k)) s).l.length<=1000:=fun s _=>by have:=tu (t:=t) (r:=gt p.az.l k) (h:=h) (mv:=p.aJ.l) (A:=rO t p.az.l p.aJ.l old.l k) s;omega
 rw[<-hPl]at e1 e2;generalize hP:gq t (gt p.az.l k) h p.aJ.l (rO t p.az.l p.aJ.l old.l k)=P at e1 e2 hPl hrow|-;have e1:bc (lY t old p (k:Int) (h:Int)) (false,0,Sl.nil)=some (false||km t h P 0 P.length,es):=e1;have e2:es.l=sF t P 0 P.length:=e2;have hPs:(P.length:Int)=t.aU:=by omega
 have hel:=Bg (t:=t) (P:=P) (n:=P.length) hrow;have hF:tZ (t.aU.toNat:Int) es.l:=by rw[e2];exact Bh hV hPs
 obtain⟨s,g1,g2⟩:=Ft (l:=es) (by rw[e2];omega) hF;have hsw:((t.aU.toNat:Nat):Int)=t.aU:=by omega
 rw[hsw]at g1;have g1:nU (af.aU t) es=some s:=g1;have hok:decide ((s.l.length:Int)>0)=uC t P:=by unfold uC;rw[Bool.eq_iff_iff,decide_eq_true_eq,xV,<-e2,<-g2];omega
 have c1:fF ([]++[((5,(k:Int),(h:Int)):aL)])=some [(5,(k:Int),(h:Int))]:=rfl;have c2:fF ((Sl.nil:Sl aL).l++[((6,(k:Int),(h:Int)):aL)])=some [(6,(k:Int),(h:Int))]:=rfl;have c3:fF ((Sl.mk [((5,(k:Int),(h:Int)):aL)]).l++[((6,(k:Int),(h:Int)):aL)])=some [(5,(k:Int),(h:Int)),(6,(k:Int),(h:Int))]:=rfl;simp only[sd,e1,ae,kM,g1,hok,sN];cases km t h P 0 P.length with
 |true=>simp only[cond_true,c1,ae,c3];cases uC t P with|true=>exact⟨_,rfl,rfl⟩|false=>exact⟨_,rfl,rfl⟩
 |false=>simp only[cond_false,ae,c2];cases uC t P with|true=>exact⟨_,rfl,rfl⟩|false=>exact⟨_,rfl,rfl⟩
theorem EC{α:Type}{s:Sl α}{l:List α}:(rI s l (s.l++l)).l=s.l++l:=by cases s with|nil=>cases l<;>rfl|mk a=>cases l<;>simp[rI]
theorem BT{k:Nat}(hV:kS t)(hk:k<p.az.l.length)(hR:p.az.l.length<=1000)(hw:∀r∈p.az.l,r.2.2.l.length<1000000)(hm:p.aJ.l.length<=900)(hA:(old.l.length:Int)=t.aU)(hr:∀s,s<old.l.length->(gt old.l s).l.length=t.aN.l.length):
  ∀(n h:Nat)(cF:Sl aL),h+n=t.aN.l.length->cF.l.length+2*n<100000000->∃out',bc (lh t old p (k:Int)) ((h:Int),cF)=some out'/\
   out'.l=cF.l++(dh h n).flatMap fun h=>sN t k h (gq t (gt p.az.l k) h p.aJ.l (rO t p.az.l p.aJ.l old.l k)):=by
 have hho:=hV.qd;intro n;induction n with
 |zero=>
  intro h cF hh ho;obtain rfl:h=t.aN.l.length:=by omega
  exact⟨cF,bC (by simp only[lh,gk,cond_false]),by simp⟩
 |succ n ih=>
  intro h cF hh ho;have hhl:h<t.aN.l.length:=by omega
  obtain⟨o1,f1,f2⟩:=HV (t:=t) (p:=p) (old:=old) hV hhl hk hR hw hm hA hr;have hl:o1.l.length<=2:=by rw[f2];exact rA
  have hcap:fF (cF.l++o1.l)=some (cF.l++o1.l):=fR (by rw[ap];omega);obtain⟨o',e1,e2⟩:=ih (h+1) (rI cF o1.l (cF.l++o1.l)) (by omega) (by rw[EC,ap];omega);refine⟨o',(bL ?_).trans e1,?_⟩
  .simp only[lh,fz hhl,cond_true,f1,ae,hcap,gB (show h<9223372036854775807 by omega)]
  .rw [e2,EC,f2,aH,iM,bf]
theorem BS(hV:kS t)(hR:p.az.l.length<=1000)(hw:∀r∈p.az.l,r.2.2.l.length<1000000)(hm:p.aJ.l.length<=900)(hA:(old.l.length:Int)=t.aU)(hr:∀s,s<old.l.length->(gt old.l s).l.length=t.aN.l.length):
  ∀(n k:Nat)(cF:Sl aL),k+n=p.az.l.length->cF.l.length+16*n<1000000->∃out',bc (lg t old p) ((k:Int),cF)=some out'/\out'.l=cF.l++ol t p.az.l p.aJ.l old.l k n:=by
 have hho:=hV.qd;intro n;induction n with
 |zero=>
  intro k cF hk ho;obtain rfl:k=p.az.l.length:=by omega
  exact⟨cF,bC (by simp only[lg,gk,cond_false]),by simp[ol]⟩
 |succ n ih=>
  intro k cF hk ho;have hkl:k<p.az.l.length:=by omega
  obtain⟨o1,f1,f2⟩:=BT (t:=t) (p:=p) (old:=old) hV hkl hR hw hm hA hr t.aN.l.length 0 cF (by omega) (by omega);have f1:bc (lh t old p (k:Int)) (0,cF)=_:=f1;have hl:o1.l.length<=cF.l.length+16:=by rw[f2,ap];have:=iv (m:=2) (f:=fun h=>sN t k h (gq t (gt p.az.l k) h p.aJ.l (rO t p.az.l p.aJ.l old.l k))) (fun h=>rA) (dh 0 t.aN.l.length);rw[ft]at this;omega
  obtain⟨o',e1,e2⟩:=ih (k+1) o1 (by omega) (by omega);refine⟨o',(bL ?_).trans e1,?_⟩
  .simp only[lg,fz hkl,cond_true,f1,ae,gB (show k<9223372036854775807 by omega)]
  .rw [e2,f2,aH];unfold ol;rw[iM,bf]
theorem Fq{rd:List aj}{mv:List ah}{A:List (Sl Int)}{k n:Nat}(hh:t.aN.l.length<=8):(ol t rd mv A k n).length<=16*n:=by unfold ol;have:=iv (m:=16) (f:=fun k=>(dh 0 t.aN.l.length).flatMap fun h=>sN t k h (gq t (gt rd k) h mv (rO t rd mv A k))) (fun k=>by have:=iv (m:=2) (f:=fun h=>sN t k h (gq t (gt rd k) h mv (rO t rd mv A k))) (fun h=>rA) (dh 0 t.aN.l.length);rw[ft]at this;omega) (dh k n);rw[ft]at this;exact this
theorem Fx(hS1:o5 t old)(hS2:o5 t now)(hm:p.aJ.l.length<=40)(hR:p.az.l.length<=12)(hb:∀r∈p.az.l,r.2.2.l.length<=20):
  ∃s,mL t old now p=some s/\(s.l=bif tt (ny t old/\ny t now)then zL t old now p else[(1,0,0)])/\s.l.length<=1000:=by
 have g1:=xp hS1;have g2:=xp hS2;by_cases hG1:ny t old
 .by_cases hG2:ny t now
  .rw [uQ hG1]at g1;rw[uQ hG2]at g2;have hV:=hG1.1.vu;have hsw:=hV.sw;have hho:=hV.qd;have l1:=hG1.1.len;have l2:=hG2.1.len;have r1:∀s,s<old.l.length->(gt old.l s).l.length=t.aN.l.length:=fun s hs=>hG1.1.cU hs;have r2:∀s,s<now.l.length->(gt now.l s).l.length=t.aN.l.length:=fun s hs=>hG2.1.cU hs;have hb':∀r∈p.az.l,r.2.2.l.length<1000000:=fun r hr=>by have:=hb r hr;omega
   obtain⟨o1,e1,e2⟩:=HU (t:=t) (old:=old) (now:=now) (p:=p) (by omega) hb' (by omega) l1 l2 r1 r2 (by omega) (by omega) now.l.length 0 .nil (by omega) (by simp;omega);have e1:bc (k_ t old now p) (0,Sl.nil)=_:=e1;have n1:=A1 (old:=old) (now:=now) (mv:=p.aJ) (rd:=p.az) (fun s hs=>by rw[r2 s hs];exact hho) (n:=now.l.length);have ho1:o1.l.length<=64:=by rw[e2];simp;omega
   obtain⟨o2,f1,f2⟩:=Dd (t:=t) (old:=old) (now:=now) (p:=p) (by omega) hb' (by omega) l2 l1 r2 r1 p.aJ.l.length 0 o1 (by omega) (by omega);have f1:bc (k9 t old now p) (0,o1)=_:=f1;have n2:=Ba (t:=t) (old:=old) (now:=now) (mv:=p.aJ) (rd:=p.az) (k:=0) (n:=p.aJ.l.length);have ho2:o2.l.length<=104:=by rw[f2,ap];omega
   have em:qD t old now p=some o2:=by simp only[qD,e1,ae,f1]
   obtain⟨o3,q1,q2⟩:=Fj (t:=t) (p:=p) hV (by omega);have n3:=Bn (rd:=p.az) (gap:=2*g_ p.j4+j_ t+1) (k:=1) (n:=p.az.l.length-1);have ho3:o3.l.length<=12:=by rw[q2];omega
   have hcap:fF (o2.l++o3.l)=some (o2.l++o3.l):=fR (by rw[ap];omega);obtain⟨o4,u1,u2⟩:=BS (t:=t) (old:=old) (p:=p) hV (by omega) hb' (by omega) l1 r1 p.az.l.length 0 (rI o2 o3.l (o2.l++o3.l)) (by omega) (by rw[EC,ap];omega);have u1:bc (lg t old p) (0,rI o2 o3.l (o2.l++o3.l))=_:=u1;refine⟨o4,?_,?_,?_⟩
   .simp only[mL,g1,g2,ae,bO,cond_false,em,q1,hcap,u1]
   .rw [u2,EC,q2,f2,e2,uQ ⟨hG1,hG2⟩,cond_true];simp only[Sl.DU,bw,aH];rfl
   .have:=Fq (t:=t) (rd:=p.az.l) (mv:=p.aJ.l) (A:=old.l) (k:=0) (n:=p.az.l.length) hho;rw[u2,EC,ap,ap];omega
  .rw [uQ hG1]at g1;rw[rU hG2]at g2;exact⟨.mk [(1,0,0)],by simp only[mL,g1,g2,ae,bO,dv,cond_false,cond_true],by rw[rU (fun h=>hG2 h.2)];rfl,by simp⟩
 .rw [rU hG1]at g1;exact⟨.mk [(1,0,0)],by simp only[mL,g1,ae,dv,cond_true],by rw[rU (fun h=>hG1 h.1)];rfl,by simp⟩
end
end Go.Proofs.YthcplpfiidlinaaDoor.J
