/- Regions: what an operation leaves. Conditions: as stated. -/
import Derived.Test.YtbcmbckpebpijaaDoorFz
open Bool renaming and_eq_true->ae,not_eq_true'->eE
open Classical renaming choose->fP,choose_spec->dA
open List renaming all_eq_true->aQ,append_assoc->aO,cons_append->aJ,contains_eq_mem->iE,getElem?_drop->bw,getElem?_take->dh,length_map->aK,map_cons->aq,mem_append->aj,mem_append_left->aC,mem_append_right->aA,mem_cons->aD,mem_cons_of_mem->av,mem_filterMap->eS,mem_map->cU,nil_append->aY,singleton_inj->dL
open List.cons renaming inj->bK
open Nat renaming ble->fZ,le_refl->ak,le_succ->bg,le_trans->dg,lt_of_lt_of_le->bQ,lt_succ_self->aS,zero_add->bD
open Option.some renaming inj->aa,injEq->bH
open Prod.mk renaming inj->ad
namespace Go.Ev
theorem R2.mono{s1:St}{s:S2}(hr:R2 s1 s){n:Nat}(hn:s.next<=n):R2 s1 {s with next:=n}:=⟨fun t v ht=>(hr.cG t v ht).imp (eL hn (gm.refl _ _)) id,hr.hr.mono hn,dg hr.next hn,hr.gh.1,eL hn (gm.refl _ _) hr.gh.2⟩
theorem R2.nx{s1:St}{s:S2}(hr:R2 s1 s){n:Nat}(hn:n<=s.next):R2 {s1 with next:=n} s:=⟨hr.cG,hr.hr,hn,hr.gh⟩
theorem R2.wo{s1:St}{s:S2}(hr:R2 s1 s)(w:List Nat):R2 s1 {s with wo:=w}:=⟨hr.cG,hr.hr,hr.next,hr.gh⟩
theorem nG.mono{s1:St}{s:S2}{q:Rg}(hr:nG s1 s q){n:Nat}(hn:s.next<=n):nG s1 {s with next:=n} q:=⟨hr.r.mono hn,hr.kn,fun t g b v h=>let⟨c,h1,h2⟩:=hr.cd t g b v h;⟨c,h1,fun e=>let⟨x,h3,h4,h5⟩:=h2 e;⟨x,h3,h4,eL hn (gm.refl _ _) h5⟩⟩⟩
theorem nG.nx{s1:St}{s:S2}{q:Rg}(hr:nG s1 s q){n:Nat}(hn:n<=s.next):nG {s1 with next:=n} s q:=⟨hr.r.nx hn,hr.kn,hr.cd⟩
theorem nG.none{s1:St}{s:S2}(hr:R2 s1 s):nG s1 s ⟨[],[]⟩:=⟨hr,fun g b h=>by simp[Kl,bM]at h,fun t g b v h=>by simp[bM]at h⟩
theorem nG.M_{s1:St}{s:S2}{q:Rg}(hr:nG s1 s q){g:Nat}{c:Bool}(hg:bM s1.cG g=some (tB c)):nG s1 s ⟨(g,c)::q.kn,q.cd⟩:=by
 refine⟨hr.r,fun g' b h=>?_,hr.cd⟩;simp only[Kl,bM]at h;by_cases e:g=g'
 .subst e;have:c=b:=by simpa using h
  rw[<-this];exact hg
 .have e':(g==g')=false:=by simpa using e
  rw[e',cond_false]at h;exact hr.kn g' b h
theorem AZ{α:Type}{d:Nat}:∀{l:List (Nat×α)}{t:Nat}{x:α},bM (l.filter fun e=>!(e.1==d)) t=some x->t≠d/\bM l t=some x:=by
 intro l;induction l with
 |nil=>intro t x h;simp[bM]at h
 |cons p l ih=>
  obtain⟨a,y⟩:=p;intro t x h;by_cases e:a=d
  .rw [List.filter_cons,if_neg (by simp[e])]at h;obtain⟨h1,h2⟩:=ih h;refine⟨h1,?_⟩;simp only[bM];have e':(a==t)=false:=by simpa using fun q=>h1 (q.symm.trans e)
   rw[e',cond_false];exact h2
  .rw [List.filter_cons,if_pos (by simp[e])]at h;simp only[bM]at h|-;by_cases e2:a=t
   .subst e2;have e':(a==a)=true:=by simp
    rw[e',cond_true]at h|-;exact⟨e,h⟩
   .have e':(a==t)=false:=by simpa using e2
    rw[e',cond_false]at h|-;exact ih h
theorem sf{α:Type}:∀{l:List (Nat×α)}{t:Nat}{x:α},bM l t=some x->(t,x)∈l:=by
 intro l;induction l with
 |nil=>intro t x h;simp[bM]at h
 |cons p l ih=>
  obtain⟨a,y⟩:=p;intro t x h;simp only[bM]at h;by_cases e2:a=t
  .subst e2;have:y=x:=by simpa using h
   subst this;exact List.mem_cons_self
  .have e':(a==t)=false:=by simpa using e2
   rw[e',cond_false]at h;exact av _ (ih h)
theorem zn{q q':Rg}{d:Option Nat}(h:IA q d=some q'):q'.kn=q.kn/\(∀t y,bM q'.cd t=some y->d≠some t/\bM q.cd t=some y/\d≠some y.1)/\∀g b,Kl q.kn g=some b->d≠some g:=by
 cases d with
 |none=>obtain rfl:=aa h;exact⟨rfl,fun t y hy=>⟨by simp,hy,by simp⟩,fun _ _ _=>by simp⟩
 |some d=>
  simp only[IA]at h;cases hc:(q.cd.any (fun e=>e.2.1==d)||q.kn.any (fun e=>e.1==d))with
  |true=>rw[hc]at h;simp at h
  |false=>
   rw[hc,cond_false]at h;obtain rfl:=aa h;simp only[Bool.or_eq_false_iff,List.any_eq_false,beq_iff_eq]at hc;refine⟨rfl,fun t y hy=>?_,fun g b hg e=>?_⟩
   .obtain ⟨h1,h2⟩:=AZ hy;exact⟨fun e=>h1 (aa e).symm,h2,fun e=>hc.1 _ (sf h2) (aa e).symm⟩
   .exact hc.2 _ (sf hg) (aa e).symm
theorem yZ{s:S2}{d:Option Nat}{v:V}(t:Nat):bM (pd s d v).cG t=if d=some t then some v else bM s.cG t:=by
 cases d with
 |none=>simp[pd]
 |some d=>
  simp only[pd,bM];by_cases h:d=t
  .simp [h]
  .have h':(d==t)=false:=by simpa using h
   simp[h,h']
theorem mx{s:S2}{d:Option Nat}{v:V}:(pd s d v).heap=s.heap/\(pd s d v).next=s.next/\(pd s d v).gh=s.gh/\(pd s d v).wo=s.wo:=by cases d<;>exact⟨rfl,rfl,rfl,rfl⟩
theorem nG.ll{s1:St}{s s':S2}{q q':Rg}(hr:nG s1 s q){x:TV}{u:dD}{ap:List Nat}{m:Nat}{v:V}{l:List Nat}(hd:mT s s' s1.heap x u ap m v l){d:Option Nat}(hq:IA q d=some q'):
  nG ⟨put s1.cG d x,u++s1.heap,m,s1.gh⟩ (pd s' d v) q':=by
 obtain⟨c1,c2,c3⟩:=zn hq;obtain⟨p1,p2,p3,p4⟩:=mx (s:=s') (d:=d) (v:=v);refine⟨⟨fun t w ht=>?_,by rw[p1,p2];exact hd.hr,by rw[p2];exact hd.m,?_⟩,fun g b hg=>?_,fun t g b w ht=>?_⟩
 .rw [yZ]at ht;rw[p1,p2];show _/\(_->∃y,bM (put s1.cG d x) t=some y/\_);rw[iH];split at ht
  .rename_i e;obtain rfl:=aa ht;rw[if_pos e];exact⟨hd.Nw,fun _=>⟨x,rfl,hd.val⟩⟩
  .rename_i e;rw[if_neg e];rw[hd.cG]at ht;obtain⟨h1,h2⟩:=hr.r.cG t w ht;refine⟨eL hd.le hd.dm h1,fun ha=>?_⟩;obtain⟨y,h3,h4⟩:=h2 (ha.imp (qq hd.dm hd.nb h1) id);exact⟨y,h3,pX hd.dm h1 h4⟩
 .rw [p3,p1,p2,hd.gh];exact⟨yW hd.dm hd.nb hr.r.gh.2 hr.r.gh.1,eL hd.le hd.dm hr.r.gh.2⟩
 .rw [c1]at hg;show bM (put s1.cG d x) g=_;rw[iH,if_neg (c3 g b hg)];exact hr.kn g b hg
 .obtain ⟨e1,e2,e3⟩:=c2 t _ ht;obtain⟨c,h1,h2⟩:=hr.cd t g b w e2;show∃c,bM (put s1.cG d x) g=_/\(c=b->∃y,bM (put s1.cG d x) t=some y/\_);rw[iH,iH,if_neg e3,if_neg e1,p1,p2];refine⟨c,h1,fun e=>?_⟩;obtain⟨y,h3,h4,h5⟩:=h2 e;exact⟨y,h3,pX hd.dm h5 h4,eL hd.le hd.dm h5⟩
theorem A5{s1:St}{s:S2}{q:Rg}(hr:nG s1 s q):mT s s s1.heap (.eU []) [] [] s.next .no []:=mT.pure hr.r.hr rfl trivial fun i hi=>by simp at hi
theorem nG.Lk{s1:St}{s:S2}{q q':Rg}(hr:nG s1 s q){d g:Nat}{b c:Bool}{v:V}{x:TV}{m:Nat}(hm:m<=s.next)(hq:IA q (some d)=some q')(hg:bM s1.cG g=some (tB c))(hgd:g≠d)
  (hx:c=b->dV s.heap v x/\dC s.next s.heap v):nG ⟨put s1.cG (some d) x,s1.heap,m,s1.gh⟩ (pd s (some d) .gn) ⟨q'.kn,(d,g,b,v)::q'.cd⟩:=by
 obtain⟨c1,c2,c3⟩:=zn hq;refine⟨⟨fun t w ht=>?_,hr.r.hr,hm,hr.r.gh⟩,fun g' b' hg'=>?_,fun t g' b' w ht=>?_⟩
 .rw [yZ]at ht;show _/\(_->∃y,bM (put s1.cG (some d) x) t=some y/\_);rw[iH];split at ht
  .obtain rfl:=aa ht;exact⟨trivial,fun h=>by rcases h with h|h<;>simp[ft,pd]at h⟩
  .rename_i e;rw[if_neg e];exact hr.r.cG t w ht
 .rw [show(⟨q'.kn,(d,g,b,v)::q'.cd⟩:Rg).kn=q.kn from c1]at hg';show bM (put s1.cG (some d) x) g'=_;rw[iH,if_neg (c3 g' b' hg')];exact hr.kn g' b' hg'
 .show ∃c,bM (put s1.cG (some d) x) g'=_/\(c=b'->∃y,bM (put s1.cG (some d) x) t=some y/\_);simp only[bM]at ht;rw[iH,iH];by_cases e:d=t
  .subst e;obtain⟨rfl,rfl,rfl⟩:g=g'/\b=b'/\v=w:=by simpa using ht
   rw[if_pos rfl,if_neg (by simpa using Ne.symm hgd)];exact⟨c,hg,fun e=>⟨x,rfl,hx e⟩⟩
  .have e':(d==t)=false:=by simpa using e
   rw[e',cond_false]at ht;obtain⟨_,e2,e3⟩:=c2 t _ ht;obtain⟨c',h1,h2⟩:=hr.cd t g' b' w e2;rw[if_neg e3,if_neg (by simpa using e)];exact⟨c',h1,h2⟩
def NE(e:gy)(gd:Option (Nat×Bool)):GV->Prop
 |.run=>gZ e gd=some true/\∀g b,gd=some (g,b)->bM e g=some (tB b)
 |.skip=>gZ e gd=some false
 |.Lk g b c=>gd=some (g,b)/\bM e g=some (tB c)
theorem lj{e:gy}{g:Nat}{b c:Bool}(h:bM e g=some (tB c)):gZ e (some (g,b))=some (c==b):=by simp only[gZ,h,tB]
theorem FV{e:gy}{g:Nat}{b c:Bool}(h:bM e g=some (tB c)):NE e (some (g,b)) (bif c==b then .run else .skip):=by
 have hw:=lj (b:=b) h;cases hc:(c==b)with
 |true=>
  rw[hc]at hw;refine⟨hw,fun g' b' e'=>?_⟩;obtain⟨rfl,rfl⟩:=ad (aa e');obtain rfl:c=b:=by simpa using hc
  exact h
 |false=>rw[hc]at hw;exact hw
theorem tJ{s1:St}{s:S2}{q:Rg}(hr:nG s1 s q){gd:Option (Nat×Bool)}{r:GV}(h:Nc s.cG q.kn gd=some r):NE s1.cG gd r:=by
 unfold Nc at h;split at h
 .obtain rfl:=aa h;exact⟨rfl,fun _ _ e=>by simp at e⟩
 .rename_i g b;split at h
  .rename_i c hk;obtain rfl:=aa h;exact FV (hr.kn g c hk)
  .split at h
   .rename_i c he;obtain rfl:=aa h;obtain⟨x,h1,h2⟩:=(hr.r.cG g _ he).2 (.inl rfl);rw[qz h2]at h1;exact FV h1
   .rename_i c he;obtain rfl:=aa h;obtain⟨x,h1,h2⟩:=(hr.r.cG g _ he).2 (.inl rfl);rw[BE h2]at h1;exact⟨rfl,h1⟩
   .rename_i he;obtain rfl:=aa h;obtain⟨x,h1,h2⟩:=(hr.r.cG g _ he).2 (.inr rfl);rw[show x=.eU []from h2]at h1;show gZ s1.cG _=_;simp only[gZ,h1]
   .simp at h
structure rD(ds w:List Nat)(s1 s1':St)(s s':S2):Prop where
 le:s.next<=s'.next
 dm:gm s.next s.heap s'.heap
 gl:s1'.gh.length=s1.gh.length
 ob:∀i,i<s.next->i∉w->fO s'.heap i=fO s.heap i/\∀o,fO s.heap i=some o->∀g,qf g o (au s1.heap i)->qf g o (au s1'.heap i)
 cG:∀t x,t∉ds->bM s1.cG t=some x->(∀i∈ja x,i<s.next/\i∉w/\fO s.heap i≠none)->bM s1'.cG t=some x
def Fr(ds:List Nat)(s1 s1':St)(s s':S2):Prop:=∃w,s'.wo=w++s.wo/\rD ds w s1 s1' s s'
theorem rD.next{ds w:List Nat}{s1:St}{s:S2}{n m:Nat}(hn:s.next<=n):rD ds w s1 {s1 with next:=m} s {s with next:=n}:=⟨hn,gm.refl _ _,rfl,fun _ _ _=>⟨rfl,fun _ _ _ h=>h⟩,fun _ _ _ h _=>h⟩
theorem rD.trans{ds w w':List Nat}{s1 s2 s3:St}{s s' s'':S2}(a:rD ds w s1 s2 s s')(b:rD ds w' s2 s3 s' s''):rD ds (w'++w) s1 s3 s s'':=by
 refine⟨dg a.le b.le,a.dm.trans a.le b.dm,b.gl.trans a.gl,fun i hi hw=>?_,fun t x ht hx hc=>?_⟩
 .simp only[aj,not_or]at hw;obtain⟨h1,h2⟩:=a.ob i hi hw.2;obtain⟨h3,h4⟩:=b.ob i (bQ hi a.le) hw.1;exact⟨h3.trans h1,fun o ho g hg=>h4 o (h1.trans ho) g (h2 o ho g hg)⟩
 .refine b.cG t x ht (a.cG t x ht hx fun i hi=>?_) fun i hi=>?_
  .obtain ⟨h1,h2,h3⟩:=hc i hi;simp only[aj,not_or]at h2;exact⟨h1,h2.2,h3⟩
  .obtain ⟨h1,h2,h3⟩:=hc i hi;simp only[aj,not_or]at h2;exact⟨bQ h1 a.le,h2.1,by rw[(a.ob i h1 h2.2).1];exact h3⟩
theorem rD.mono{ds ds' w w':List Nat}{s1 s2:St}{s s':S2}(a:rD ds w s1 s2 s s')(hd:∀t∈ds,t∈ds')(hw:∀i∈w,i∈w'):rD ds' w' s1 s2 s s':=⟨a.le,a.dm,a.gl,fun i hi h=>a.ob i hi fun q=>h (hw i q),fun t x ht hx hc=>a.cG t x (fun q=>ht (hd t q)) hx fun i hi=>⟨(hc i hi).1,fun q=>(hc i hi).2.1 (hw i q),(hc i hi).2.2⟩⟩
theorem Fr.refl{ds:List Nat}{s1:St}{s:S2}:Fr ds s1 s1 s s:=⟨[],rfl,rD.next (ak _)⟩
theorem Fr.trans{ds:List Nat}{s1 s2 s3:St}{s s' s'':S2}(a:Fr ds s1 s2 s s')(b:Fr ds s2 s3 s' s''):Fr ds s1 s3 s s'':=by obtain⟨w,h1,h2⟩:=a;obtain⟨w',h3,h4⟩:=b;exact⟨w'++w,by rw[h3,h1,aO],h2.trans h4⟩
theorem Fr.mono{ds ds':List Nat}{s1 s2:St}{s s':S2}(a:Fr ds s1 s2 s s')(hd:∀t∈ds,t∈ds'):Fr ds' s1 s2 s s':=let⟨w,h1,h2⟩:=a;⟨w,h1,h2.mono hd fun _ h=>h⟩
theorem Fr.L1{s1:St}{s s':S2}{x:TV}{u:dD}{ap:List Nat}{m:Nat}{v v':V}{l:List Nat}(hd:mT s s' s1.heap x u ap m v l)(d:Option Nat):Fr d.toList s1 ⟨put s1.cG d x,u++s1.heap,m,s1.gh⟩ s (pd s' d v'):=by
 obtain⟨w,h1,h2,h3⟩:=hd.wo;obtain⟨p1,p2,p3,p4⟩:=mx (s:=s') (d:=d) (v:=v');refine⟨w,p4.trans h1,by rw[p2];exact hd.le,by rw[p1];exact hd.dm,rfl,fun i hi hw=>⟨by rw[p1];exact h3 i hw,fun o ho g hg=>?_⟩,fun t y ht hy _=>?_⟩
 .show qf g o (au (u++s1.heap) i);rw[qM (u:=u) (i:=i) fun p hp e=>hw (e▸h2 p hp)];exact hg
 .show bM (put s1.cG d x) t=_;rw[iH,if_neg fun e=>ht (by simp[e])];exact hy
def GQ(P:Program)(o:km)(s1:St)(s s':S2)(q':Rg)(t:List Nat×List Nat):Prop:=
 (gZ s1.cG o.guard=some true/\∃call x u ap m,j4 P call/\bN call o.k (o.args.map (g_ s1.cG)) s1.heap s.next=some (x,u,ap,m)/\(∀i∈ap,i∈t.1)/\(∀p∈u,p.1∈t.2)/\
  nG ⟨put s1.cG o.dst x,u++s1.heap,m,s1.gh⟩ s' q'/\Fr o.dst.toList s1 ⟨put s1.cG o.dst x,u++s1.heap,m,s1.gh⟩ s s')\/
 (gZ s1.cG o.guard=some false/\nG ⟨drop s1.cG o.dst,s1.heap,s.next,s1.gh⟩ s' q'/\Fr o.dst.toList s1 ⟨drop s1.cG o.dst,s1.heap,s.next,s1.gh⟩ s s')
section
variable{P:Program}{β:Type}{tb:zF}{dr:Option Nat}{o:OP}{r:List OP}{i:Nat}{s1:St}{s s0:S2}{q:Rg}{tr:Eb}{k:S2->Eb->Option β}{z:β}
theorem wC(htb:lI P tb)(hg:je)(hr:nG s1 s q)(hw:gZ s1.cG o.o.guard=some true)(hgc:∀g b,o.o.guard=some (g,b)->bM s1.cG g=some (tB b))
  (hz:(Mo tb o s q o.o.guard fun v s1 l=>
   bif Dx dr i s1 then(match IA q o.o.dst with
    |some q=>jU tb dr r (i+1) (pd s1 o.o.dst v) q (tr++[(l,s1.wo.take (s1.wo.length-s.wo.length))]) k
    |none=>none)else none)=some z):
  ∃s' q' t,jU tb dr r (i+1) s' q' (tr++[t]) k=some z/\Dx dr i s'=true/\GQ P o.o s1 s s' q' t:=by
 obtain⟨v,s',l,h1,call,hc,x,u,ap,m,h2,hd⟩:=F9 htb hg hr hgc hz;obtain⟨hb,h1⟩:=aI h1;split at h1
 .rename_i q' hq;refine⟨_,_,_,h1,?_,.inl ⟨hw,call,x,u,ap,m,hc,h2,hd.ap,fun p hp=>?_,hr.ll hd hq,Fr.L1 hd _⟩⟩
  .unfold Dx at hb|-;rw[mx.2.1];exact hb
  .obtain ⟨w,h3,h4,_⟩:=hd.wo;have:=h4 p hp;show p.1∈s'.wo.take (s'.wo.length-s.wo.length);rw[h3];simpa using this
 .simp at h1
theorem wl(hr:nG s1 s q)(hb:Dx dr i s=true)(hw:gZ s1.cG o.o.guard=some false)
  (hz:(match IA q o.o.dst with|some q=>jU tb dr r (i+1) (pd s o.o.dst .no) q (tr++[([],[])]) k|none=>none)=some z):
  ∃s' q' t,jU tb dr r (i+1) s' q' (tr++[t]) k=some z/\Dx dr i s'=true/\GQ P o.o s1 s s' q' t:=by
 split at hz
 .rename_i q' hq;refine⟨_,_,_,hz,?_,.inr ⟨hw,?_⟩⟩
  .unfold Dx at hb|-;rw[mx.2.1];exact hb
  .exact ⟨hr.ll (A5 hr) hq,Fr.L1 (A5 hr) _⟩
 .simp at hz
theorem GC{α:Type}{c:Bool}{x:Option α}{y:α}(h:(bif c then none else x)=some y):x=some y:=by cases c with|true=>simp at h|false=>exact h
theorem yf(htb:lI P tb)(hg:je)(hr:nG s1 (GY dr i s0) q)(hb:Dx dr i (GY dr i s0)=true)(hz:jU tb dr (o::r) i s0 q tr k=some z):
  ∃s' q' t,jU tb dr r (i+1) s' q' (tr++[t]) k=some z/\Dx dr i s'=true/\GQ P o.o s1 (GY dr i s0) s' q' t:=by
 simp only[jU]at hz;split at hz
 .simp at hz
 .rename_i hgd;obtain⟨h1,h2⟩:=tJ hr hgd;exact wC htb hg hr h1 h2 hz
 .rename_i hgd;exact wl hr hb (tJ hr hgd) hz
 .rename_i g b c hgd;obtain⟨h1,h2⟩:=tJ hr hgd;split at hz
  .rename_i v l ht;have ht:=GC ht;split at hz
   .rename_i q' d hq hd;cases hgd2:Nat.beq g d with
    |true=>rw[hgd2]at hz;simp at hz
    |false=>
     rw[hgd2,cond_false]at hz;have hne:g≠d:=fun e=>by rw[e]at hgd2;simp at hgd2
     rw[hd]at hq;refine⟨_,_,_,hz,?_,?_⟩
     .unfold Dx at hb|-;rw[mx.2.1];exact hb
     .by_cases hcb:c=b
      .subst hcb;obtain⟨x,ap,e1,e2,e3,e4⟩:=uM hg hr (gc:=some (g,c)) (fun g' b' e=>by obtain⟨rfl,rfl⟩:=ad (aa e);exact h2) ht mj (GY dr i s0).next
       refine .inl ⟨by rw[h1,lj h2];simp,mj,x,[],ap,_,mA,e1,e4,fun p hp=>by simp at hp,?_⟩;rw[hd];exact⟨hr.Lk (ak _) hq h2 hne fun _=>⟨e2,e3⟩,Fr.L1 (mT.pure hr.r.hr e2 e3 e4) _⟩
      .refine .inr ⟨by rw[h1,lj h2];simpa using hcb,?_⟩;rw[hd];exact⟨hr.Lk (ak _) hq h2 hne fun e=>absurd e hcb,Fr.L1 (A5 hr) _⟩
   .simp at hz
  .have hkn:=hr.M_ h2;cases b with
   |true=>cases c with|true=>exact wC htb hg hkn (by rw[h1,lj h2];rfl) (fun g' b' e=>by rw[h1]at e;obtain⟨rfl,rfl⟩:=ad (aa e);exact h2) hz|false=>exact wl hkn hb (by rw[h1,lj h2];rfl) hz
   |false=>cases c with|true=>exact wl hkn hb (by rw[h1,lj h2];rfl) hz|false=>exact wC htb hg hkn (by rw[h1,lj h2];rfl) (fun g' b' e=>by rw[h1]at e;obtain⟨rfl,rfl⟩:=ad (aa e);exact h2) hz
theorem C7(htb:lI P tb)(hg:je):∀(ops:List OP)(i:Nat)(s1:St)(s:S2)(q:Rg)(tr:Eb),jU tb none ops i s q tr k=some z->nG s1 s q->
  WO P (ops.map (·.o)) s1 fun s1'=>∃s' tr',R2 s1' s'/\Fr (ops.filterMap (·.o.dst)) s1 s1' s s'/\k s' tr'=some z:=by
 intro ops;induction ops with
 |nil=>intro i s1 s q tr hz hr;exact wk.of ⟨s,tr,hr.r,Fr.refl,hz⟩
 |cons o r ih=>
  intro i s1 s q tr hz hr;have hsub:Sub s1 {s1 with next:=s.next}:=Sub.heap (fun _=>.inl rfl) hr.r.next;have hr1:nG {s1 with next:=s.next} s q:=hr.nx (ak _);obtain⟨s',q',t,h1,_,h2⟩:=yf (dr:=none) (i:=i) htb hg (show nG {s1 with next:=s.next} (GY none i s) q from hr1) rfl hz;simp only[aq,WO];have hfs:∀t∈o.o.dst.toList,t∈(o::r).filterMap (·.o.dst):=fun t ht=>by rw[Option.mem_toList]at ht;exact eS.2 ⟨o,by simp,ht⟩
  have hrs:∀t∈r.filterMap (·.o.dst),t∈(o::r).filterMap (·.o.dst):=fun t ht=>by obtain⟨p,hp,hpt⟩:=eS.1 ht;exact eS.2 ⟨p,by simp[hp],hpt⟩
  have key:∀s2,Fr o.o.dst.toList {s1 with next:=s.next} s2 s s'->nG s2 s' q'->WO P (r.map (·.o)) s2 fun s1'=>∃s' tr',R2 s1' s'/\Fr ((o::r).filterMap (·.o.dst)) s1 s1' s s'/\k s' tr'=some z:=by
   intro s2 hf hr2;refine WO.mono (fun s1'⟨s3,tr3,g1,g2,g3⟩=>⟨s3,tr3,g1,?_,g3⟩) (ih _ _ _ _ _ h1 hr2);have f0:Fr ((o::r).filterMap (·.o.dst)) s1 {s1 with next:=s.next} s s:=⟨[],rfl,rD.next (ak _)⟩
   exact(f0.trans (hf.mono hfs)).trans (g2.mono hrs)
  refine⟨_,hsub,?_⟩;rcases h2 with⟨hw,call,x,u,ap,m,hc,he,_,_,hr2,hf⟩|⟨hw,hr2,hf⟩
  .exact .inl ⟨hw,call,x,u,ap,m,hc,he,key _ hf hr2⟩
  .exact .inr ⟨hw,key _ hf hr2⟩
def xd:Tr->Eb->Prop
 |[],[]=>True
 |a::x,b::y=>(∀i∈a.1,i∈b.1)/\(∀i∈a.2,i∈b.2)/\xd x y
 |_,_=>False
theorem xd.Lp:∀{x:Tr}{y:Eb}{a b:List Nat×List Nat},xd x y->(∀i∈a.1,i∈b.1)->(∀i∈a.2,i∈b.2)->xd (x++[a]) (y++[b]):=by
 intro x;induction x with
 |nil=>intro y a b h h1 h2;cases y with|nil=>exact⟨h1,h2,trivial⟩|cons=>exact h.elim
 |cons c x ih=>intro y a b h h1 h2;cases y with|nil=>exact h.elim|cons d y=>exact⟨h.1,h.2.1,ih h.2.2 h1 h2⟩
theorem xd.get:∀{x:Tr}{y:Eb}(i:Nat){a:List Nat×List Nat},xd x y->x[i]?=some a->∃b,y[i]?=some b/\(∀i∈a.1,i∈b.1)/\(∀i∈a.2,i∈b.2):=by
 intro x;induction x with
 |nil=>intro y i a _ h;simp at h
 |cons c x ih=>
  intro y i a hl h;cases y with
  |nil=>exact hl.elim
  |cons d y=>cases i with|zero=>obtain rfl:=aa h;exact⟨d,rfl,hl.1,hl.2.1⟩|succ i=>exact ih i hl.2.2 (by simpa using h)
theorem GJ{a b c d:List Nat×List Nat}(h:jc c d=true)(a1:∀i∈a.1,i∈c.1)(a2:∀i∈a.2,i∈c.2)(b1:∀i∈b.1,i∈d.1)(b2:∀i∈b.2,i∈d.2):jc a b=true:=by simp only[jc,ae,aQ,eE,iE,decide_eq_false_iff_not]at h|-;exact⟨fun i hi=>⟨fun e=>(h.1 i (a2 i hi)).1 (b1 i e),fun e=>(h.1 i (a2 i hi)).2 (b2 i e)⟩,fun i hi e=>h.2 i (b2 i hi) (a1 i e)⟩
def GS(ops:List OP)(tr:Tr):Prop:=∀(j:Nat)(o:OP)(a:List Nat×List Nat),ops[j]?=some o->tr[j]?=some a->FN o.o.k=true->a.1.length<=1
theorem Kc{c:Call}{k:K}{vs:List (Option TV)}{h:bl}{n:Nat}{x:TV}{u:dD}{ap:List Nat}{m:Nat}(he:bN c k vs h n=some (x,u,ap,m))(hk:FN k=true):ap.length<=1:=by
 cases k<;>simp[FN]at hk;rename_i ka ks va zero ok;unfold bN at he;split at he<;>first|(simp at he;done)|skip
 all_goals first
  |(rename_i e;cases e;done)
  |skip
 rename_i e;cases e;split at he
 .rename_i v i hv;obtain⟨_,e⟩:=ad (aa he);obtain⟨_,e⟩:=ad e;obtain⟨rfl,_⟩:=ad e;unfold fq at hv;split at hv
  .split at hv
   .obtain ⟨_,rfl⟩:=ad (aa hv);simp
   .simp at hv
  .split at hv
   .split at hv
    .split at hv
     .split at hv
      .obtain ⟨_,rfl⟩:=ad (aa hv);simp
      .simp at hv
     .split at hv
      .obtain ⟨_,rfl⟩:=ad (aa hv);simp
      .simp at hv
     .simp at hv
    .simp at hv
   .simp at hv
  .simp at hv
 .simp at he
theorem KG{ops:List OP}{x:Tr}{y:Eb}{dyn:List (Nat×Nat)}(hl:xd x y)(hk:GS ops x)(hd:KH ops y dyn=true):vy x dyn=true:=by
 simp only[KH,vy,aQ]at hd|-;intro p hp;have hp2:=hd p hp;obtain⟨i,j⟩:=p;have key:∀(j':Nat)a b c d,x[i]?=some a->x[j']?=some b->y[i]?=some c->y[j']?=some d->jc c d=true->jc a b=true:=by intro j' a b c d ha hb hc hd h;obtain⟨c',h1,h2,h3⟩:=hl.get i ha;obtain⟨d',h4,h5,h6⟩:=hl.get j' hb;rw[hc]at h1;rw[hd]at h4;obtain rfl:=aa h1;obtain rfl:=aa h4;exact GJ h h2 h3 h5 h6
 by_cases hj:1000<=j
 .have hb:fZ 1000 j=true:=Nat.ble_eq_true_of_le hj;simp only[hb,cond_true]at hp2;simp only[hj,if_true,zY];split
  .rename_i a b ha hb;obtain⟨c,hc,c1,c2⟩:=hl.get i ha;obtain⟨d,hd,_,_⟩:=hl.get (j-1000) hb;rw[hc,hd]at hp2;simp only[Bool.or_eq_true]at hp2|-;rcases hp2 with hp2|hp2
   .exact .inl (key _ a b c d ha hb hc hd hp2)
   .unfold I0 at hp2;split at hp2
    .rename_i o id ho hc2;rw[hc]at hc2;obtain rfl:=aa hc2;simp only[ae]at hp2;have hlen:=hk i o a ho ha hp2.1;obtain⟨a1,a2⟩:=a;obtain rfl:a2=[]:=List.eq_nil_iff_forall_not_mem.2 fun q hq=>by have:=c2 q hq;simp at this
     match a1,hlen,c1 with
     |[],_,_=>left;simp[jc]
     |[q],_,c1=>
      obtain rfl:q=id:=by have:=c1 q (by simp);simpa using this
      right;refine aQ.2 fun z hz=>?_;obtain⟨n,hn⟩:=List.getElem?_of_mem hz;rw[bw,dh]at hn;split at hn
      .rename_i hlt;obtain⟨z2,hz2,_,z3⟩:=hl.get _ hn;have hm:z2∈(y.take (j-1000)).drop (i+1):=by refine List.mem_of_getElem? (i:=n) ?_;rw[bw,dh,if_pos hlt];exact hz2
       have:=aQ.1 hp2.2 z2 hm;simp only[eE,iE,decide_eq_false_iff_not]at this|-;exact fun q=>this (z3 _ q)
      .simp at hn
    .simp at hp2
  .rfl
 .have hb:fZ 1000 j=false:=by cases h:fZ 1000 j with|false=>rfl|true=>exact absurd (Nat.le_of_ble_eq_true h) hj
  simp only[hb,cond_false]at hp2;simp only[hj,if_false];split
  .rename_i a b ha hb;obtain⟨c,hc,_⟩:=hl.get i ha;obtain⟨d,hd,_⟩:=hl.get j hb;rw[hc,hd]at hp2;exact key _ a b c d ha hb hc hd hp2
  .rfl
theorem WD.mono{P:Program}{aL:Nat}{ops:List km}{i:Nat}{e:gy}{h:bl}{tr:Tr}{Q Q':gy->bl->Tr->Prop}(hq:∀e h tr,Q e h tr->Q' e h tr)(hw:WD P aL ops i e h tr Q):WD P aL ops i e h tr Q':=let⟨calls,h1,e',h',tr',h2,h3⟩:=hw;⟨calls,h1,e',h',tr',h2,hq _ _ _ h3⟩
theorem Fs{ops:List OP}{tr:Tr}{o:OP}{t:List Nat×List Nat}(h:GS ops tr)(ho:ops[tr.length]?=some o)(ht:FN o.o.k=true->t.1.length<=1):GS ops (tr++[t]):=by
 intro j o' a hj ha hl;by_cases hlt:j<tr.length
 .rw [List.getElem?_append_left hlt]at ha;exact h j o' a hj ha hl
 .rw [List.getElem?_append_right (by omega)]at ha;have:j=tr.length:=by have:=(List.getElem?_eq_some_iff.1 ha).1;simp at this;omega
  subst this;rw[ho]at hj;obtain rfl:=aa hj;simp at ha;rw[<-ha];exact ht hl
theorem C8(htb:lI P tb)(hg:je){b:Nat}(ops0:List OP):∀(ops:List OP)(i:Nat)(e:gy)(h:bl)(n:Nat)(gh:List C)(s:S2)(q:Rg)(tr:Eb)(tr1:Tr),jU tb (some b) ops i s q tr k=some z->nG ⟨e,h,n,gh⟩ s q->s.next<=b+fS*i->xd tr1 tr->(∀j,ops[j]?=ops0[i+j]?)->tr1.length=i->GS ops0 tr1->
  WD P b (ops.map (·.o)) i e h tr1 fun e' h' tr1'=>∃s' tr' n',R2 ⟨e',h',n',gh⟩ s'/\Fr (ops.filterMap (·.o.dst)) ⟨e,h,n,gh⟩ ⟨e',h',n',gh⟩ s s'/\s'.next<=b+fS*(i+ops.length)/\xd tr1' tr'/\GS ops0 tr1'/\k s' tr'=some z:=by
 intro ops;induction ops with
 |nil=>intro i e h n gh s q tr tr1 hz hr hn ht _ _ hlk;exact L8 ⟨s,tr,n,hr.r,Fr.refl,hn,ht,hlk,hz⟩
 |cons o r ih=>
  intro i e h n gh s q tr tr1 hz hr hn ht hops hlen1 hlk;have ho0:ops0[tr1.length]?=some o:=by have:=hops 0;rw[hlen1];simpa using this.symm
  have hops2:∀j,r[j]?=ops0[i+1+j]?:=fun j=>by have:=hops (j+1);rw[show i+1+j=i+(j+1)by omega,<-this];rfl
  have hr1:nG ⟨e,h,n,gh⟩ (GY (some b) i s) q:=hr.mono hn;have hb:Dx (some b) i (GY (some b) i s)=true:=by simpa[Dx,GY]using Hr (aL:=b) (i:=i)
  obtain⟨s',q',t,h1,hb2,h2⟩:=yf (dr:=some b) htb hg hr1 hb hz;have hb3:s'.next<=b+fS*(i+1):=by simpa[Dx]using hb2
  have hlen:i+(o::r).length=i+1+r.length:=by simp only[List.length_cons];omega
  rw[hlen];have hfs:∀t∈o.o.dst.toList,t∈(o::r).filterMap (·.o.dst):=fun t ht=>by rw[Option.mem_toList]at ht;exact eS.2 ⟨o,by simp,ht⟩
  have hrs:∀t∈r.filterMap (·.o.dst),t∈(o::r).filterMap (·.o.dst):=fun t ht=>by obtain⟨p,hp,hpt⟩:=eS.1 ht;exact eS.2 ⟨p,by simp[hp],hpt⟩
  have f0:Fr ((o::r).filterMap (·.o.dst)) ⟨e,h,n,gh⟩ ⟨e,h,n,gh⟩ s (GY (some b) i s):=⟨[],rfl,rD.next hn⟩
  rcases h2 with⟨hw,call,x,u,ap,m,hc,he,hi,hu,hr2,hf⟩|⟨hw,hr2,hf⟩
  .have hm:m<=b+fS*(i+1):=dg hr2.r.next hb3;refine Gg hc ?_ (WD.mono (fun e' h' tr1'⟨s3,tr3,n3,g1,g2,g3⟩=>⟨s3,tr3,n3,g1,(f0.trans (hf.mono hfs)).trans (g2.mono hrs),g3⟩) (ih (i+1) _ _ _ _ _ _ _ (tr1++[(ap,u.map (·.1))]) h1 hr2 hb3 (ht.Lp hi fun j hj=>?_) hops2 (by simp[hlen1]) (Fs hlk ho0 fun hl=>Kc he hl)))
   .simp only[xF,hw];have he':bN call o.o.k (o.o.args.map (g_ e)) h (b+fS*i)=some (x,u,ap,m):=he;rw[he'];exact K9 hm
   .obtain ⟨p,hp,rfl⟩:=cU.1 hj;exact hu p hp
  .refine Gg mA ?_ (WD.mono (fun e' h' tr1'⟨s3,tr3,n3,g1,g2,g3⟩=>⟨s3,tr3,n3,g1,(f0.trans (hf.mono hfs)).trans (g2.mono hrs),g3⟩) (ih (i+1) _ _ _ _ _ _ _ (tr1++[([],[])]) h1 hr2 hb3 (ht.Lp (fun i hi=>by simp at hi) fun i hi=>by simp at hi) hops2 (by simp[hlen1]) (Fs hlk ho0 fun _=>Nat.zero_le _)));simp only[xF,hw]
end
def jD:C2->CC
 |.skip=>.skip
 |.Hv ops none _=>.region (ops.map (·.o)) []
 |.Hv ops (some dyn) _=>.drawn (ops.map (·.o)) dyn []
 |.seq a b _=>.seq (jD a) (jD b)
 |.cond c a b=>.cond c (jD a) (jD b)
 |.block id a=>.block id (jD a)
 |.loop _ _ a=>.loop [] (jD a)
 |.exit id=>.exit id
 |.ret=>.ret
 |.dM=>.dM
theorem IR{s1:St}{s s':S2}{id:Nat}(hz:K_ s id=some s')(hr:R2 s1 s):∃s1',Sub s1 s1'/\R2 s1' s'/\Fr [] s1 s1' s s':=by
 unfold K_ at hz;split at hz
 .rename_i t v m id2 ho;split at hz
  .rename_i u r ver ho2;split at hz
   .rename_i r' hr';obtain rfl:=aa hz;obtain⟨e,e2⟩:=bV hr';cases e;obtain rfl:r'=r:=e2;obtain⟨_,⟨d1,d2,d3⟩,hlen,hid2,hkk⟩:=hr.hr.ob id _ ho;obtain⟨_,⟨_,_,c3⟩,_⟩:=hr.hr.ob id2 _ ho2;obtain⟨k1,k2⟩:=hkk _ _ _ (.inl ho2);have hne:id2≠id:=fun e=>by rw[e,ho]at ho2;cases ho2
    cases v with
    |nil=>simp[Sl.l]at hlen
    |mk l=>
     have hlen:m<l.length:=hlen;have d3:=d3 l rfl
     have fin:∀(u:dD),(∀p∈u,p.1=id\/p.1=id2)->au (u++s1.heap) id=some (.nst (bC t) ((du t l (some (m,id2))).set m (kQ t r')))->Sub s1 ⟨s1.cG,u++s1.heap,s1.next,s1.gh⟩->
       ∃s1',Sub s1 s1'/\R2 s1' (cX (cX s id2 none) id (some (.rw t (.mk (l.set m r')) none)))/\Fr [] s1 s1' s (cX (cX s id2 none) id (some (.rw t (.mk (l.set m r')) none))):=by
      intro u hu hb hsub;have d:=(sR (ap:=[]) hr.hr ho ho2 hne (by simp[BH]) hu hb (fun i hi=>by simp at hi)).nx (q:=s1.next) hr.next;exact⟨_,hsub,((nG.none hr).ll d (d:=none) (q':=⟨[],[]⟩) rfl).r,Fr.L1 d none (v':=.no)⟩
     have hl:(du t l (some (m,id2)))[m]?=some (C5 id2 (gt l m)):=by simp only[du];rw[List.getElem?_set_self (by rw[aK];exact hlen)]
     cases r' with
     |nil=>
      refine fin [] (fun p hp=>by simp at hp) ?_ (Sub.refl _);have:gt l m=.nil:=by have k1:true=(gt l m).dZ:=k1;cases hg:gt l m with|nil=>rfl|mk=>rw[hg]at k1;cases k1
      rw[aY,d3,EE (by rw[hl,this];rfl)]
     |mk rr=>
      have c3:=c3 rr rfl;refine fin [(id,some (.nst (bC t) ((du t l (some (m,id2))).set m (kQ t (.mk rr))))),(id2,none)] (fun p hp=>by simp at hp;rcases hp with rfl|rfl<;>simp) (by rw[aJ,cE,if_pos rfl]) ?_;have:C5 id2 (gt l m)=.out id2 (rr.map (aN t)).length:=by have k1:false=(gt l m).dZ:=k1;cases hg:gt l m with|nil=>rw[hg]at k1;cases k1|mk q=>have k2:rr.length=(gt l m).l.length:=k2;rw[hg]at k2;simp only[C5,aK];rw[show rr.length=q.length from k2]
      exact zU d3 (by rw[hl,this]) c3
   .simp at hz
  .simp at hz
 .obtain rfl:=aa hz;exact⟨s1,Sub.refl _,hr,Fr.refl⟩
theorem IS:∀(l:List Nat){s1:St}{s s':S2},xa l s=some s'->R2 s1 s->∃s1',Sub s1 s1'/\R2 s1' s'/\Fr [] s1 s1' s s':=by
 intro l;induction l with
 |nil=>intro s1 s s' hz hr;obtain rfl:=aa hz;exact⟨s1,Sub.refl _,hr,Fr.refl⟩
 |cons id l ih=>
  intro s1 s s' hz hr;simp only[xa]at hz;split at hz
  .rename_i s2 h2;obtain⟨t1,a1,a2,a3⟩:=IR h2 hr;obtain⟨t2,b1,b2,b3⟩:=ih hz a2;exact⟨t2,a1.trans b1,b2,a3.trans b3⟩
  .simp at hz
theorem xU{P:Program}{β:Type}{tb:zF}(htb:lI P tb)(hg:je){ops:List OP}{dr:Option (List (Nat×Nat))}{jn:Option J}{s1:St}{s:S2}{k:S2->Option β}{z:β}(hz:Ci tb ops dr s k=some z)(hr:R2 s1 s):
  W P (jD (.Hv ops dr jn)) s1 fun o s1'=>o=.normal/\∃s',R2 s1' s'/\Fr (ops.filterMap (·.o.dst)) s1 s1' s s'/\k s'=some z:=by
 have fin:∀{s1':St}{s':S2},R2 s1' s'->Fr (ops.filterMap (·.o.dst)) s1 s1' s s'->(La s s').bind k=some z->
   wk (fun t=>nL.normal=nL.normal/\∃s',R2 t s'/\Fr (ops.filterMap (·.o.dst)) s1 t s s'/\k s'=some z) s1':=by
  intro s1' s' h1 h2 h3;obtain⟨s2,h4,h5⟩:=mP h3;obtain⟨t,a1,a2,a3⟩:=IS _ h4 h1;exact⟨t,a1,rfl,s2,a2,h2.trans (a3.mono fun i hi=>by simp at hi),h5⟩
 cases dr with
 |none=>refine Eh (WO.mono (fun s1'⟨s',tr',h1,h2,h3⟩=>fin h1 h2 h3) (C7 htb hg ops 0 s1 s _ [] hz (nG.none hr)))
 |some dyn=>
  refine W.sub (s':={s1 with next:=s.next}) (Sub.heap (fun _=>.inl rfl) hr.next) (G3 (WD.mono (fun e' h' tr1 hq=>?_) (C8 htb hg ops ops 0 s1.cG s1.heap s1.next s1.gh s _ [] [] hz (nG.none hr) (Nat.le_add_right _ _) trivial (fun j=>by rw[bD]) rfl (fun j o a _ h=>by simp at h))));obtain⟨s',tr',n',h1,h2,h3,h4,hlk,h5⟩:=hq;obtain⟨h6,h7⟩:=aI h5;have hn:s'.next<=s.next+fS*ops.length:=by rw[bD]at h3;exact h3
  have hlen:s.next+fS*(ops.map (·.o)).length=s.next+fS*ops.length:=by rw[aK]
  rw[hlen];refine⟨KG h4 hlk h6,fin ((h1.mono hn).nx (ak _)) ?_ h7⟩;obtain⟨w,e1,e2⟩:=h2;refine⟨w,e1,?_⟩;have a:rD (ops.filterMap (·.o.dst)) [] s1 ⟨s1.cG,s1.heap,s1.next,s1.gh⟩ s s:=rD.next (ak _);have b:rD (ops.filterMap (·.o.dst)) [] ⟨e',h',n',s1.gh⟩ ⟨e',h',s.next+fS*ops.length,s1.gh⟩ s' {s' with next:=s.next+fS*ops.length}:=rD.next hn;simpa using e2.trans b
theorem FR(l:List D):dl.jI (l.map C.d)=[]:=by induction l with|nil=>rfl|cons a l ih=>simp only[aq,dl.jI,dl,aY];exact ih
theorem FS(a b:List C):dl.jI (a++b)=dl.jI a++dl.jI b:=by induction a with|nil=>rfl|cons c a ih=>simp only[aJ,dl.jI,ih,aO]
theorem kz(c:C):dl.jI [c]=dl c:=by simp[dl.jI]
theorem zq{h:H2}{n:Nat}:∀{v:V}{cs:List C},dE h v cs->dC n h v->∀i∈dl.jI cs,i<n/\(ft h v=true->fO h i≠none):=by
 have ex:∀id,(match fO h id with|some _=>true|none=>false)=true->fO h id≠none:=by intro id ha e;rw[e]at ha;simp at ha
 intro v;induction v with
 |x t v=>rintro cs ⟨_,rfl⟩ _ i hi;rw[FR]at hi;simp at hi
 |kb c=>rintro cs rfl _ i hi;simp[dl.jI,dl]at hi
 |nl k=>rintro cs rfl _ i hi;simp[dl.jI,yy,dl]at hi
 |so id=>rintro cs ⟨c,rfl,_,hc⟩ hk i hi;rw[kz]at hi;obtain rfl:=hc i hi;refine⟨hk,fun ha e=>?_⟩;simp[ft,e]at ha
 |sr id=>rintro cs ⟨c,rfl,_,hc⟩ hk i hi;rw[kz]at hi;obtain rfl:=hc i hi;refine⟨hk,fun ha e=>?_⟩;simp[ft,e]at ha
 |sb id ver lo t r=>rintro cs ⟨c,rfl,_,hc⟩ hk i hi;rw[kz]at hi;obtain rfl:=hc i hi;refine⟨hk.1,fun ha e=>?_⟩;simp[ft,e]at ha
 |op id t p=>
  rintro cs rfl hk i hi;rw[kz]at hi;obtain rfl:i=id:=by simpa[dl]using hi
  exact⟨hk.1,ex _⟩
 |ep id m t p=>
  rintro cs rfl hk i hi;rw[kz]at hi;obtain rfl:i=id:=by simpa[dl]using hi
  exact⟨hk.1,ex _⟩
 |om id=>
  rintro cs rfl hk i hi;rw[kz]at hi;obtain rfl:i=id:=by simpa[dl]using hi
  exact⟨hk,ex _⟩
 |pt t v=>rintro cs ⟨_,rfl⟩ _ i hi;simp[dl.jI,dl]at hi
 |fn z f l ih=>intro cs hc hk i hi;cases z with|true=>obtain⟨ds,_,rfl⟩:=hc;simp[dl.jI,dl]at hi|false=>obtain⟨xs,h1,rfl⟩:=hc;rw[kz]at hi;exact ih h1 hk i (by simpa[dl]using hi)
 |rc l ih=>intro cs hc hk;exact ih hc hk
 |fl l=>
  rintro cs ⟨_,rfl⟩ _ i hi;have:dk l=(l.map D.lit).map C.d:=by simp[dk]
  rw[this,FR]at hi;simp at hi
 |ni=>rintro cs rfl _ i hi;simp[dl.jI]at hi
 |co a r iha ihr=>
  rintro cs ⟨x,y,rfl,h1,h2⟩ ⟨k1,k2⟩ i hi;rw[FS,aj]at hi;simp only[ft,ae];rcases hi with hi|hi
  .exact ⟨(iha h1 k1 i hi).1,fun ha=>(iha h1 k1 i hi).2 ha.1⟩
  .exact ⟨(ihr h2 k2 i hi).1,fun ha=>(ihr h2 k2 i hi).2 ha.2⟩
 |tp l=>intro cs hc;exact hc.elim
 |no=>intro cs hc;exact hc.elim
 |gn=>intro cs hc;exact hc.elim
theorem sB{h:H2}{n:Nat}{v:V}{x:TV}(hx:nR h v x)(hk:dC n h v):∀i∈ja x,i<n/\(ft h v=true->fO h i≠none):=by obtain⟨cs,h1,h2,h3⟩:=hx;intro i hi;refine zq h1 hk i ?_;cases ha:oH v with|true=>rw[h2 ha]at hi;exact hi|false=>obtain⟨c,rfl,rfl⟩:=h3 ha;rw[kz];exact hi
theorem Er{h:H2}{n:Nat}:∀{v:V}{xs:List TV},vU h v xs->dC n h v->∀i∈ja.uy xs,i<n/\(ft h v=true->fO h i≠none):=by
 intro v;induction v with
 |ni=>rintro xs rfl _ i hi;simp[ja.uy]at hi
 |co a r _ ihr=>
  rintro xs ⟨x,ys,rfl,h1,h2⟩ ⟨k1,k2⟩ i hi;simp only[ja.uy,aj]at hi;simp only[ft,ae];rcases hi with hi|hi
  .exact ⟨(sB h1 k1 i hi).1,fun ha=>(sB h1 k1 i hi).2 ha.1⟩
  .exact ⟨(ihr h2 k2 i hi).1,fun ha=>(ihr h2 k2 i hi).2 ha.2⟩
 |_=>intro xs h;exact h.elim
theorem BD{h:H2}{n:Nat}{v:V}{x:TV}(hx:dV h v x)(hk:dC n h v):∀i∈ja x,i<n/\(ft h v=true->fO h i≠none):=by cases v with|tp l=>obtain⟨xs,rfl,h2⟩:=hx;intro i hi;exact Er (v:=l) h2 hk i hi|no=>obtain rfl:=hx;intro i hi;simp[ja,ja.uy]at hi|gn=>exact hx.elim|_=>exact sB hx hk
mutual
def nM(M:Nat->Nat->Prop):C->C->Prop
 |.d x,y=>y=.d x
 |.dq a i b c,y=>∃j,M i j/\y=.dq a j b c
 |.ep i b c,y=>∃j,M i j/\y=.ep j b c
 |.op i b,y=>∃j,M i j/\y=.op j b
 |.om i,y=>∃j,M i j/\y=.om j
 |.kR f l,y=>∃m,kM M l m/\y=.kR f m
def kM(M:Nat->Nat->Prop):List C->List C->Prop
 |[],m=>m=[]
 |c::l,m=>∃d r,nM M c d/\kM M l r/\m=d::r
end
mutual
def zE(M:Nat->Nat->Prop):TV->TV->Prop
 |.c x,y=>∃d,nM M x d/\y=.c d
 |.agg l,y=>∃m,kM M l m/\y=.agg m
 |.eU l,y=>∃m,uF M l m/\y=.eU m
def uF(M:Nat->Nat->Prop):List TV->List TV->Prop
 |[],m=>m=[]
 |c::l,m=>∃d r,zE M c d/\uF M l r/\m=d::r
end
section
variable{M:Nat->Nat->Prop}
theorem kM.d(l:List D):kM M (l.map .d) (l.map .d):=by induction l with|nil=>rfl|cons a l ih=>exact⟨_,_,rfl,ih,rfl⟩
theorem kM.Lp{a b x y:List C}(h1:kM M a x)(h2:kM M b y):kM M (a++b) (x++y):=by induction a generalizing x with|nil=>obtain rfl:=h1;exact h2|cons c a ih=>obtain⟨d,r,h3,h4,rfl⟩:=h1;exact⟨d,r++y,h3,ih h4,rfl⟩
theorem kM.one{c d:C}(h:nM M c d):kM M [c] [d]:=⟨d,[],h,rfl,rfl⟩
mutual
theorem nM.same:∀(c:C),(∀i∈dl c,M i i)->nM M c c
 |.d x,_=>rfl
 |.dq a i b c,h=>⟨i,h i (by simp[dl]),rfl⟩
 |.ep i b c,h=>⟨i,h i (by simp[dl]),rfl⟩
 |.op i b,h=>⟨i,h i (by simp[dl]),rfl⟩
 |.om i,h=>⟨i,h i (by simp[dl]),rfl⟩
 |.kR f l,h=>⟨l,kM.same l (fun i hi=>h i (by simpa[dl]using hi)),rfl⟩
theorem kM.same:∀(l:List C),(∀i∈dl.jI l,M i i)->kM M l l
 |[],_=>rfl
 |c::l,h=>⟨c,l,nM.same c (fun i hi=>h i (by simp[dl.jI,hi])),kM.same l (fun i hi=>h i (by simp[dl.jI,hi])),rfl⟩
end
mutual
theorem zE.same:∀(x:TV),(∀i∈ja x,M i i)->zE M x x
 |.c x,h=>⟨x,nM.same x h,rfl⟩
 |.agg l,h=>⟨l,kM.same l h,rfl⟩
 |.eU l,h=>⟨l,uF.same l h,rfl⟩
theorem uF.same:∀(l:List TV),(∀i∈ja.uy l,M i i)->uF M l l
 |[],_=>rfl
 |c::l,h=>⟨c,l,zE.same c (fun i hi=>h i (by simp[ja.uy,hi])),uF.same l (fun i hi=>h i (by simp[ja.uy,hi])),rfl⟩
end
mutual
theorem nM.nZ{i' i:Nat}(hm:M i' i):∀(c:C),(∀j∈dl c,j=i)->∃c',nM M c' c/\∀j∈dl c',j=i'
 |.d x,_=>⟨.d x,rfl,fun j hj=>by simp[dl]at hj⟩
 |.dq a j b c,h=>by obtain rfl:=h j (by simp[dl]);exact⟨.dq a i' b c,⟨_,hm,rfl⟩,fun j hj=>by simpa[dl]using hj⟩
 |.ep j b c,h=>by obtain rfl:=h j (by simp[dl]);exact⟨.ep i' b c,⟨_,hm,rfl⟩,fun j hj=>by simpa[dl]using hj⟩
 |.op j b,h=>by obtain rfl:=h j (by simp[dl]);exact⟨.op i' b,⟨_,hm,rfl⟩,fun j hj=>by simpa[dl]using hj⟩
 |.om j,h=>by obtain rfl:=h j (by simp[dl]);exact⟨.om i',⟨_,hm,rfl⟩,fun j hj=>by simpa[dl]using hj⟩
 |.kR f l,h=>by obtain⟨l',h1,h2⟩:=kM.nZ hm l (fun j hj=>h j (by simpa[dl]using hj));exact⟨.kR f l',⟨l,h1,rfl⟩,fun j hj=>h2 j (by simpa[dl]using hj)⟩
theorem kM.nZ{i' i:Nat}(hm:M i' i):∀(l:List C),(∀j∈dl.jI l,j=i)->∃l',kM M l' l/\∀j∈dl.jI l',j=i'
 |[],_=>⟨[],rfl,fun j hj=>by simp[dl.jI]at hj⟩
 |c::l,h=>by obtain⟨c',h1,h2⟩:=nM.nZ hm c (fun j hj=>h j (by simp[dl.jI,hj]));obtain⟨l',h3,h4⟩:=kM.nZ hm l (fun j hj=>h j (by simp[dl.jI,hj]));refine⟨c'::l',⟨c,l,h1,h3,rfl⟩,fun j hj=>?_⟩;simp only[dl.jI,aj]at hj;exact hj.elim (h2 j) (h4 j)
end
mutual
theorem nM.eq(B:Nat->Prop)(hM:∀i j,M i j->i=j\/B j):∀(c' c:C),nM M c' c->(∀i∈dl c,¬B i)->c'=c
 |.d x,c,h,_=>h.symm
 |.dq a i b e,c,h,hb=>by
  obtain⟨j,h1,rfl⟩:=h;rcases hM i j h1 with rfl|q
  .rfl
  .exact absurd q (hb j (by simp[dl]))
 |.ep i b e,c,h,hb=>by
  obtain⟨j,h1,rfl⟩:=h;rcases hM i j h1 with rfl|q
  .rfl
  .exact absurd q (hb j (by simp[dl]))
 |.op i b,c,h,hb=>by
  obtain⟨j,h1,rfl⟩:=h;rcases hM i j h1 with rfl|q
  .rfl
  .exact absurd q (hb j (by simp[dl]))
 |.om i,c,h,hb=>by
  obtain⟨j,h1,rfl⟩:=h;rcases hM i j h1 with rfl|q
  .rfl
  .exact absurd q (hb j (by simp[dl]))
 |.kR f l,c,h,hb=>by obtain⟨m,h1,rfl⟩:=h;rw[kM.eq B hM l m h1 fun i hi=>hb i (by simpa[dl]using hi)]
theorem kM.eq(B:Nat->Prop)(hM:∀i j,M i j->i=j\/B j):∀(l' l:List C),kM M l' l->(∀i∈dl.jI l,¬B i)->l'=l
 |[],l,h,_=>h.symm
 |c::r,l,h,hb=>by obtain⟨d,m,h1,h2,rfl⟩:=h;rw[nM.eq B hM c d h1 fun i hi=>hb i (by simp[dl.jI,hi]),kM.eq B hM r m h2 fun i hi=>hb i (by simp[dl.jI,hi])]
end
theorem zE.NR(B:Nat->Prop)(hM:∀i j,M i j->i=j\/B j){x' x:TV}(h:zE M x' x)(hn:∀l,x'≠.eU l)(hb:∀i∈ja x,¬B i):x'=x:=by cases x' with|c a=>obtain⟨d,h1,rfl⟩:=h;rw[nM.eq B hM a d h1 hb]|agg a=>obtain⟨d,h1,rfl⟩:=h;rw[kM.eq B hM a d h1 hb]|eU l=>exact absurd rfl (hn l)
theorem kM.len:∀{l m:List C},kM M l m->l.length=m.length
 |[],m,h=>by obtain rfl:=h;rfl
 |c::l,m,h=>by obtain⟨d,r,_,h2,rfl⟩:=h;simp[kM.len h2]
section
variable{S:Nat->Prop}{w:World}{Kn Kn':Nat->Prop}{φ φ':Nat->eG}
mutual
theorem nM.rc(hM:∀i j,M i j->Kn j->Kn' i/\φ' i=φ j):∀(c' c:C)(v:Value),nM M c' c->RC S w Kn φ c v->RC S w Kn' φ' c' v
 |.d x,c,v,h,hr=>by obtain rfl:=h;cases hr with|d hd=>exact .d hd
 |.dq a i b e,c,v,h,hr=>by obtain⟨j,h1,rfl⟩:=h;obtain⟨cap,addr,rfl,rfl,hk,hcap,haddr,hext,hcl⟩:=hr.gQ;obtain⟨e2,e1⟩:=hM i j h1 hk;have:=RC.dq (S:=S) (w:=w) (Kn:=Kn') (φ:=φ') (id:=i) (off:=b) (len:=e) (cap:=cap) (addr:=addr) e2 hcap (by rw[e1];exact haddr) (by rw[e1];exact hext) (by rw[e1];exact hcl);rw[e1]at this;exact this
 |.ep i b e,c,v,h,hr=>by obtain⟨j,h1,rfl⟩:=h;cases hr with|ep hk=>obtain⟨e2,e1⟩:=hM i j h1 hk;have:=RC.ep (S:=S) (w:=w) (Kn:=Kn') (φ:=φ') (id:=i) (dv:=b) (off:=e) e2;rw[e1]at this;exact this
 |.op i b,c,v,h,hr=>by obtain⟨j,h1,rfl⟩:=h;cases hr with|op hk=>obtain⟨e2,e1⟩:=hM i j h1 hk;have:=RC.op (S:=S) (w:=w) (Kn:=Kn') (φ:=φ') (id:=i) (off:=b) e2;rw[e1]at this;exact this
 |.om i,c,v,h,hr=>by obtain⟨j,h1,rfl⟩:=h;cases hr with|om hk=>obtain⟨e2,e1⟩:=hM i j h1 hk;have:=RC.om (S:=S) (w:=w) (Kn:=Kn') (φ:=φ') (id:=i) e2;rw[e1]at this;exact this
 |.kR f l,c,v,h,hr=>by obtain⟨m,h1,rfl⟩:=h;cases hr with|kR hlen hrc=>exact .kR ((kM.len h1).trans hlen) (kM.rc hM l m _ h1 hrc)
theorem kM.rc(hM:∀i j,M i j->Kn j->Kn' i/\φ' i=φ j):∀(l' l:List C)(f:Nat->Value),kM M l' l->(∀(i:Nat)(x:C),l[i]?=some x->RC S w Kn φ x (f i))->∀(i:Nat)(x:C),l'[i]?=some x->RC S w Kn' φ' x (f i)
 |[],l,f,h,_=>fun i x hi=>by simp at hi
 |c::r,l,f,h,hr=>by
  obtain⟨d,m,h1,h2,rfl⟩:=h;intro i x hi;cases i with
  |zero=>
   obtain rfl:c=x:=by simpa using hi
   exact nM.rc hM c d _ h1 (hr 0 d rfl)
  |succ i=>exact kM.rc hM r m (fun i=>f (i+1)) h2 (fun i x hi=>hr (i+1) x (by simpa using hi)) i x (by simpa using hi)
end
mutual
theorem zE.rc(hM:∀i j,M i j->Kn j->Kn' i/\φ' i=φ j):∀(x' x:TV)(v:Value),zE M x' x->dO S w Kn φ x v->dO S w Kn' φ' x' v
 |.c a,x,v,h,hr=>by obtain⟨d,h1,rfl⟩:=h;cases hr with|c hr=>exact .c (nM.rc hM a d v h1 hr)
 |.agg a,x,v,h,hr=>by obtain⟨d,h1,rfl⟩:=h;cases hr with|agg hlen hr=>exact .agg ((kM.len h1).trans hlen) (kM.rc hM a d _ h1 hr)
 |.eU a,x,v,h,hr=>by obtain⟨d,h1,rfl⟩:=h;cases hr with|eU hlen hr=>obtain⟨e1,e2⟩:=uF.rc hM a d _ h1 hr;exact .eU (e1.trans hlen) e2
theorem uF.rc(hM:∀i j,M i j->Kn j->Kn' i/\φ' i=φ j):∀(l' l:List TV)(f:Nat->Value),uF M l' l->(∀(i:Nat)(x:TV),l[i]?=some x->dO S w Kn φ x (f i))->l'.length=l.length/\∀(i:Nat)(x:TV),l'[i]?=some x->dO S w Kn' φ' x (f i)
 |[],l,f,h,_=>by obtain rfl:=h;exact⟨rfl,fun i x hi=>by simp at hi⟩
 |c::r,l,f,h,hr=>by
  obtain⟨d,m,h1,h2,rfl⟩:=h;obtain⟨e1,e2⟩:=uF.rc hM r m (fun i=>f (i+1)) h2 (fun i x hi=>hr (i+1) x (by simpa using hi));refine⟨by simp[e1],fun i x hi=>?_⟩;cases i with
  |zero=>
   obtain rfl:c=x:=by simpa using hi
   exact zE.rc hM c d _ h1 (hr 0 d rfl)
  |succ i=>exact e2 i x (by simpa using hi)
end
end
end
theorem Gj{s1 s1':St}{s:S2}(hr:R2 s1 s){t id ver lo v0:Nat}{u u0:Ty}{x:Sl (El u)}{s0:Sl (El u0)}(hid:id<s.next)(he:∀t',t'≠t->bM s1'.cG t'=bM s1.cG t')(ht1:bM s1'.cG t=some (.c (jm (bC u) (aN u) s.next x)))
  (hh:∀i,i≠id->i≠s.next->au s1'.heap i=au s1.heap i) (hn:∀g,qf g (.ar u x 0) (au s1'.heap s.next)) (hnx:s1'.next<=s.next+1) (hgh:s1'.gh=s1.gh) (hte:∀x0,bM s1.cG t=some x0->id∉ja x0->bM s1'.cG t=some x0):
  R2 s1' ⟨(t,.so s.next)::s.cG,(s.next,some (.ar u x 0))::(id,none)::s.heap,s.next+1,s.next::id::s.wo,s.gh⟩/\
  Fr [] s1 s1' s ⟨(t,.so s.next)::s.cG,(s.next,some (.ar u x 0))::(id,none)::s.heap,s.next+1,s.next::id::s.wo,s.gh⟩:=by
 have hfo:∀i,fO ((s.next,some (.ar u x 0))::(id,none)::s.heap) i=if s.next=i then some (.ar u x 0)else if id=i then none else fO s.heap i:=fun i=>by rw[bZ,bZ]
 have dm:gm s.next s.heap ((s.next,some (.ar u x 0))::(id,none)::s.heap):=⟨fun i o' hi ho=>by
  rw[hfo,if_neg (by omega)]at ho;split at ho
  .simp at ho
  .exact .inl ⟨o',ho,nI.refl _⟩⟩
 have hnb:∀i,i<s.next->fO s.heap i=none->fO ((s.next,some (.ar u x 0))::(id,none)::s.heap) i=none:=fun i hi h=>by
  rw[hfo,if_neg (by omega)];split
  .rfl
  .exact h
 refine⟨⟨fun t' v ht'=>?_,⟨fun i o ho=>?_⟩,hnx,?_⟩,?_⟩
 .simp only[bM]at ht';by_cases e:t=t'
  .subst e;have e':(t==t)=true:=by simp
   rw[e',cond_true]at ht';obtain rfl:=aa ht';exact⟨aS _,fun _=>⟨_,ht1,qK⟩⟩
  .have e':(t==t')=false:=by simpa using e
   rw[e',cond_false]at ht';obtain⟨h1,h2⟩:=hr.cG t' v ht';refine⟨eL (bg _) dm h1,fun ha=>?_⟩;obtain⟨y,h3,h4⟩:=h2 (ha.imp (qq dm hnb h1) fun q=>q);exact⟨y,(he t' fun q=>e q.symm).trans h3,pX dm h1 h4⟩
 .have ho':=ho;rw[hfo]at ho;split at ho
  .rename_i e;subst e;obtain rfl:=aa ho;exact⟨aS _,hn _,trivial⟩
  .rename_i e;split at ho
   .simp at ho
   .rename_i e2;obtain⟨h1,h2,h3⟩:=hr.hr.ob i o ho;rw[hh i (fun q=>e2 q.symm) (fun q=>e q.symm)];exact⟨Nat.lt_succ_of_lt h1,lr dm h3 h2,ku (bg _) dm h3⟩
 .rw [hgh];exact⟨yW dm hnb hr.gh.2 hr.gh.1,eL (bg _) dm hr.gh.2⟩
 .refine ⟨[s.next,id],rfl,bg _,dm,by rw[hgh],fun i hi hw=>?_,fun t' y _ hy hk=>?_⟩
  .simp only[aD,List.not_mem_nil,or_false,not_or]at hw;refine⟨?_,fun o _ g hg=>by rw[hh i hw.2 hw.1];exact hg⟩;show fO ((s.next,some (.ar u x 0))::(id,none)::s.heap) i=_;rw[hfo,if_neg fun q=>hw.1 q.symm,if_neg fun q=>hw.2 q.symm]
  .by_cases e:t'=t
   .subst e;exact hte y hy fun q=>(hk id q).2.1 (by simp)
   .rw [he t' e];exact hy
theorem wS{s1:St}{s:S2}(hr:R2 s1 s){t id ver lo v0:Nat}{u u0:Ty}{x:Sl (El u)}{s0:Sl (El u0)}(ht:bM s.cG t=some (.sb id ver lo u x))(ho:fO s.heap id=some (.ar u0 s0 v0))(hd:gT u=true)(hv:(v0==ver)=true):
  ∃s1',Sub s1 s1'/\R2 s1' ⟨(t,.so s.next)::s.cG,(s.next,some (.ar u x 0))::(id,none)::s.heap,s.next+1,s.next::id::s.wo,s.gh⟩/\
   Fr [] s1 s1' s ⟨(t,.so s.next)::s.cG,(s.next,some (.ar u x 0))::(id,none)::s.heap,s.next+1,s.next::id::s.wo,s.gh⟩:=by
 obtain⟨hk,hx⟩:=hr.cG t _ ht;have ha:ft s.heap (.sb id ver lo u x)=true:=by simp only[ft,ho,hd,hv,Bool.and_self]
 obtain⟨y,hy,hty⟩:=hx (.inl ha);obtain rfl:=mb hty ha;obtain⟨hid,hk2⟩:=hk;obtain⟨_,hcut⟩:=hk2 u0 s0 v0 (.inl ho);obtain⟨hsz,hcut⟩:=hcut (by simpa using hv);obtain⟨hd0,hs0,hlk⟩:=(hr.hr.ob id _ ho).2.1;have hne:id≠s.next:=Nat.ne_of_lt hid;cases s0 with
 |nil=>cases x with|mk l=>exact hcut.elim|nil=>refine⟨{s1 with next:=s.next},Sub.heap (fun _=>.inl rfl) hr.next,Gj (v0:=0) (ver:=0) (lo:=0) (u0:=u) (s0:=.nil) hr hid (fun _ _=>rfl) hy (fun _ _ _=>rfl) (fun g=>⟨hd,hsz▸hs0,fun l e=>by cases e⟩) (bg _) rfl fun x0 h0 _=>h0⟩
 |mk l0=>
  cases x with
  |nil=>exact hcut.elim
  |mk l=>
   obtain⟨h1,h2⟩:=hcut;have hlk:=hlk l0 rfl;have hsub:=Hf (n:=s.next) (gh:=s1.gh) (rows':=l.map (aN u)) hy hlk (by rw[aK];exact h2) (by rw[aK,aK];exact h1);refine⟨_,Sub.trans (Sub.heap (fun _=>.inl rfl) hr.next) hsub,Gj (v0:=0) (ver:=0) (lo:=0) (u0:=u) (s0:=.nil) hr hid (fun t' ht'=>?_) ?_ (fun i h3 h4=>?_) (fun g=>⟨hd,hsz▸hs0,fun l' e=>?_⟩) (ak _) rfl fun x0 h0 h3=>?_⟩
   .have e':(t==t')=false:=by simpa using fun q:t=t'=>ht' q.symm
    simp only[bM,e',cond_false]
   .simp only[bM,jm];simp
   .simp only[cE];rw[if_neg fun q=>h3 q.symm,if_neg fun q=>h4 q.symm]
   .cases e;simp only[cE];rw[if_neg hne];simp
   .rw [hy]at h0;obtain rfl:=aa h0;exact absurd (by simp[ja,rV,dl]) h3
theorem vA:∀(vs:List (Nat×JV))(s1:St)(s:S2),R2 s1 s->∃s1',Sub s1 s1'/\R2 s1' (uC vs s)/\Fr [] s1 s1' s (uC vs s):=by
 intro vs;induction vs with
 |nil=>intro s1 s hr;exact⟨s1,Sub.refl _,hr,Fr.refl⟩
 |cons p r ih=>
  obtain⟨t,jv⟩:=p;intro s1 s hr;cases jv with
  |so j=>
   simp only[uC];split
   .rename_i id ver lo u x ht;split
    .rename_i u0 s0 v0 ho;cases hc:(gT u&&v0==ver)with|false=>exact ih s1 s hr|true=>simp only[ae]at hc;obtain⟨s2,h1,h2,h3⟩:=wS hr ht ho hc.1 hc.2;obtain⟨s3,h4,h5,h6⟩:=ih s2 _ h2;exact⟨s3,h1.trans h4,h5,h3.trans h6⟩
    .exact ih s1 s hr
   .exact ih s1 s hr
  |_=>exact ih s1 s hr
def vN(m:List Bd):Prop:=∀b∈m,∀c∈m,(b.j=c.j->b=c)/\∀i,b.id=some i->c.id=some i->b=c
theorem t_:∀{m:List Bd}{j:Nat}{b:Bd},GD m j=some b->b∈m/\b.j=j:=by
 intro m;induction m with
 |nil=>intro j b h;simp[GD]at h
 |cons c m ih=>intro j b h;simp only[GD]at h;cases hc:(c.j==j)with|true=>rw[hc,cond_true]at h;obtain rfl:=aa h;exact⟨by simp,by simpa using hc⟩|false=>rw[hc,cond_false]at h;exact⟨av _ (ih h).1,(ih h).2⟩
theorem zu:∀{m:List Bd}{j:Nat},GD m j=none->∀b∈m,b.j≠j:=by
 intro m;induction m with
 |nil=>intro j _ b hb;simp at hb
 |cons c m ih=>
  intro j h b hb;simp only[GD]at h;cases hc:(c.j==j)with
  |true=>rw[hc]at h;simp at h
  |false=>
   rw[hc,cond_false]at h;rcases aD.1 hb with rfl|hb
   .simpa using hc
   .exact ih h b hb
theorem ju{m m':List Bd}{b:Bd}(h:qo m b=some m'):b∈m'/\(∀c∈m,c∈m')/\(vN m->vN m'):=by
 unfold qo at h;split at h
 .rename_i hn;have hn:=zu hn;have hfresh:m'=b::m/\∀c∈m,∀i,b.id=some i->c.id≠some i:=by obtain⟨hc,h⟩:=aI h;obtain rfl:=aa h;refine⟨rfl,fun c hcm i hi e=>?_⟩;rw[hi]at hc;have:=aQ.1 hc c hcm;rw[e]at this;simp at this
  obtain⟨rfl,hf⟩:=hfresh;refine⟨by simp,fun c hc=>av _ hc,fun hi x hx y hy=>?_⟩;rcases aD.1 hx with ex|hx2<;>rcases aD.1 hy with ey|hy2
  .subst ex;subst ey;exact⟨fun _=>rfl,fun _ _ _=>rfl⟩
  .subst ex;exact⟨fun e=>absurd e.symm (hn y hy2),fun i h1 h2=>absurd h2 (hf y hy2 i h1)⟩
  .subst ey;exact⟨fun e=>absurd e (hn x hx2),fun i h1 h2=>absurd h1 (hf x hx2 i h2)⟩
  .exact hi x hx2 y hy2
 .rename_i c hc;obtain⟨h1,h2⟩:=t_ hc;split at h
  .rename_i i i' hi hi';obtain⟨he,h⟩:=aI h;obtain rfl:=aa h;obtain rfl:i=i':=by simpa using he
   have:b=c:=by cases b;cases c;simp only at hi hi' h2;subst hi;subst hi';subst h2;rfl
   exact⟨this▸h1,fun _ h=>h,fun h=>h⟩
  .simp at h
theorem o6:∀(jv:JV)(ln:Bool)(v:V)(m:List Bd)(l:List V)(m1:List Bd),cB jv ln v m=some (l,m1)->(∀c∈m,c∈m1)/\(vN m->vN m1):=by
 have b1:∀(m:List Bd)(b:Bd)(l:List V)(m1:List Bd),(match qo m b with|some m=>some (([]:List V),m)|none=>none)=some (l,m1)->(∀c∈m,c∈m1)/\(vN m->vN m1):=by
  intro m b l m1 h;split at h
  .rename_i m' hm;obtain⟨_,rfl⟩:=ad (aa h);exact(ju hm).2
  .simp at h
 intro jv;induction jv with
 |co a r iha ihr=>
  intro ln v m l m1 h;cases ln with
  |false=>cases v<;>simp[cB]at h
  |true=>
   cases v with
   |co x y=>
    simp only[cB]at h;split at h
    .rename_i l2 m2 h2;split at h
     .rename_i l3 m3 h3;obtain⟨_,rfl⟩:=ad (aa h);obtain⟨a1,a2⟩:=iha _ _ _ _ _ h2;obtain⟨c1,c2⟩:=ihr _ _ _ _ _ h3;exact⟨fun c hc=>c1 c (a1 c hc),fun hi=>c2 (a2 hi)⟩
     .simp at h
    .simp at h
   |_=>simp[cB]at h
 |rc a ih=>
  intro ln v m l m1 h;cases ln with
  |true=>cases v<;>simp[cB]at h
  |false=>
   cases v with
   |rc l'=>exact ih _ _ _ _ _ h
   |x t v=>cases t<;>first|exact ih _ _ _ _ _ h|simp[cB]at h
   |_=>simp[cB]at h
 |fn z f a ih=>
  intro ln v m l m1 h;cases ln with
  |true=>cases v<;>simp[cB]at h
  |false=>cases v with|fn z' f' l'=>simp only[cB]at h;obtain⟨_,h⟩:=aI h;exact ih _ _ _ _ _ h|_=>simp[cB]at h
 |so j=>
  intro ln v m l m1 h;cases ln with
  |true=>cases v<;>simp[cB]at h
  |false=>
   cases v with
   |so id=>exact b1 _ _ _ _ h
   |nl k=>cases k with|zero=>exact b1 _ _ _ _ h|succ=>simp[cB]at h
   |x t v=>cases t with|sl u=>exact b1 _ _ _ _ (aI h).2|_=>simp[cB]at h
   |_=>simp[cB]at h
 |om j=>
  intro ln v m l m1 h;cases ln with
  |true=>cases v<;>simp[cB]at h
  |false=>cases v with|om id=>exact b1 _ _ _ _ h|_=>simp[cB]at h
 |sr j=>
  intro ln v m l m1 h;cases ln with
  |true=>cases v<;>simp[cB]at h
  |false=>cases v with|sr id=>exact b1 _ _ _ _ h|_=>simp[cB]at h
 |op j t p=>
  intro ln v m l m1 h;cases ln with
  |true=>cases v<;>simp[cB]at h
  |false=>cases v with|op id u q=>simp only[cB]at h;obtain⟨_,h⟩:=aI h;exact b1 _ _ _ _ h|_=>simp[cB]at h
 |x t=>
  intro ln v m l m1 h;cases ln with
  |true=>cases v<;>simp[cB]at h
  |false=>
   simp only[cB]at h;split at h
   .obtain ⟨_,rfl⟩:=ad (aa h);exact⟨fun _ h=>h,fun h=>h⟩
   .simp at h
 |pt t=>
  intro ln v m l m1 h;cases ln with
  |true=>cases v<;>simp[cB]at h
  |false=>
   cases v with
   |pt u v=>
    simp only[cB]at h;split at h
    .obtain ⟨_,rfl⟩:=ad (aa h);exact⟨fun _ h=>h,fun h=>h⟩
    .simp at h
   |_=>simp[cB]at h
 |nl k=>
  intro ln v m l m1 h;cases ln with
  |true=>cases v<;>simp[cB]at h
  |false=>cases v with|nl k'=>simp only[cB]at h;obtain⟨_,h⟩:=aI h;obtain⟨_,rfl⟩:=ad (aa h);exact⟨fun _ h=>h,fun h=>h⟩|_=>simp[cB]at h
 |ni=>
  intro ln v m l m1 h;cases ln with
  |false=>cases v<;>simp[cB]at h
  |true=>cases v with|ni=>obtain⟨_,rfl⟩:=ad (aa h);exact⟨fun _ h=>h,fun h=>h⟩|_=>simp[cB]at h
 |sm=>intro ln v m l m1 h;cases ln<;>cases v<;>simp[cB]at h
 |gn=>intro ln v m l m1 h;cases ln<;>cases v<;>simp[cB]at h
structure Cx(h' h'':H2)(aL n'':Nat)(mf:List Bd)(M:Nat->Nat->Prop):Prop where
 m:∀b∈mf,∀i,b.id=some i->M (aL+b.j) i
 n:∀b∈mf,aL+b.j<n''
 so:∀b∈mf,∀i,b.id=some i->∀c',uQ (aL+b.j) (fO h'' (aL+b.j))=some c'->∃t s,c'=jm (bC t) (aN t) (aL+b.j) s/\uQ i (fO h' i)=some (jm (bC t) (aN t) i s)
 sr:∀b∈mf,∀i,b.id=some i->∀c',zJ (aL+b.j) (fO h'' (aL+b.j))=some c'->∃(t:Ty)(s:Sl (Sl (El t))),c'=jm 1 (aN (.sl t)) (aL+b.j) s/\zJ i (fO h' i)=some (jm 1 (aN (.sl t)) i s)
 nl:∀b∈mf,b.id=none->∀c',uQ (aL+b.j) (fO h'' (aL+b.j))=some c'->c'=yy 0
theorem Aq:∀{q:lN}{p:List Nat},x7 q=some p->q=p.map .fd:=by
 intro q;induction q with
 |nil=>intro p h;obtain rfl:=aa h;rfl
 |cons a q ih=>
  intro p h;cases a with
  |ix=>simp[x7]at h
  |fd i=>
   simp only[x7]at h;split at h
   .rename_i l hl;obtain rfl:=aa h;rw[ih hl];rfl
   .simp at h
theorem EL{b:Nat}{a r:JV}{l:List V}{v0 v':V}{r':List V}(h:fR b (.co a r) true l v0=some (v',r')):∃x0 y0 v l1 w,fR b a false l x0=some (v,l1)/\fR b r true l1 y0=some (w,r')/\v'=.co v w:=by
 have key:∀(x0 y0:V),(match fR b a false l x0 with|some (v,l)=>(match fR b r true l y0 with|some (w,l)=>some (V.co v w,l)|none=>none)|none=>none)=some (v',r')->∃x0 y0 v l1 w,fR b a false l x0=some (v,l1)/\fR b r true l1 y0=some (w,r')/\v'=.co v w:=by
  intro x0 y0 h;split at h
  .rename_i v l1 h1;split at h
   .rename_i w l2 h2;obtain⟨rfl,rfl⟩:=ad (aa h);exact⟨x0,y0,v,l1,w,h1,h2,rfl⟩
   .simp at h
  .simp at h
 cases v0 with|co x y=>exact key x y h|_=>exact key .gn .ni h
theorem Lx{b:Nat}{t:Ty}{y:El t}{rest:List V}{v0 v':V}{r':List V}(h:fR b (.x t) false (.x t y::rest) v0=some (v',r')):gT t=true/\v'=.x t y/\r'=rest:=by simp only[fR]at h;obtain⟨h1,h⟩:=aI h;obtain⟨rfl,rfl⟩:=ad (aa h);simp only[decide_true,Bool.true_and]at h1;exact⟨h1,rfl,rfl⟩
theorem EK{b:Nat}{t:Ty}{y:El t}{rest:List V}{v0 v':V}{r':List V}(h:fR b (.pt t) false (.x t y::rest) v0=some (v',r')):gT t=true/\v'=.pt t y/\r'=rest:=by simp only[fR]at h;obtain⟨h1,h⟩:=aI h;obtain⟨rfl,rfl⟩:=ad (aa h);simp only[decide_true,Bool.true_and]at h1;exact⟨h1,rfl,rfl⟩
theorem DX{aL:Nat}:∀(jv:JV)(v:V)(m:List Bd)(l:List V)(m1:List Bd)(rest:List V)(v0 v':V)(r':List V)(ds:List D),cB jv true v m=some (l,m1)->mo v=some ds->fR aL jv true (l++rest) v0=some (v',r')->
  r'=rest/\mo v'=some ds/\∀n h,dC n h v':=by
 intro jv;induction jv with
 |co a r _ ihr=>
  intro v m l m1 rest v0 v' r' ds hc hd hr;cases v with
  |co x y=>
   simp only[cB]at hc;split at hc
   .rename_i l1 m2 h1;split at hc
    .rename_i l2 m3 h2;obtain⟨rfl,rfl⟩:=ad (aa hc);obtain⟨x0,y0,w1,r1,w2,e1,e2,rfl⟩:=EL hr;simp only[mo]at hd;split at hd
     .rename_i d1 d2 hd1 hd2;obtain rfl:=aa hd;rw[aO]at e1
      have hx:∃t z,x=.pt t z/\gT t=true/\d1=[.pt (aN t z)]:=by
       cases x with
       |pt t z=>
        simp only[mo]at hd1;split at hd1
        .exact ⟨t,z,rfl,by assumption,(aa hd1).symm⟩
        .simp at hd1
       |ni=>cases a<;>simp[cB]at h1<;>simp[mV,ij,ff]at h1
       |co=>cases a<;>simp[cB]at h1<;>simp[mV,ij,ff]at h1
       |_=>simp[mo]at hd1
      obtain⟨t,z,rfl,hdt,rfl⟩:=hx
      have ha:∃u z',ew t u z=some z'/\a=.pt u/\l1=[.x u z']:=by
       cases a with
       |pt u=>
        simp only[cB]at h1;split at h1
        .rename_i z' hz';obtain⟨rfl,_⟩:=ad (aa h1);exact⟨u,z',hz',rfl,rfl⟩
        .simp at h1
       |x u=>simp only[cB]at h1;split at h1<;>rename_i hh<;>simp[mV,ij,ff]at hh;simp at h1
       |_=>simp[cB]at h1
      obtain⟨u,z',hz',rfl,rfl⟩:=ha;obtain⟨rfl,rfl⟩:=bV hz';obtain⟨_,rfl,rfl⟩:=EK e1;obtain⟨rfl,g2,g3⟩:=ihr _ _ _ _ _ _ _ _ _ h2 hd2 e2;refine⟨rfl,?_,fun n h=>⟨trivial,g3 n h⟩⟩;simp only[mo,hdt,if_true,g2]
     .simp at hd
    .simp at hc
   .simp at hc
  |_=>simp[cB]at hc
 |ni=>intro v m l m1 rest v0 v' r' ds hc hd hr;cases v with|ni=>obtain⟨rfl,_⟩:=ad (aa hc);simp only[fR]at hr;obtain⟨rfl,rfl⟩:=ad (aa hr);exact⟨rfl,hd,fun _ _=>trivial⟩|_=>simp[cB]at hc
 |_=>intro v m l m1 rest v0 v' r' ds hc hd hr;cases v<;>simp[cB]at hc
section
variable{h' h'':H2}{n' n'' aL:Nat}{mf:List Bd}{M:Nat->Nat->Prop}
theorem JD(cx:Cx h' h'' aL n'' mf M){b:Bd}(hb:b∈mf){i:Nat}(hi:b.id=some i){c:C}(hc:(∀c',uQ i (fO h' i)=some c'->c=c')/\Ko i c):∃c',dE h'' (.so (aL+b.j)) [c']/\nM M c' c:=by
 obtain⟨c',h1,h2⟩:=nM.nZ (cx.m b hb i hi) c hc.2;refine⟨c',⟨c',rfl,fun c2 hc2=>?_,h2⟩,h1⟩;obtain⟨t,s,rfl,h4⟩:=cx.so b hb i hi c2 hc2;obtain rfl:=hc.1 _ h4;cases s with
 |nil=>cases c' with|d x=>have:jm (bC t) (aN t) i (.nil:Sl (El t))=.d x:=h1;rw[<-this];rfl|_=>simp[jm,nM]at h1
 |mk l=>
  cases c' with
  |dq a i2 b2 e=>obtain⟨j,_,e2⟩:=h1;have e3:=h2 i2 (by simp[dl]);simp only[jm,C.dq.injEq]at e2|-;exact⟨e2.1.symm,e3,e2.2.2.1.symm,e2.2.2.2.symm⟩
  |d x=>simp[jm,nM]at h1
  |_=>simp[jm,nM]at h1
theorem JB(cx:Cx h' h'' aL n'' mf M){b:Bd}(hb:b∈mf){i:Nat}(hi:b.id=some i){c:C}(hc:(∀c',zJ i (fO h' i)=some c'->c=c')/\Ko i c):∃c',dE h'' (.sr (aL+b.j)) [c']/\nM M c' c:=by
 obtain⟨c',h1,h2⟩:=nM.nZ (cx.m b hb i hi) c hc.2;refine⟨c',⟨c',rfl,fun c2 hc2=>?_,h2⟩,h1⟩;obtain⟨t,s,rfl,h4⟩:=cx.sr b hb i hi c2 hc2;obtain rfl:=hc.1 _ h4;cases s with
 |nil=>cases c' with|d x=>have:jm 1 (aN (.sl t)) i (.nil:Sl (Sl (El t)))=.d x:=h1;rw[<-this];rfl|_=>simp[jm,nM]at h1
 |mk l=>
  cases c' with
  |dq a i2 b2 e=>obtain⟨j,_,e2⟩:=h1;have e3:=h2 i2 (by simp[dl]);simp only[jm,C.dq.injEq]at e2|-;exact⟨e2.1.symm,e3,e2.2.2.1.symm,e2.2.2.2.symm⟩
  |d x=>simp[jm,nM]at h1
  |_=>simp[jm,nM]at h1
theorem o5(cx:Cx h' h'' aL n'' mf M):∀(jv:JV)(ln:Bool)(v:V)(m:List Bd)(l:List V)(m1:List Bd)(rest:List V)(v0 v':V)(r':List V)(cs:List C),cB jv ln v m=some (l,m1)->(∀b∈m1,b∈mf)->dE h' v cs->dC n' h' v->fR aL jv ln (l++rest) v0=some (v',r')->
  r'=rest/\dC n'' h'' v'/\oH v'=oH v/\(∀l,v'≠.tp l)/\∃cs',dE h'' v' cs'/\kM M cs' cs:=by
 intro jv;induction jv with
 |x t=>
  intro ln v m l m1 rest v0 v' r' cs hc hm hv hk hr;cases ln with
  |true=>cases v<;>simp[cB]at hc
  |false=>
   simp only[cB]at hc;split at hc
   .rename_i y hy;obtain⟨rfl,rfl⟩:=ad (aa hc);obtain⟨hd,rfl,rfl⟩:=Lx hr;obtain rfl:=fT v false t y cs hy hv;exact⟨rfl,trivial,(q9 hy).symm,by simp,_,⟨hd,rfl⟩,kM.d _⟩
   .simp at hc
 |pt t=>
  intro ln v m l m1 rest v0 v' r' cs hc hm hv hk hr;cases ln with
  |true=>cases v<;>simp[cB]at hc
  |false=>
   cases v with
   |pt u v=>
    simp only[cB]at hc;split at hc
    .rename_i y hy;obtain⟨rfl,rfl⟩:=bV hy;obtain⟨rfl,rfl⟩:=ad (aa hc);obtain⟨hd,rfl,rfl⟩:=EK hr;obtain⟨_,rfl⟩:=hv;exact⟨rfl,trivial,rfl,by simp,_,⟨hd,rfl⟩,kM.one rfl⟩
    .simp at hc
   |_=>simp[cB]at hc
 |sr j=>
  intro ln v m l m1 rest v0 v' r' cs hc hm hv hk hr;cases ln with
  |true=>cases v<;>simp[cB]at hc
  |false=>
   have hr2:∀l2:List V,fR aL (.sr j) false l2 v0=some (.sr (aL+j),l2):=fun l2=>by simp only[fR]
   cases v with
   |sr id=>
    simp only[cB]at hc;split at hc
    .rename_i m2 hb;obtain⟨rfl,rfl⟩:=ad (aa hc);rw[hr2]at hr;obtain⟨rfl,rfl⟩:=ad (aa hr);have hbm:=hm _ (ju hb).1;obtain⟨c,rfl,h1⟩:=hv;obtain⟨c',h2,h3⟩:=JB cx hbm rfl h1;exact⟨rfl,cx.n _ hbm,rfl,by simp,_,h2,kM.one h3⟩
    .simp at hc
   |_=>simp[cB]at hc
 |so j=>
  intro ln v m l m1 rest v0 v' r' cs hc hm hv hk hr;cases ln with
  |true=>cases v<;>simp[cB]at hc
  |false=>
   have hr2:∀l2:List V,fR aL (.so j) false l2 v0=some (.so (aL+j),l2):=fun l2=>by simp only[fR]
   cases v with
   |so id=>
    simp only[cB]at hc;split at hc
    .rename_i m2 hb;obtain⟨rfl,rfl⟩:=ad (aa hc);rw[hr2]at hr;obtain⟨rfl,rfl⟩:=ad (aa hr);have hbm:=hm _ (ju hb).1;obtain⟨c,rfl,h1⟩:=hv;obtain⟨c',h2,h3⟩:=JD cx hbm rfl h1;exact⟨rfl,cx.n _ hbm,rfl,by simp,_,h2,kM.one h3⟩
    .simp at hc
   |nl k=>
    cases k with
    |succ=>simp[cB]at hc
    |zero=>
     simp only[cB]at hc;split at hc
     .rename_i m2 hb;obtain⟨rfl,rfl⟩:=ad (aa hc);rw[hr2]at hr;obtain⟨rfl,rfl⟩:=ad (aa hr);have hbm:=hm _ (ju hb).1;obtain rfl:=hv;exact⟨rfl,cx.n _ hbm,rfl,by simp,_,⟨yy 0,rfl,fun c' hc'=>(cx.nl _ hbm rfl c' hc').symm,fun i hi=>by simp[yy,dl]at hi⟩,kM.one rfl⟩
     .simp at hc
   |x t v=>
    cases t with
    |sl u=>
     simp only[cB]at hc;obtain⟨hnil,hc⟩:=aI hc;split at hc
     .rename_i m2 hb;obtain⟨rfl,rfl⟩:=ad (aa hc);rw[hr2]at hr;obtain⟨rfl,rfl⟩:=ad (aa hr);have hbm:=hm _ (ju hb).1;obtain⟨_,rfl⟩:=hv;have hv:v=Sl.nil:=by cases v with|nil=>rfl|mk l=>simp[Sl.dZ]at hnil
      subst hv;exact⟨rfl,cx.n _ hbm,rfl,by simp,_,⟨yy 0,rfl,fun c' hc'=>(cx.nl _ hbm rfl c' hc').symm,fun i hi=>by simp[yy,dl]at hi⟩,kM.one rfl⟩
     .simp at hc
    |_=>simp[cB]at hc
   |_=>simp[cB]at hc
 |om j=>
  intro ln v m l m1 rest v0 v' r' cs hc hm hv hk hr;cases ln with
  |true=>cases v<;>simp[cB]at hc
  |false=>
   have hr2:∀l2:List V,fR aL (.om j) false l2 v0=some (.om (aL+j),l2):=fun l2=>by simp only[fR]
   cases v with
   |om id=>
    simp only[cB]at hc;split at hc
    .rename_i m2 hb;obtain⟨rfl,rfl⟩:=ad (aa hc);rw[hr2]at hr;obtain⟨rfl,rfl⟩:=ad (aa hr);have hbm:=hm _ (ju hb).1;obtain rfl:=hv;exact⟨rfl,cx.n _ hbm,rfl,by simp,_,rfl,kM.one ⟨id,cx.m _ hbm id rfl,rfl⟩⟩
    .simp at hc
   |_=>simp[cB]at hc
 |op j t p=>
  intro ln v m l m1 rest v0 v' r' cs hc hm hv hk hr;cases ln with
  |true=>cases v<;>simp[cB]at hc
  |false=>
   have hr2:∀l2:List V,fR aL (.op j t p) false l2 v0=some (.op (aL+j) t (p.map .fd),l2):=fun l2=>by simp only[fR]
   cases v with
   |op id u q=>
    simp only[cB]at hc;obtain⟨hq,hc2⟩:=aI hc;clear hc;have hc:=hc2;clear hc2;simp only[ae,decide_eq_true_eq]at hq;obtain⟨rfl,hq⟩:=hq;obtain rfl:=Aq hq;split at hc
    .rename_i m2 hb;obtain⟨rfl,rfl⟩:=ad (aa hc);rw[hr2]at hr;obtain⟨rfl,rfl⟩:=ad (aa hr);have hbm:=hm _ (ju hb).1;obtain rfl:=hv;exact⟨rfl,⟨cx.n _ hbm,hk.2⟩,rfl,by simp,_,rfl,kM.one ⟨id,cx.m _ hbm id rfl,rfl⟩⟩
    .simp at hc
   |_=>simp[cB]at hc
 |nl k=>
  intro ln v m l m1 rest v0 v' r' cs hc hm hv hk hr;cases ln with
  |true=>cases v<;>simp[cB]at hc
  |false=>
   cases v with
   |nl k'=>
    simp only[cB]at hc;obtain⟨hq,hc2⟩:=aI hc;clear hc;have hc:=hc2;clear hc2;obtain rfl:k=k':=by simpa using hq
    obtain⟨rfl,rfl⟩:=ad (aa hc);have hr2:∀l2:List V,fR aL (.nl k) false l2 v0=some (.nl k,l2):=fun l2=>by simp only[fR]
    rw[hr2]at hr;obtain⟨rfl,rfl⟩:=ad (aa hr);obtain rfl:=hv;exact⟨rfl,trivial,rfl,by simp,_,rfl,kM.one rfl⟩
   |_=>simp[cB]at hc
 |fn z f a ih=>
  intro ln v m l m1 rest v0 v' r' cs hc hm hv hk hr;cases ln with
  |true=>cases v<;>simp[cB]at hc
  |false=>
   cases v with
   |fn z' f' l'=>
    simp only[cB]at hc;obtain⟨hq,hc2⟩:=aI hc;clear hc;have hc:=hc2;clear hc2;simp only[ae,beq_iff_eq]at hq;obtain⟨rfl,rfl⟩:=hq;simp only[fR]at hr;split at hr
    .rename_i w l2 hw;obtain⟨rfl,rfl⟩:=ad (aa hr);cases z with|true=>obtain⟨ds,hd,rfl⟩:=hv;obtain⟨rfl,g1,g2⟩:=DX a l' m l m1 rest .ni w l2 ds hc hd hw;exact⟨rfl,g2 _ _,rfl,by simp,_,⟨ds,g1,rfl⟩,kM.one rfl⟩|false=>obtain⟨xs,hx,rfl⟩:=hv;obtain⟨rfl,g1,_,_,cs',g2,g3⟩:=ih true l' m l m1 rest .ni w l2 xs hc hm hx hk hw;exact⟨rfl,g1,rfl,by simp,_,⟨cs',g2,rfl⟩,kM.one ⟨xs,g3,rfl⟩⟩
    .simp at hr
   |_=>simp[cB]at hc
 |rc a ih=>
  intro ln v m l m1 rest v0 v' r' cs hc hm hv hk hr;cases ln with
  |true=>cases v<;>simp[cB]at hc
  |false=>
   simp only[fR]at hr;split at hr
   .rename_i w l2 hw;obtain⟨rfl,rfl⟩:=ad (aa hr);cases v with
    |rc l'=>obtain⟨rfl,g1,_,_,cs',g2,g3⟩:=ih true l' m l m1 rest .ni w l2 cs hc hm hv hk hw;exact⟨rfl,g1,rfl,by simp,cs',g2,g3⟩
    |x t v=>cases t with|st t=>obtain⟨hd,rfl⟩:=hv;obtain⟨rfl,g1,_,_,cs',g2,g3⟩:=ih true (CH t v) m l m1 rest .ni w l2 _ hc hm (vV t v hd) (zT t v) hw;exact⟨rfl,g1,rfl,by simp,cs',g2,g3⟩|_=>simp[cB]at hc
    |_=>simp[cB]at hc
   .simp at hr
 |ni=>
  intro ln v m l m1 rest v0 v' r' cs hc hm hv hk hr;cases ln with
  |false=>cases v<;>simp[cB]at hc
  |true=>cases v with|ni=>obtain⟨rfl,_⟩:=ad (aa hc);simp only[fR]at hr;obtain⟨rfl,rfl⟩:=ad (aa hr);exact⟨rfl,trivial,rfl,by simp,cs,hv,by obtain rfl:=hv;rfl⟩|_=>simp[cB]at hc
 |co a r iha ihr=>
  intro ln v m l m1 rest v0 v' r' cs hc hm hv hk hr;cases ln with
  |false=>cases v<;>simp[cB]at hc
  |true=>
   cases v with
   |co x y=>
    simp only[cB]at hc;split at hc
    .rename_i l1 m2 h1;split at hc
     .rename_i l2 m3 h2;obtain⟨rfl,rfl⟩:=ad (aa hc);obtain⟨x0,y0,w1,r1,w2,e1,e2,rfl⟩:=EL hr;rw[aO]at e1;obtain⟨cx1,cy,rfl,hx,hy⟩:=hv;obtain⟨rfl,g1,_,_,cs1,g2,g3⟩:=iha _ _ _ _ _ _ _ _ _ _ h1 (fun b hb=>hm b ((o6 _ _ _ _ _ _ h2).1 b hb)) hx hk.1 e1;obtain⟨rfl,k1,_,_,cs2,k2,k3⟩:=ihr _ _ _ _ _ _ _ _ _ _ h2 hm hy hk.2 e2;exact⟨rfl,⟨g1,k1⟩,rfl,by simp,_,⟨cs1,cs2,rfl,g2,k2⟩,g3.Lp k3⟩
     .simp at hc
    .simp at hc
   |_=>simp[cB]at hc
 |_=>intro ln v m l m1 rest v0 v' r' cs hc;cases ln<;>cases v<;>simp[cB]at hc
theorem IB(cx:Cx h' h'' aL n'' mf M){jv:JV}{v:V}{m:List Bd}{l:List V}{m1:List Bd}{rest:List V}{v0 v':V}{r':List V}{x:TV}(hc:cB jv false v m=some (l,m1))(hm:∀b∈m1,b∈mf)(hv:dV h' v x)(hk:dC n' h' v)(hr:fR aL jv false (l++rest) v0=some (v',r')):
  r'=rest/\dC n'' h'' v'/\∃x',dV h'' v' x'/\zE M x' x/\∀l,x'≠.eU l:=by
 have h1:nR h' v x:=by cases v with|tp l=>cases jv<;>simp[cB]at hc;split at hc<;>rename_i hh<;>simp[mV,ij,ff]at hh;simp at hc|no=>cases jv<;>simp[cB]at hc;split at hc<;>rename_i hh<;>simp[mV,ij,ff]at hh;simp at hc|gn=>exact hv.elim|_=>exact hv
 obtain⟨cs,h2,h3,h4⟩:=h1;obtain⟨rfl,g1,g2,g3,cs',g4,g5⟩:=o5 cx jv false v m l m1 rest v0 v' r' cs hc hm h2 hk hr;refine⟨rfl,g1,?_⟩;cases ha:oH v with
 |true=>obtain rfl:=h3 ha;exact⟨.agg cs',bI ⟨cs',g4,fun _=>rfl,fun e=>by rw[g2,ha]at e;cases e⟩,⟨cs,g5,rfl⟩,by simp⟩
 |false=>
  obtain⟨c,rfl,rfl⟩:=h4 ha
  match cs',g5 with
  |[],g5=>exact absurd (show[c]=[]from g5) (by simp)
  |c'::r,g5=>obtain⟨d,r2,e1,e2,e3⟩:=g5;obtain⟨rfl,rfl⟩:=bK e3;cases r with|nil=>exact⟨.c c',bI ⟨[c'],g4,fun e=>(by rw[g2,ha]at e;cases e),fun _=>⟨c',rfl,rfl⟩⟩,⟨c,e1,rfl⟩,by simp⟩|cons=>obtain⟨_,_,_,_,e⟩:=e2;simp at e
end
theorem Et{α:Type}(G:Nat->Option α)(ks:List Nat)(hk:∀t,G t≠none->t∈ks):∃e:List (Nat×α),∀t,bM e t=G t:=by
 have key:∀ks:List Nat,∃e:List (Nat×α),∀t,bM e t=if t∈ks then G t else none:=by
  intro ks;induction ks with
  |nil=>exact⟨[],fun t=>by simp[bM]⟩
  |cons k ks ih=>
   obtain⟨e,he⟩:=ih;cases hg:G k with
   |none=>
    refine⟨e,fun t=>?_⟩;rw[he];by_cases h:t=k
    .subst h;simp[hg]
    .simp [h]
   |some x=>
    refine⟨(k,x)::e,fun t=>?_⟩;simp only[bM];by_cases h:k=t
    .subst h;simp[hg]
    .have h':(k==t)=false:=by simpa using h
     rw[h',cond_false,he];have:t≠k:=fun q=>h q.symm;simp[this]
 obtain⟨e,he⟩:=key ks;refine⟨e,fun t=>?_⟩;rw[he];split
 .rfl
 .rename_i h;cases hg:G t with|none=>rfl|some x=>exact absurd (hk t (by simp[hg])) h
theorem Ih(F:Nat->Option Ob)(ks:List Nat)(hk:∀t,F t≠none->t∈ks):∃h:bl,∀t,au h t=F t:=by obtain⟨e,he⟩:=Et (fun t=>(F t).map some) ks fun t ht=>hk t fun e=>ht (by simp[e]);refine⟨e,fun t=>?_⟩;simp only[au,he];cases F t<;>rfl
theorem sh{α:Type}:∀{l:List (Nat×α)}{t:Nat},bM l t≠none->t∈l.map (·.1):=by intro l t h;cases hx:bM l t with|none=>exact absurd hx h|some x=>exact cU.2 ⟨_,sf hx,rfl⟩
theorem Fp{h:bl}{t:Nat}(hl:au h t≠none):t∈h.map (·.1):=sh fun e=>hl (by simp[au,e])
theorem Ff{α β:Type}{ka va:Bool}{k:α->List Value}{v:β->List D}{m:Mp α β}{cs:List C}(h:some (Ob.box cs)=rY ka va k v m):False:=by cases m<;>simp[rY]at h
section
variable{h' h'':H2}{n' n'' aL:Nat}{mf:List Bd}{M:Nat->Nat->Prop}
theorem NC(hj:∀b∈mf,aL+b.j<n''):Cx h' [] aL n'' mf (fun _ _=>True):=⟨fun _ _ _ _=>trivial,hj,fun b _ i _ c' hc=>by simp[fO,bM,uQ]at hc,fun b _ i _ c' hc=>by simp[fO,bM,zJ]at hc,fun b _ _ c' hc=>by simp[fO,bM,uQ]at hc⟩
theorem vE{j:Nat}{o:JO}{m:List Bd}{l:List V}{m1:List Bd}(h:Gv h' j o m=some (l,m1)):(∀c∈m,c∈m1)/\(vN m->vN m1):=by
 have id1:∀{a:List V},some (a,m)=some (l,m1)->(∀c∈m,c∈m1)/\(vN m->vN m1):=fun e=>by obtain⟨_,rfl⟩:=ad (aa e);exact⟨fun _ h=>h,fun h=>h⟩
 unfold Gv at h;split at h
 .split at h
  .exact id1 (aI h).2
  .split at h
   .split at h
    .exact id1 h
    .simp at h
   .simp at h
  .split at h
   .split at h
    .exact id1 h
    .simp at h
   .simp at h
  .split at h
   .exact o6 _ _ _ _ _ _ (aI h).2
   .simp at h
  .split at h
   .split at h
    .exact id1 h
    .simp at h
   .simp at h
  .simp at h
 .simp at h
def AP(h':H2)(aL:Nat)(m1:List Bd)(b:Bd):O->Prop
 |.ar t s v=>v=0/\((b.id=none/\s=.nil/\xl t=true)\/∃id ver,b.id=some id/\fO h' id=some (.ar t s ver))
 |.bx t w=>∃id v c m0 l0 m2 rest r0,b.id=some id/\fO h' id=some (.bx t v)/\cB c false v m0=some (l0,m2)/\(∀b∈m2,b∈m1)/\fR aL c false (l0++rest) .gn=some (w,r0)/\df w false t=true
 |.mp k v y=>∃id,b.id=some id/\fO h' id=some (.mp k v y)
 |.rw t s ln=>ln=none/\∃id,b.id=some id/\fO h' id=some (.rw t s none)
 |_=>False
theorem DW{H1:bl}(hr:HR n' H1 h')(hj:∀b∈mf,aL+b.j<n''){j:Nat}{o:JO}{m:List Bd}{l:List V}{m1:List Bd}{rest:List V}{o':O}{r':List V}(hc:Gv h' j o m=some (l,m1))(hm:∀b∈m1,b∈mf)(hs:Af aL o (l++rest)=some (o',r')):
  r'=rest/\∃b∈mf,b.j=j/\AP h' aL mf b o':=by
 have hmm:=(vE hc).1;unfold Gv at hc;split at hc
 .rename_i b hb;obtain⟨hb1,hb2⟩:=t_ hb;have hbm:=hm _ (hmm _ hb1);split at hc
  .rename_i t hid;obtain⟨hok,hc⟩:=aI hc;obtain⟨rfl,_⟩:=ad (aa hc);simp only[aJ,aY,Af]at hs;obtain⟨_,hs⟩:=aI hs;obtain⟨rfl,rfl⟩:=ad (aa hs);exact⟨rfl,b,hbm,hb2,rfl,.inl ⟨hid,rfl,hok⟩⟩
  .rename_i t id hid;split at hc
   .rename_i u s ver ho;split at hc
    .rename_i s2 hs2;obtain⟨rfl,_⟩:=ad (aa hc);obtain⟨e,rfl⟩:=bV hs2;cases e;simp only[aJ,aY,Af]at hs;obtain⟨_,hs⟩:=aI hs;obtain⟨rfl,rfl⟩:=ad (aa hs);exact⟨rfl,b,hbm,hb2,rfl,.inr ⟨id,ver,hid,ho⟩⟩
    .simp at hc
   .simp at hc
  .rename_i t id hid;split at hc
   .rename_i u s ho;split at hc
    .rename_i s2 hs2;obtain⟨rfl,_⟩:=ad (aa hc);obtain⟨e,rfl⟩:=bV hs2;cases e;simp only[aJ,aY,Af]at hs;obtain⟨_,hs⟩:=aI hs;obtain⟨rfl,rfl⟩:=ad (aa hs);exact⟨rfl,b,hbm,hb2,rfl,id,hid,ho⟩
    .simp at hc
   .simp at hc
  .rename_i t c id hid;split at hc
   .rename_i u v ho;obtain⟨hu,hc2⟩:=aI hc;clear hc;have hc:=hc2;clear hc2;obtain rfl:u=t:=by simpa using hu
    simp only[Af]at hs;split at hs
    .rename_i w l2 hw;obtain⟨hf,hs⟩:=aI hs;obtain⟨rfl,rfl⟩:=ad (aa hs);obtain⟨_,hob,hko⟩:=hr.ob id _ ho;obtain⟨cs,_,hcs,_⟩:=hob;obtain⟨rfl,_⟩:=o5 (NC (h':=h') hj) c false v m l m1 rest .gn w l2 cs hc hm hcs hko hw;exact⟨rfl,b,hbm,hb2,id,v,c,m,l,m1,_,_,hid,ho,hc,hm,hw,hf⟩
    .simp at hs
   .simp at hc
  .rename_i k v id hid;split at hc
   .rename_i k' v' y ho;split at hc
    .rename_i y2 hy2;obtain⟨rfl,_⟩:=ad (aa hc);obtain⟨e,rfl⟩:=bV hy2;cases e;simp only[aJ,aY,Af]at hs;obtain⟨_,hs⟩:=aI hs;obtain⟨rfl,rfl⟩:=ad (aa hs);exact⟨rfl,b,hbm,hb2,id,hid,ho⟩
    .simp at hc
   .simp at hc
  .simp at hc
 .simp at hc
theorem pR:∀(os:List JO)(j:Nat)(m:List Bd)(l:List V)(m1:List Bd),vD h' os j m=some (l,m1)->(∀c∈m,c∈m1)/\(vN m->vN m1):=by
 intro os;induction os with
 |nil=>intro j m l m1 h;obtain⟨_,rfl⟩:=ad (aa h);exact⟨fun _ h=>h,fun h=>h⟩
 |cons o os ih=>
  intro j m l m1 h;simp only[vD]at h;split at h
  .rename_i l1 m2 h1;split at h
   .rename_i l2 m3 h2;obtain⟨_,rfl⟩:=ad (aa h);obtain⟨a1,a2⟩:=vE h1;obtain⟨c1,c2⟩:=ih _ _ _ _ h2;exact⟨fun c hc=>c1 c (a1 c hc),fun hi=>c2 (a2 hi)⟩
   .simp at h
  .simp at h
theorem Bh{H1:bl}(hr:HR n' H1 h')(hj:∀b∈mf,aL+b.j<n''):∀(os:List JO)(j:Nat)(m:List Bd)(l:List V)(m1:List Bd)(rest:List V)(hl:H2)(r':List V),vD h' os j m=some (l,m1)->(∀b∈m1,b∈mf)->xP aL os j (l++rest)=some (hl,r')->
  (∀i o',bM hl i=some o'->∃o,o'=some o/\∃b∈mf,i=aL+b.j/\AP h' aL mf b o)/\(∀p∈hl,aL<=p.1):=by
 intro os;induction os with
 |nil=>intro j m l m1 rest hl r' hc hm hs;obtain⟨rfl,_⟩:=ad (aa hc);simp only[xP]at hs;obtain⟨rfl,_⟩:=ad (aa hs);exact⟨fun i o' h=>by simp[bM]at h,fun p hp=>by simp at hp⟩
 |cons o os ih=>
  intro j m l m1 rest hl r' hc hm hs;simp only[vD]at hc;split at hc
  .rename_i l1 m2 h1;split at hc
   .rename_i l2 m3 h2;obtain⟨rfl,rfl⟩:=ad (aa hc);simp only[xP,aO]at hs;split at hs
    .rename_i o1 r1 ho1;split at hs
     .rename_i hl1 r2 hhl;obtain⟨rfl,rfl⟩:=ad (aa hs);obtain⟨rfl,b,hb,hbj,hap⟩:=DW hr hj h1 (fun b hb=>hm b ((pR _ _ _ _ _ h2).1 b hb)) ho1;obtain⟨g1,g2⟩:=ih _ _ _ _ _ _ _ h2 hm hhl;refine⟨fun i o' h=>?_,fun p hp=>?_⟩
      .simp only[bM]at h;by_cases e:aL+j=i
       .have e':(aL+j==i)=true:=by simpa using e
        rw[e',cond_true]at h;exact⟨o1,(aa h).symm,b,hb,by rw[hbj,e],hap⟩
       .have e':(aL+j==i)=false:=by simpa using e
        rw[e',cond_false]at h;exact g1 i o' h
      .rcases aD.1 hp with rfl|hp
       .exact Nat.le_add_right _ _
       .exact g2 p hp
     .simp at hs
    .simp at hs
   .simp at hc
  .simp at hc
def MU(M:Nat->Nat->Prop):Ob->Prop
 |.nst _ sl=>∀(k id len:Nat),sl[k]?=some (iq.out id len)->M id id
 |_=>True
theorem sH{t:Ty}{l:List (Sl (El t))}{ln:Option (Nat×Nat)}{k i len:Nat}(h:(du t l ln)[k]?=some (.out i len)):∃m,ln=some (m,i):=by
 have no:¬(l.map (kQ t))[k]?=some (.out i len):=fun h=>by
  rw[List.getElem?_map]at h;cases hx:l[k]?with
  |none=>rw[hx]at h;cases h
  |some s=>rw[hx]at h;cases s<;>cases h
 cases ln with
 |none=>exact absurd h no
 |some q=>
  obtain⟨m,j⟩:=q;simp only[du]at h;rw[List.getElem?_set]at h;split at h
  .split at h
   .cases hg:gt l m<;>rw[hg]at h<;>cases h;exact⟨m,rfl⟩
   .cases h
  .exact absurd h no
def IU(M:Nat->Nat->Prop)(o1 o0:Ob):Prop:=(o1=o0/\(∀cs,o0≠.box cs)/\MU M o0)\/∃a c,o1=.box a/\o0=.box c/\kM M a c
theorem Mf{H1:bl}(hr:HR n' H1 h')(cx:Cx h' h'' aL n'' mf M){b:Bd}{o:O}(ha:AP h' aL mf b o):
  ∃ob,qf h'' o ob/\xm n'' h'' o/\∀o1,ob=some o1->∃id o0,b.id=some id/\au H1 id=some o0/\IU M o1 o0:=by
 cases o with
 |ar t s v=>
  obtain⟨_,⟨_,rfl,hok⟩|⟨id,ver,hid,ho⟩⟩:=ha
  .obtain ⟨h1,h2⟩:=l7 hok;exact⟨none,⟨h1,h2,fun l e=>by cases e⟩,trivial,fun o1 e=>by cases e⟩
  .obtain ⟨_,⟨h1,h2,h3⟩,_⟩:=hr.ob id _ ho;cases s with|nil=>exact⟨none,⟨h1,h2,fun l e=>by cases e⟩,trivial,fun o1 e=>by cases e⟩|mk l=>refine⟨_,⟨h1,h2,fun l' e=>by cases e;rfl⟩,trivial,fun o1 e=>⟨id,_,hid,h3 l rfl,.inl ⟨(aa e).symm,by simp,trivial⟩⟩⟩
 |rw t s ln=>obtain⟨rfl,id,hid,ho⟩:=ha;obtain⟨_,⟨h1,h2,h3⟩,_⟩:=hr.ob id _ ho;cases s with|nil=>exact⟨none,⟨h1,h2,fun l e=>by cases e⟩,trivial,fun o1 e=>by cases e⟩|mk l=>refine⟨_,⟨h1,h2,fun l' e=>by cases e;rfl⟩,trivial,fun o1 e=>⟨id,_,hid,h3 l rfl,.inl ⟨(aa e).symm,by simp,fun k i len hk=>?_⟩⟩⟩;obtain⟨m,e2⟩:=sH hk;cases e2
 |bx t w=>obtain⟨id,v,c,m0,l0,m2,rest,r0,hid,ho,hc,hm,hs,hf⟩:=ha;obtain⟨_,⟨cs,h1,h2,h3⟩,hk⟩:=hr.ob id _ ho;obtain⟨rfl,g1,_,_,cs',g2,g3⟩:=o5 cx c false v m0 l0 m2 rest .gn w r0 cs hc hm h2 hk hs;exact⟨some (.box cs'),⟨cs',rfl,g2,hf⟩,g1,fun o1 e=>⟨id,_,hid,h1,.inr ⟨cs',cs,(aa e).symm,rfl,g3⟩⟩⟩
 |mp k v y=>
  obtain⟨id,hid,ho⟩:=ha;obtain⟨_,⟨h1,h2,h3⟩,_⟩:=hr.ob id _ ho;refine⟨au H1 id,⟨h1,h2,h3⟩,trivial,fun o1 e=>⟨id,o1,hid,e,.inl ⟨rfl,fun cs e2=>?_,?_⟩⟩⟩
  .rw [e2]at e;rw[e]at h3;exact Ff h3
  .rw [e]at h3;simp only[rY,bH]at h3;rw[h3];trivial
 |_=>exact ha.elim
theorem t6{s:S2}:∀(vs:List (Nat×JV))(m:List Bd)(l:List V)(m1:List Bd),vC s vs m=some (l,m1)->(∀c∈m,c∈m1)/\(vN m->vN m1):=by
 intro vs;induction vs with
 |nil=>intro m l m1 h;obtain⟨_,rfl⟩:=ad (aa h);exact⟨fun _ h=>h,fun h=>h⟩
 |cons p vs ih=>
  obtain⟨t,a⟩:=p;intro m l m1 h;simp only[vC]at h;split at h
  .split at h
   .rename_i l1 m2 h1;split at h
    .rename_i l2 m3 h2;obtain⟨_,rfl⟩:=ad (aa h);obtain⟨a1,a2⟩:=o6 _ _ _ _ _ _ h1;obtain⟨c1,c2⟩:=ih _ _ _ h2;exact⟨fun c hc=>c1 c (a1 c hc),fun hi=>c2 (a2 hi)⟩
    .simp at h
   .simp at h
  .simp at h
theorem tZ{s1:St}{s:S2}(hr:R2 s1 s)(cx:Cx s.heap h'' aL n'' mf M):∀(vs:List (Nat×JV))(m:List Bd)(l:List V)(m1:List Bd)(rest:List V)(e:List (Nat×V))(r':List V),vC s vs m=some (l,m1)->(∀b∈m1,b∈mf)->BM aL vs (l++rest)=some (e,r')->
  r'=rest/\∀t v,bM e t=some v->dC n'' h'' v/\∃x x',bM s1.cG t=some x/\dV h'' v x'/\zE M x' x/\∀l,x'≠.eU l:=by
 intro vs;induction vs with
 |nil=>intro m l m1 rest e r' hc hm hs;obtain⟨rfl,_⟩:=ad (aa hc);obtain⟨rfl,rfl⟩:=ad (aa hs);exact⟨rfl,fun t v h=>by simp[bM]at h⟩
 |cons p vs ih=>
  obtain⟨t,a⟩:=p;intro m l m1 rest e r' hc hm hs;simp only[vC]at hc;split at hc
  .rename_i v hv;split at hc
   .rename_i l1 m2 h1;split at hc
    .rename_i l2 m3 h2;obtain⟨rfl,rfl⟩:=ad (aa hc);simp only[BM,aO]at hs;split at hs
     .rename_i w r1 hw;split at hs
      .rename_i e1 r2 he1;obtain⟨rfl,rfl⟩:=ad (aa hs);simp only[D9]at hv;split at hv
       .rename_i v2 hv2;obtain⟨hal,hv⟩:=aI hv;obtain rfl:=aa hv;obtain⟨hk,hx⟩:=hr.cG t _ hv2;obtain⟨x,hx1,hx2⟩:=hx (.inl hal);obtain⟨rfl,g1,x',g2,g3,g4⟩:=IB cx h1 (fun b hb=>hm b ((t6 _ _ _ _ h2).1 b hb)) hx2 hk hw;obtain⟨rfl,k1⟩:=ih _ _ _ _ _ _ h2 hm he1;refine⟨rfl,fun t' v' h=>?_⟩;simp only[bM]at h;by_cases e:t=t'
        .subst e;have e':(t==t)=true:=by simp
         rw[e',cond_true]at h;obtain rfl:=aa h;exact⟨g1,x,x',hx1,g2,g3,g4⟩
        .have e':(t==t')=false:=by simpa using e
         rw[e',cond_false]at h;exact k1 t' v' h
       .simp at hv
      .simp at hs
     .simp at hs
    .simp at hc
   .simp at hc
  .simp at hc
theorem rb{h:H2}:∀(gs:JV)(g0 g:V)(m:List Bd)(l:List V)(m1:List Bd),lM h gs g0 g m=some (l,m1)->(∀c∈m,c∈m1)/\(vN m->vN m1):=by
 intro gs;induction gs with
 |sm=>intro g0 g m l m1 h;simp only[lM]at h;obtain⟨_,h⟩:=aI h;obtain⟨_,rfl⟩:=ad (aa h);exact⟨fun _ h=>h,fun h=>h⟩
 |ni=>intro g0 g m l m1 h;cases g0<;>cases g<;>simp[lM]at h;obtain⟨_,rfl⟩:=h;exact⟨fun _ h=>h,fun h=>h⟩
 |co a r _ ih=>
  intro g0 g m l m1 hc;cases g0 with
  |co x0 y0=>
   cases g with
   |co x y=>
    have zK:(bif ft h x then(match cB a false x m with|some (l,m)=>(match lM h r y0 y m with|some (l',m)=>some (l++l',m)|none=>none)|none=>none)else none)=some (l,m1)->(∀c∈m,c∈m1)/\(vN m->vN m1):=by
     intro hc;obtain⟨_,hc⟩:=aI hc;split at hc
     .rename_i l1 m2 h1;split at hc
      .rename_i l2 m3 h2;obtain⟨_,rfl⟩:=ad (aa hc);obtain⟨a1,a2⟩:=o6 _ _ _ _ _ _ h1;obtain⟨c1,c2⟩:=ih _ _ _ _ _ h2;exact⟨fun c hc=>c1 c (a1 c hc),fun hi=>c2 (a2 hi)⟩
      .simp at hc
     .simp at hc
    cases a with|sm=>exact ih _ _ _ _ _ (aI (show(bif nB x0 x then lM h r y0 y m else none)=_ from hc)).2|gn=>exact ih _ _ _ _ _ (show lM h r y0 y m=_ from hc)|_=>exact zK hc
   |_=>simp[lM]at hc
  |_=>simp[lM]at hc
 |_=>intro g0 g m l m1 h;simp[lM]at h
def GO(M:Nat->Nat->Prop):List C->List C->Prop
 |[],m=>m=[]
 |c::l,m=>∃d r,(c=nD\/nM M c d)/\GO M l r/\m=d::r
theorem GO.len:∀{l m:List C},GO M l m->l.length=m.length
 |[],m,h=>by obtain rfl:=h;rfl
 |c::l,m,h=>by obtain⟨d,r,_,h2,rfl⟩:=h;simp[GO.len h2]
theorem GO.get:∀{l m:List C},GO M l m->∀(i:Nat)(c:C),l[i]?=some c->c=nD\/∃d,m[i]?=some d/\nM M c d
 |[],m,h,i,c,hi=>by simp at hi
 |c::l,m,h,i,c',hi=>by
  obtain⟨d,r,h1,h2,rfl⟩:=h;cases i with
  |zero=>
   obtain rfl:c=c':=by simpa using hi
   exact h1.imp id fun h=>⟨d,rfl,h⟩
  |succ i=>exact(GO.get h2 i c' (by simpa using hi)).imp id fun⟨d,h3,h4⟩=>⟨d,by simpa using h3,h4⟩
theorem xK(hlow:∀i,i<aL->fO h'' i≠none->fO h'' i=fO h' i)(hM:∀i,i<aL->M i i){x0 x:V}{c:C}{hz:H2}(hs:nB x0 x=true)(hok:dC aL hz x0)(hx:ft h' x=true->dE h' x [c]):
  ∃c',(ft h'' x0=true->dE h'' x0 [c'])/\(c'=nD\/nM M c' c):=by
 by_cases ha:ft h'' x0=true
 case neg=>exact⟨nD,fun h=>absurd h ha,.inl rfl⟩
 cases x0<;>cases x<;>first|(simp[nB]at hs;done)|skip
 case nl.nl k k'=>
  obtain rfl:k=k':=by simpa[nB]using hs
  have:dE h' (.nl k) [c]:=hx rfl;obtain rfl:=dL.1 (show[c]=[yy k]from this);exact⟨yy k,fun _=>rfl,.inr rfl⟩
 case so.so i i'=>
  obtain rfl:i=i':=by simpa[nB]using hs
  have hi:i<aL:=hok;have hne:fO h'' i≠none:=fun e=>by simp[ft,e]at ha
  have e:=hlow i hi hne;have ha':ft h' (.so i)=true:=by simp only[ft]at ha|-;rw[<-e];exact ha
  obtain⟨c2,e2,h2,h3⟩:=hx ha';refine⟨c,fun _=>⟨c2,e2,fun c' hc'=>h2 c' (by rw[<-e];exact hc'),h3⟩,.inr (nM.same _ fun j hj=>?_)⟩;obtain rfl:=dL.1 e2;rw[h3 j hj];exact hM i hi
 case sr.sr i i'=>
  obtain rfl:i=i':=by simpa[nB]using hs
  have hi:i<aL:=hok;have hne:fO h'' i≠none:=fun e=>by simp[ft,e]at ha
  have e:=hlow i hi hne;have ha':ft h' (.sr i)=true:=by simp only[ft]at ha|-;rw[<-e];exact ha
  obtain⟨c2,e2,h2,h3⟩:=hx ha';refine⟨c,fun _=>⟨c2,e2,fun c' hc'=>h2 c' (by rw[<-e];exact hc'),h3⟩,.inr (nM.same _ fun j hj=>?_)⟩;obtain rfl:=dL.1 e2;rw[h3 j hj];exact hM i hi
 case op.op i t p i' t' p'=>
  have hp:i=i'/\t=t'/\p=[]/\p'=[]:=by
   cases p with
   |cons=>cases p'<;>simp[nB]at hs
   |nil=>cases p' with|cons=>simp[nB]at hs|nil=>simpa[nB]using hs
  obtain⟨rfl,rfl,rfl,rfl⟩:=hp;have hi:i<aL:=hok.1;have hne:fO h'' i≠none:=fun e=>by simp[ft,e]at ha
  have e:=hlow i hi hne;have ha':ft h' (.op i t [])=true:=by simp only[ft]at ha|-;rw[<-e];exact ha
  have h2:=hx ha';obtain rfl:=dL.1 (show[c]=[C.op i (jM t [])]from h2);exact⟨_,fun _=>rfl,.inr ⟨i,hM i hi,rfl⟩⟩
 case gn.gn=>simp[ft]at ha
theorem Aa(hlow:∀i,i<aL->fO h'' i≠none->fO h'' i=fO h' i)(hM:∀i,i<aL->M i i){hz:H2}:∀(g0 g:V)(cs:List C),sK g0 g=true->dC aL hz g0->Ea h' g cs->∃cs',Ea h'' g0 cs'/\GO M cs' cs:=by
 intro g0;induction g0 with
 |ni=>intro g cs hs _ hg;cases g<;>simp[sK]at hs;obtain rfl:=hg;exact⟨[],rfl,rfl⟩
 |co x0 y0 _ ih=>intro g cs hs hk hg;cases g with|co x y=>simp only[sK,ae]at hs;obtain⟨c,m,rfl,h1,h2⟩:=hg;obtain⟨c',h3,h4⟩:=xK (M:=M) hlow hM hs.1 hk.1 h1;obtain⟨cs',h5,h6⟩:=ih y m hs.2 hk.2 h2;exact⟨c'::cs',⟨c',cs',rfl,h3,h5⟩,c,m,h4,h6,rfl⟩|_=>simp[sK]at hs
 |_=>intro g cs hs;cases g<;>simp[sK]at hs
theorem Ly{b:Nat}{a r:JV}{l:List V}{x0 y0 v':V}{r':List V}(h:fR b (.co a r) true l (.co x0 y0)=some (v',r')):∃v l1 w,fR b a false l x0=some (v,l1)/\fR b r true l1 y0=some (w,r')/\v'=.co v w:=by
 simp only[fR]at h;split at h
 .rename_i v l1 h1;split at h
  .rename_i w l2 h2;obtain⟨rfl,rfl⟩:=ad (aa h);exact⟨v,l1,w,h1,h2,rfl⟩
  .simp at h
 .simp at h
theorem vH(cx:Cx h' h'' aL n'' mf M)(hlow:∀i,i<aL->fO h'' i≠none->fO h'' i=fO h' i)(hM:∀i,i<aL->M i i){hz:H2}(dm:∀v,dC aL hz v->dC n'' h'' v):∀(gs:JV)(g0 g:V)(m:List Bd)(l:List V)(m1:List Bd)(rest:List V)(g':V)(r':List V)(cs:List C),
  lM h' gs g0 g m=some (l,m1)->(∀b∈m1,b∈mf)->dC aL hz g0->Ea h' g cs->dC n' h' g->fR aL gs true (l++rest) g0=some (g',r')->r'=rest/\dC n'' h'' g'/\∃cs',Ea h'' g' cs'/\GO M cs' cs:=by
 intro gs;induction gs with
 |sm=>intro g0 g m l m1 rest g' r' cs hc hm hk0 hg hk hs;simp only[lM]at hc;obtain⟨hsm,hc⟩:=aI hc;obtain⟨rfl,_⟩:=ad (aa hc);simp only[fR,aY]at hs;obtain⟨rfl,rfl⟩:=ad (aa hs);exact⟨rfl,dm _ hk0,Aa hlow hM g0 g cs hsm hk0 hg⟩
 |ni=>intro g0 g m l m1 rest g' r' cs hc hm hk0 hg hk hs;cases g0<;>cases g<;>simp[lM]at hc;obtain⟨rfl,_⟩:=hc;simp only[fR,aY]at hs;obtain⟨rfl,rfl⟩:=ad (aa hs);obtain rfl:=hg;exact⟨rfl,trivial,[],rfl,rfl⟩
 |co a r _ ih=>
  intro g0 g m l m1 rest g' r' cs hc hm hk0 hg hk hs;cases g0 with
  |co x0 y0=>
   cases g with
   |co x y=>
    obtain⟨c,cs,rfl,hx,hg⟩:=hg;obtain⟨v,l1,w,e1,e2,rfl⟩:=Ly hs
    have zK:(bif ft h' x then(match cB a false x m with|some (l,m)=>(match lM h' r y0 y m with|some (l',m)=>some (l++l',m)|none=>none)|none=>none)else none)=some (l,m1)->r'=rest/\dC n'' h'' (.co v w)/\∃cs',Ea h'' (.co v w) cs'/\GO M cs' (c::cs):=by
     intro hc;obtain⟨ha,hc⟩:=aI hc;split at hc
     .rename_i l2 m2 h1;split at hc
      .rename_i l3 m3 h2;obtain⟨rfl,rfl⟩:=ad (aa hc);rw[aO]at e1;obtain⟨rfl,g1,_,_,cs1,g2,g3⟩:=o5 cx a false x m l2 m2 _ x0 v l1 [c] h1 (fun b hb=>hm b ((rb _ _ _ _ _ _ h2).1 b hb)) (hx ha) hk.1 e1;obtain⟨rfl,k1,cs2,k2,k3⟩:=ih _ _ _ _ _ _ _ _ _ h2 hm hk0.2 hg hk.2 e2
       match cs1,g3 with
       |[],g3=>exact absurd (show[c]=[]from g3) (by simp)
       |c1::t,g3=>obtain⟨d,r2,q1,q2,q3⟩:=g3;obtain⟨rfl,rfl⟩:=bK q3;cases t with|nil=>exact⟨rfl,⟨g1,k1⟩,c1::cs2,⟨c1,cs2,rfl,fun _=>g2,k2⟩,c,cs,.inr q1,k3,rfl⟩|cons=>obtain⟨_,_,_,_,e⟩:=q2;simp at e
      .simp at hc
     .simp at hc
    cases a with|sm=>obtain⟨hsm,hc⟩:=aI (show(bif nB x0 x then lM h' r y0 y m else none)=_ from hc);simp only[fR]at e1;obtain⟨rfl,rfl⟩:=ad (aa e1);obtain⟨rfl,k1,cs2,k2,k3⟩:=ih _ _ _ _ _ _ _ _ _ hc hm hk0.2 hg hk.2 e2;obtain⟨c',h3,h4⟩:=xK (M:=M) hlow hM hsm hk0.1 hx;exact⟨rfl,⟨dm _ hk0.1,k1⟩,c'::cs2,⟨c',cs2,rfl,h3,k2⟩,c,cs,h4,k3,rfl⟩|gn=>have hc:lM h' r y0 y m=some (l,m1):=hc;simp only[fR]at e1;obtain⟨rfl,rfl⟩:=ad (aa e1);obtain⟨rfl,k1,cs2,k2,k3⟩:=ih _ _ _ _ _ _ _ _ _ hc hm hk0.2 hg hk.2 e2;exact⟨rfl,⟨trivial,k1⟩,nD::cs2,⟨nD,cs2,rfl,fun h=>by simp[ft]at h,k2⟩,c,cs,.inl rfl,k3,rfl⟩|_=>exact zK hc
   |_=>simp[lM]at hc
  |_=>simp[lM]at hc
 |_=>intro g0 g m l m1 rest g' r' cs hc;simp[lM]at hc
end
def B7(aL:Nat):Ob->Prop
 |.box cs=>∀i∈dl.jI cs,i<aL
 |.nst _ sl=>∀(k i len:Nat),sl[k]?=some (iq.out i len)->i<aL
 |_=>True
theorem HP{h:H2}{o:O}{aL:Nat}{b:Option Ob}{F:Option Ob}(ho:qf h o b)(hk:xm aL h o)(hF:(∀x,b=some x->B7 aL x->F=b)/\(b=none->F=none)):∀g,qf g o b->qf g o F:=by
 intro g hg
 have same:(b=none\/∃x,b=some x/\B7 aL x)->qf g o F:=by
  rintro(e|⟨x,e,hx⟩)
  .rw [hF.2 e,<-e];exact hg
  .rw [hF.1 x e hx];exact hg
 cases o with
 |ar t s v=>cases s with|nil=>exact⟨hg.1,hg.2.1,fun l e=>by cases e⟩|mk l=>exact same (.inr ⟨_,ho.2.2 l rfl,trivial⟩)
 |im t s v=>cases s with|nil=>exact⟨hg.1,hg.2.1,fun l e=>by cases e⟩|mk l=>exact same (.inr ⟨_,ho.2.2 l rfl,trivial⟩)
 |bx t c=>obtain⟨cs,h1,h2,_⟩:=ho;exact same (.inr ⟨_,h1,fun i hi=>(zq h2 hk i hi).1⟩)
 |ib t v=>exact same (.inr ⟨_,ho.2,trivial⟩)
 |rw t s ln=>cases s with|nil=>exact⟨hg.1,hg.2.1,fun l e=>by cases e⟩|mk l=>refine same (.inr ⟨_,ho.2.2 l rfl,fun k i len h=>?_⟩);obtain⟨m,rfl⟩:=sH h;exact hk.2.1
 |mp k v m=>exact same (.inr ⟨_,ho.2.2,trivial⟩)
open Classical in
theorem Hu{s1:St}{aL n'':Nat}{mf:List Bd}{e':gy}{h':bl}{g':List C}(hi:vN mf)(hn:∀b∈mf,aL+b.j<n'')(hbn:aL<=n'')
  (he:∀t x',bM e' t=some x'->∃x,bM s1.cG t=some x/\zE (fun i j=>(i=j/\j<aL)\/∃b∈mf,b.id=some j/\i=aL+b.j) x' x)
  (hh:∀i o',au h' i=some o'->∃j o,((i=j/\j<aL)\/∃b∈mf,b.id=some j/\i=aL+b.j)/\au s1.heap j=some o/\IU (fun i j=>(i=j/\j<aL)\/∃b∈mf,b.id=some j/\i=aL+b.j) o' o/\∀b∈mf,b.id=some j->i=aL+b.j)
  (hg:GO (fun i j=>(i=j/\j<aL)\/∃b∈mf,b.id=some j/\i=aL+b.j) g' s1.gh):Sub s1 ⟨e',h',n'',g'⟩:=by
 intro S K w0 Kn φ gv nt a w hR;let Kn':Nat->Prop:=fun i=>(i<aL/\Kn i)\/∃b∈mf,i=aL+b.j/\∃id,b.id=some id/\Kn id;let φ':Nat->eG:=fun i=>if i<aL then φ i else match GD mf (i-aL)with|some ⟨_,some id⟩=>φ id|_=>default
 have hbd:∀b∈mf,GD mf (aL+b.j-aL)=some b:=by intro b hb;rw[Nat.add_sub_cancel_left];cases h:GD mf b.j with|none=>exact absurd rfl (zu h b hb)|some c=>obtain⟨h1,h2⟩:=t_ h;rw[(hi c h1 b hb).1 h2]
 have hM:∀i j,((i=j/\j<aL)\/∃b∈mf,b.id=some j/\i=aL+b.j)->Kn j->Kn' i/\φ' i=φ j:=by
  rintro i j (⟨rfl,hlt⟩|⟨b,hb,hid,rfl⟩) hk
  .exact ⟨.inl ⟨hlt,hk⟩,if_pos hlt⟩
  .refine ⟨.inr ⟨b,hb,rfl,j,hid,hk⟩,?_⟩;show(if aL+b.j<aL then _ else _)=_;rw[if_neg (by omega),hbd b hb];obtain⟨bj,bid⟩:=b;simp only at hid;subst hid;rfl
 have hun:∀i j i0,((i=i0/\i0<aL)\/∃b∈mf,b.id=some i0/\i=aL+b.j)->(∀b∈mf,b.id=some i0->i=aL+b.j)->((j=i0/\i0<aL)\/∃b∈mf,b.id=some i0/\j=aL+b.j)->(∀b∈mf,b.id=some i0->j=aL+b.j)->i=j:=by
  rintro i j i0 (⟨rfl,_⟩|⟨b,hb,hid,rfl⟩) hu1 h2 hu2
  .rcases h2 with⟨rfl,_⟩|⟨b,hb,hid,rfl⟩
   .rfl
   .exact hu1 b hb hid
  .exact (hu2 b hb hid).symm
 refine⟨S,Kn',φ',eM.refl S w,⟨hR.inv.pU,hR.inv.sk,hR.inv.j8,fun i o ho=>?_,fun i j x y hx hy ox oy hne=>?_,hR.inv.wD,?_⟩,fun t x hx=>?_,hR.size,hR.defers,fun j hj hk=>?_,fun i c v hc hv=>?_⟩
 .obtain ⟨j,o0,hij,ho0,htr,_⟩:=hh i o ho;obtain⟨hk,hro⟩:=hR.inv.fC j o0 ho0;obtain⟨hk',e⟩:=hM i j hij hk;refine⟨hk',?_⟩;rw[e];rcases htr with⟨rfl,hnb⟩|⟨a',c',rfl,rfl,htl⟩
  .cases hro with
   |nst hsz hl hS hK hown hext hfit hr hv=>
    refine .nst hsz hl hS hK hown hext hfit (fun q s hs=>?_) hv;obtain⟨v,h1,h2⟩:=hr q s hs;refine⟨v,h1,?_⟩;cases h2 with
    |nil=>exact .nil
    |bf h3 h4 h5=>exact .bf h3 h4 h5
    |out h3=>exact .out (nM.rc hM _ _ v (nM.same _ fun q' hq'=>by
      obtain rfl:q'=_:=by simpa[dl]using hq'
      exact hnb.2 _ _ _ hs) h3)
   |aH hsz hl hS hK hown hext hfit hr hv=>exact .aH hsz hl hS hK hown hext hfit hr hv
   |lB hsz hl hS hr=>exact .lB hsz hl hS hr
   |kA hb hS hr=>exact .kA hb hS hr
   |box=>exact absurd rfl (hnb.1 _)
   |map hS hK hmp hlen hr=>exact .map hS hK hmp hlen hr
   |cap hsz hl hS hK hown hext hfit hr hv hc=>exact .cap hsz hl hS hK hown hext hfit hr hv hc
  .cases hro with|box hb hS hK hown hlen hr=>exact .box hb hS hK hown ((kM.len htl).trans hlen) (kM.rc hM a' c' _ htl hr)
 .obtain ⟨i0,x0,hi0,hx0,htx,huq⟩:=hh i x hx;obtain⟨j0,y0,hj0,hy0,hty,huq2⟩:=hh j y hy
  have hox:bP x0=true:=by
   rcases htx with⟨rfl,_⟩|⟨a',c',rfl,rfl,_⟩
   .exact ox
   .rfl
  have hoy:bP y0=true:=by
   rcases hty with⟨rfl,_⟩|⟨a',c',rfl,rfl,_⟩
   .exact oy
   .rfl
  rw[(hM i i0 hi0 (hR.inv.fC i0 x0 hx0).1).2,(hM j j0 hj0 (hR.inv.fC j0 y0 hy0).1).2];refine hR.inv.kJ i0 j0 x0 y0 hx0 hy0 hox hoy fun e=>hne ?_;subst e;exact hun i j i0 hi0 huq hj0 huq2
 .intro i sz sl k x hi hp;obtain⟨i0,x0,hi0,hx0,htx,huq⟩:=hh i _ hi;rcases htx with⟨rfl,_⟩|⟨a',c',e,_⟩
  case inr=>cases e
  rw[(hM i i0 hi0 (hR.inv.fC i0 _ hx0).1).2]at hp;obtain⟨p1,p2⟩:=hR.inv.rp i0 sz sl k x hx0 hp;refine⟨fun j b hj hb=>?_,fun j sz' sl' k' hj hp'=>?_⟩
  .obtain ⟨j0,y0,hj0,hy0,hty,_⟩:=hh j b hj
   have hoy:bP y0=true:=by
    rcases hty with⟨rfl,_⟩|⟨a',c',rfl,rfl,_⟩
    .exact hb
    .rfl
   rw[(hM j j0 hj0 (hR.inv.fC j0 y0 hy0).1).2];exact p1 j0 y0 hy0 hoy
  .obtain ⟨j0,y0,hj0,hy0,hty,huq2⟩:=hh j _ hj;rcases hty with⟨rfl,_⟩|⟨a',c',e,_⟩
   case inr=>cases e
   rw[(hM j j0 hj0 (hR.inv.fC j0 _ hy0).1).2]at hp';obtain⟨e1,e2⟩:=p2 j0 sz' sl' k' hy0 hp';subst e1;exact⟨hun j i j0 hj0 huq2 hi0 huq,e2⟩
 .obtain ⟨x0,h1,h2⟩:=he t x hx;exact zE.rc hM x x0 _ h2 (hR.cG t x0 h1)
 .have hj:n''<=j:=hj;rcases hk with⟨hlt,_⟩|⟨b,hb,rfl,_⟩
  .omega
  .have:=hn b hb;omega
 .rcases hg.get i c hc with e|⟨d,h1,h2⟩
  .exact .inl e
  .rcases hR.gh i d v h1 hv with rfl|hr
   .left;cases c with
    |kR f l=>obtain⟨m,h3,h4⟩:=h2;simp only[nD,C.kR.injEq]at h4;obtain⟨rfl,rfl⟩:=h4;cases l with|nil=>rfl|cons x l=>obtain⟨_,_,_,_,e⟩:=h3;simp at e
    |d x=>exact absurd (show nD=C.d x from h2) (by simp[nD])
    |_=>obtain⟨_,_,e⟩:=h2;simp[nD]at e
   .exact .inr (nM.rc hM c d v h2 hr)
theorem y5{α:Type}{l:List (Nat×α)}{t:Nat}(h:∀p∈l,p.1≠t):bM l t=none:=by cases hx:bM l t with|none=>rfl|some x=>exact absurd rfl (h _ (sf hx))
theorem Kt{ds:List Nat}{t:Nat}:bM (ds.map fun t=>(t,V.gn)) t=if t∈ds then some .gn else none:=by
 induction ds with
 |nil=>rfl
 |cons d ds ih=>
  simp only[aq,bM,ih];by_cases e:d=t
  .subst e;simp
  .have e':(d==t)=false:=by simpa using e
   have:t≠d:=fun q=>e q.symm;simp[e',this]
theorem LV{kl:List Nat}{h:H2}{i:Nat}:fO (kl.map (fun i=>(i,none))++h) i=if i∈kl then none else fO h i:=by
 induction kl with
 |nil=>rfl
 |cons k kl ih=>
  rw[aq,aJ,bZ,ih];by_cases e:k=i
  .subst e;simp
  .have:i≠k:=fun q=>e q.symm;simp[e,this]
open Classical in
theorem KT{j:J}{ds w:List Nat}{s1 s1':St}{s0 s' s'':S2}{l:List V}(hr0:R2 s1 s0)(hr:R2 s1' s')(hf:rD ds w s1 s1' s0 s')(hw:∀i∈w,s0.next<=i\/i∈j.kl)(hc:vF j s0 s'=some l)(hs:pH j ds s0 l=some s''):
  ∃s1'' w',Sub s1' s1''/\R2 s1'' s''/\s''.wo=w'++s0.wo/\rD ds w' s1 s1'' s0 s''/\∀i∈w',s0.next<=i\/i∈j.kl:=by
 unfold vF at hc;split at hc
 case h_2=>simp at hc
 rename_i l1 m1 hvs;split at hc
 case h_2=>simp at hc
 rename_i l2 m2 hgs;split at hc
 case h_2=>simp at hc
 rename_i l3 mf hos;obtain⟨hchk,hc⟩:=aI hc;obtain rfl:=aa hc;simp only[ae,aQ]at hchk;obtain⟨_,hbm⟩:=hchk;unfold pH at hs;split at hs
 case h_2=>simp at hs
 rename_i e r1 hev;split at hs
 case h_2=>simp at hs
 rename_i g' r2 hgv;split at hs
 case h_2=>simp at hs
 rename_i hl r3 hov;obtain rfl:=aa hs
 -- the bindings
 have hm12:=(rb _ _ _ _ _ _ hgs).1;have hm2f:=(pR _ _ _ _ _ hos).1;have hinj:vN mf:=(pR _ _ _ _ _ hos).2 ((rb _ _ _ _ _ _ hgs).2 ((t6 _ _ _ _ hvs).2 (fun b hb=>by simp at hb)))
 have hbj:∀b∈mf,s0.next+b.j<s0.next+j.os.length:=fun b hb=>by
  have:=(hbm b hb).1;have:b.j<j.os.length:=by simpa[Nat.blt_eq]using this
  omega
 have hbid:∀b∈mf,∀i,b.id=some i->s0.next<=i\/i∈j.kl:=fun b hb i hid=>by have:=(hbm b hb).2;rw[hid]at this;simpa[Nat.ble_eq]using this
 -- what is left of the rows
 have hx0:=NC (h':=s'.heap) hbj;obtain⟨rfl,_⟩:=tZ hr hx0 j.vs [] l1 m1 (l2++l3) e r1 hvs (fun b hb=>hm2f b (hm12 b hb)) hev;have hle:s0.next<=s0.next+j.os.length:=Nat.le_add_right _ _;have hst0:gm s0.next s0.heap []:=⟨fun i o _ ho=>by simp[fO,bM]at ho⟩
 have hrg:r2=l3:=(vH (n':=s'.next) (hz:=s0.heap) hx0 (fun i _ h=>absurd rfl h) (fun _ _=>trivial) (fun v hv=>eL hle hst0 hv) j.gs s0.gh s'.gh m1 l2 m2 l3 g' r2 s1'.gh hgs hm2f hr0.gh.2 hr.gh.1 hr.gh.2 hgv).1;subst hrg;obtain⟨hap,hge⟩:=Bh hr.hr hbj j.os 0 m2 r2 mf [] hl r3 hos (fun b hb=>hb) (by rw[List.append_nil];exact hov);clear hx0
 -- the heap
 generalize hh2:hl++j.kl.map (fun i=>(i,none))++s0.heap=h''
 have hfo:∀i,fO h'' i=match bM hl i with|some o=>o|none=>if i∈j.kl then none else fO s0.heap i:=fun i=>by
  rw[<-hh2,aO];have:fO (hl++(j.kl.map (fun i=>(i,none))++s0.heap)) i=match bM hl i with|some o=>o|none=>fO (j.kl.map (fun i=>(i,none))++s0.heap) i:=by simp only[fO,eP hl];cases bM hl i<;>rfl
  rw[this,LV]
 have hhl:∀i,i<s0.next->bM hl i=none:=fun i hi=>y5 fun p hp e=>by have:=hge p hp;omega
 have hfl:∀i,i<s0.next->fO h'' i=if i∈j.kl then none else fO s0.heap i:=fun i hi=>by rw[hfo,hhl i hi]
 have hwk:∀i,i<s0.next->i∉j.kl->i∉w:=fun i hi hk hm=>by
  rcases hw i hm with h|h
  .omega
  .exact hk h
 have dm:gm s0.next s0.heap h'':=⟨fun i o hi ho=>by
  rw[hfl i hi]at ho;split at ho
  .simp at ho
  .exact .inl ⟨o,ho,nI.refl _⟩⟩
 have hnb:∀i,i<s0.next->fO s0.heap i=none->fO h'' i=none:=fun i hi h=>by
  rw[hfl i hi];split
  .rfl
  .exact h
 have hlow:∀i,i<s0.next->fO h'' i≠none->fO h'' i=fO s'.heap i:=fun i hi h=>by
  rw[hfl i hi]at h|-;split at h
  .exact absurd rfl h
  .rename_i hk;rw[if_neg hk,(hf.ob i hi (hwk i hi hk)).1]
 generalize hMd:(fun(i j:Nat)=>(i=j/\j<s0.next)\/∃b∈mf,b.id=some j/\i=s0.next+b.j)=M;have hM1:∀i,i<s0.next->M i i:=fun i hi=>by rw[<-hMd];exact .inl ⟨rfl,hi⟩
 have hnew:∀b∈mf,∀o,fO h'' (s0.next+b.j)=some o->AP s'.heap s0.next mf b o:=fun b hb o ho=>by
  rw[hfo]at ho;split at ho
  .rename_i o' hx;obtain⟨o2,rfl,b2,hb2,e2,ha⟩:=hap _ _ hx;obtain rfl:=aa ho;rw[(hinj b hb b2 hb2).1 (by omega)];exact ha
  .split at ho
   .simp at ho
   .have:=(hr0.hr.ob _ _ ho).1;omega
 have cx:Cx s'.heap h'' s0.next (s0.next+j.os.length) mf M:=by
  refine⟨fun b hb i hid=>by rw[<-hMd];exact .inr ⟨b,hb,hid,rfl⟩,hbj,fun b hb i hid c' hc'=>?_,fun b hb i hid c' hc'=>?_,fun b hb hid c' hc'=>?_⟩
  .cases ho:fO h'' (s0.next+b.j)with
   |none=>rw[ho]at hc';simp[uQ]at hc'
   |some o=>
    rw[ho]at hc';have ha:=hnew b hb o ho;cases o with
    |ar t s v=>
     obtain⟨_,⟨h1,_⟩|⟨id,ver,h1,h2⟩⟩:=ha
     .rw [hid]at h1;cases h1
     .rw [hid]at h1;obtain rfl:=aa h1;exact⟨t,s,(aa hc').symm,jl (.inl h2)⟩
    |im=>exact ha.elim
    |_=>simp[uQ]at hc'
  .cases ho:fO h'' (s0.next+b.j)with
   |none=>rw[ho]at hc';simp[zJ]at hc'
   |some o=>rw[ho]at hc';have ha:=hnew b hb o ho;cases o with|rw t s ln=>obtain⟨_,id,h1,h2⟩:=ha;rw[hid]at h1;obtain rfl:=aa h1;exact⟨t,s,(aa hc').symm,nU h2⟩|_=>simp[zJ]at hc'
  .cases ho:fO h'' (s0.next+b.j)with
   |none=>rw[ho]at hc';simp[uQ]at hc'
   |some o=>
    rw[ho]at hc';have ha:=hnew b hb o ho;cases o with
    |ar t s v=>
     obtain⟨_,⟨_,rfl,_⟩|⟨id,ver,h1,_⟩⟩:=ha
     .rw [<-aa hc'];rfl
     .rw [hid]at h1;cases h1
    |im=>exact ha.elim
    |_=>simp[uQ]at hc'
 have hkv:∀v,dC s0.next s0.heap v->dC (s0.next+j.os.length) h'' v:=fun v hv=>eL hle dm hv;obtain⟨_,hE0⟩:=tZ hr cx j.vs [] l1 m1 (l2++r2) e (l2++r2) hvs (fun b hb=>hm2f b (hm12 b hb)) hev;obtain⟨_,hgk,cs',hgR,hgT⟩:=vH (n':=s'.next) cx hlow hM1 hkv j.gs s0.gh s'.gh m1 l2 m2 r2 g' r2 s1'.gh hgs hm2f hr0.gh.2 hr.gh.1 hr.gh.2 hgv
 -- the abstract machine's objects
 have hob0:∀i,∃ob,∀o,bM hl i=some (some o)->qf h'' o ob/\xm (s0.next+j.os.length) h'' o/\∀o1,ob=some o1->∃b∈mf,i=s0.next+b.j/\∃id o0,b.id=some id/\au s1'.heap id=some o0/\IU M o1 o0:=by intro i;cases hx:bM hl i with|none=>exact⟨none,fun o h=>by cases h⟩|some o'=>obtain⟨o,rfl,b,hb,e2,ha⟩:=hap i o' hx;obtain⟨ob,g1,g2,g3⟩:=Mf hr.hr cx ha;refine⟨ob,fun o2 h=>?_⟩;obtain rfl:=aa (aa h);exact⟨g1,g2,fun o1 h1=>⟨b,hb,e2,g3 o1 h1⟩⟩
 obtain⟨fob,hfob⟩:∃f:Nat->Option Ob,∀i o,bM hl i=some (some o)->qf h'' o (f i)/\xm (s0.next+j.os.length) h'' o/\∀o1,f i=some o1->∃b∈mf,i=s0.next+b.j/\∃id o0,b.id=some id/\au s1'.heap id=some o0/\IU M o1 o0:=⟨fun i=>fP (hob0 i),fun i=>dA (hob0 i)⟩
 have hF:∃H:bl,∀i,au H i=match bM hl i with
   |some _=>fob i
   |none=>if i<s0.next/\i∉j.kl then(match au s1'.heap i with|some o=>if B7 s0.next o then some o else none|none=>none)else none:=by
  refine Ih _ (hl.map (·.1)++s1'.heap.map (·.1)) fun i hi=>?_;cases hx:bM hl i with|some o=>exact aC _ (sh (by rw[hx];simp))|none=>rw[hx]at hi;refine aA _ (Fp fun e=>hi ?_);simp only[e,ite_self]
 obtain⟨H,hH⟩:=hF;have hHn:∀i o,bM hl i=some (some o)->au H i=fob i:=fun i o h=>by rw[hH i,h]
 have hHl:∀i,i<s0.next->i∉j.kl->(∀x,au s1'.heap i=some x->B7 s0.next x->au H i=au s1'.heap i)/\(au s1'.heap i=none->au H i=none):=fun i hi hk=>by rw[hH i,hhl i hi];simp only[hi,hk,not_false_eq_true,and_self,if_true];refine⟨fun x hx hlo=>by rw[hx];simp only[hlo,if_true],fun hx=>by rw[hx]⟩
 have hHR:∀i,i<s0.next->i∉j.kl->∀o,fO s0.heap i=some o->∀g,qf g o (au s1.heap i)->qf g o (au H i):=fun i hi hk o ho g hg=>by have h1:=(hf.ob i hi (hwk i hi hk)).2 o ho;obtain⟨_,h2,h3⟩:=hr0.hr.ob i o ho;exact HP (h1 _ h2) h3 (hHl i hi hk) g (h1 g hg)
 -- its temporaries
 have hE1:∀t,∃x',∀v,bM e t=some v->dC (s0.next+j.os.length) h'' v/\dV h'' v x'/\∃x,bM s1'.cG t=some x/\zE M x' x/\∀l,x'≠.eU l:=by intro t;cases hx:bM e t with|none=>exact⟨.eU [],fun v h=>by cases h⟩|some v=>obtain⟨h1,x,x',h2,h3,h4,h5⟩:=hE0 t v hx;refine⟨x',fun v2 h=>?_⟩;obtain rfl:=aa h;exact⟨h1,h3,x,h2,h4,h5⟩
 obtain⟨fe,hfe⟩:∃f:Nat->TV,∀t v,bM e t=some v->dC (s0.next+j.os.length) h'' v/\dV h'' v (f t)/\∃x,bM s1'.cG t=some x/\zE M (f t) x/\∀l,f t≠.eU l:=⟨fun t=>fP (hE1 t),fun t=>dA (hE1 t)⟩
 have hG:∃E:gy,∀t,bM E t=match bM e t with
   |some _=>some (fe t)
   |none=>(match bM s1'.cG t with|some x=>if∀i∈ja x,i<s0.next then some x else none|none=>none):=by
  refine Et _ (e.map (·.1)++s1'.cG.map (·.1)) fun t ht=>?_;cases hx:bM e t with|some o=>exact aC _ (sh (by rw[hx];simp))|none=>rw[hx]at ht;refine aA _ (sh fun e=>ht ?_);simp only[e]
 obtain⟨E,hE⟩:=hG;have hEn:∀t v,bM e t=some v->bM E t=some (fe t):=fun t v h=>by rw[hE t,h]
 have hEl:∀t x,bM e t=none->bM s1'.cG t=some x->(∀i∈ja x,i<s0.next)->bM E t=some x:=fun t x h1 h2 h3=>by rw[hE t,h1,h2];exact if_pos h3
 have hsub:Sub s1' ⟨E,H,s0.next+j.os.length,cs'⟩:=by
  refine Hu (aL:=s0.next) hinj hbj hle (fun t x' hx=>?_) (fun i o' ho=>?_) (by rw[hMd];exact hgT)
  .rw [hMd];rw[hE t]at hx;split at hx
   .rename_i v hv;obtain⟨_,_,x,h3,h4,_⟩:=hfe t v hv;rw[<-aa hx];exact⟨x,h3,h4⟩
   .split at hx
    .rename_i x hx1;split at hx
     .rename_i hlo;obtain rfl:=aa hx;exact⟨x,hx1,zE.same x fun i hi=>hM1 i (hlo i hi)⟩
     .simp at hx
    .simp at hx
  .rw [hMd];cases hx:bM hl i with
   |some o2=>obtain⟨o,rfl,_⟩:=hap i o2 hx;rw[hHn i o hx]at ho;obtain⟨_,_,h3⟩:=hfob i o hx;obtain⟨b,hb,e2,id,o0,hid,h4,h5⟩:=h3 o' ho;refine⟨id,o0,.inr ⟨b,hb,hid,e2⟩,h4,h5,fun b2 hb2 hid2=>?_⟩;rw[(hinj b2 hb2 b hb).2 id hid2 hid];exact e2
   |none=>
    rw[hH i,hx]at ho;simp only at ho;split at ho
    .rename_i hik;split at ho
     .rename_i o hlo;split at ho
      .rename_i hlow1;obtain rfl:=aa ho;refine⟨i,o,.inl ⟨rfl,hik.1⟩,hlo,?_,fun b hb hid=>?_⟩
       .cases o with|box cs=>exact .inr ⟨cs,cs,rfl,rfl,kM.same cs fun i hi=>hM1 i (hlow1 i hi)⟩|nst sz sl=>exact .inl ⟨rfl,by simp,fun k q len hk=>hM1 q (hlow1 k q len hk)⟩|_=>exact .inl ⟨rfl,by simp,trivial⟩
       .rcases hbid b hb i hid with h|h
        .have:=hik.1;omega
        .exact absurd h hik.2
      .simp at ho
     .simp at ho
    .simp at ho
 refine⟨⟨E,H,s0.next+j.os.length,cs'⟩,hl.map (·.1)++j.kl,hsub,⟨fun t v ht=>?_,⟨fun i o ho=>?_⟩,ak _,hgR,hgk⟩,rfl,⟨hle,dm,?_,fun i hi hi2=>?_,fun t x ht hx hk=>?_⟩,fun i hi=>?_⟩
 .have ht:bM (e++ds.map (fun t=>(t,V.gn))++s0.cG) t=some v:=ht;rw[aO,eP]at ht;cases hx:bM e t with
  |some v2=>rw[hx]at ht;obtain rfl:=aa ht;obtain⟨h1,h2,_⟩:=hfe t v2 hx;exact⟨h1,fun _=>⟨_,hEn t v2 hx,h2⟩⟩
  |none=>
   rw[hx]at ht;simp only at ht;rw[eP,Kt]at ht;by_cases hds:t∈ds
   .rw [if_pos hds]at ht;obtain rfl:=aa ht;exact⟨trivial,fun h=>by rcases h with h|h<;>simp[ft]at h⟩
   .rw [if_neg hds]at ht;obtain⟨h1,h2⟩:=hr0.cG t v ht;refine⟨hkv v h1,fun ha=>?_⟩;obtain⟨x,h3,h4⟩:=h2 (ha.imp (qq dm hnb h1) fun q=>q);have h5:=pX dm h1 h4
    have hids:∀i∈ja x,i<s0.next/\i∉j.kl/\fO s0.heap i≠none:=fun i hi=>by
     rcases ha with ha|rfl
     .have i1:=(BD h4 h1 i hi).1;have i2:=(BD h5 (hkv v h1) i hi).2 ha;rw[hfl i i1]at i2;split at i2
      .exact absurd rfl i2
      .exact ⟨i1,by assumption,i2⟩
     .obtain rfl:x=.eU []:=h4;simp[ja,ja.uy]at hi
    have h6:=hf.cG t x hds h3 fun i hi=>⟨(hids i hi).1,hwk i (hids i hi).1 (hids i hi).2.1,(hids i hi).2.2⟩;exact⟨x,hEl t x hx h6 fun i hi=>(hids i hi).1,h5⟩
 .have ho:fO h'' i=some o:=ho;show i<s0.next+j.os.length/\qf h'' o (au H i)/\xm (s0.next+j.os.length) h'' o;have ho2:=ho;rw[hfo i]at ho;split at ho
  .rename_i o2 hx;subst ho;obtain⟨h1,h2,_⟩:=hfob i o hx;obtain⟨_,_,b,hb,e2,_⟩:=hap i _ hx;rw[hHn i o hx];exact⟨by have:=hbj b hb;omega,h1,h2⟩
  .split at ho
   .simp at ho
   .rename_i hk;obtain⟨h1,h2,h3⟩:=hr0.hr.ob i o ho;exact⟨by omega,hHR i h1 hk o ho _ (lr dm h3 h2),ku hle dm h3⟩
 .show cs'.length=_;rw[hgT.len];exact hf.gl
 .simp only[aj,not_or]at hi2;refine⟨?_,hHR i hi hi2.2⟩;show fO h'' i=_;rw[hfl i hi,if_neg hi2.2]
 .have h6:=hf.cG t x ht hx fun i hi=>by obtain⟨i1,i2,i3⟩:=hk i hi;simp only[aj,not_or]at i2;exact⟨i1,hwk i i1 i2.2,i3⟩
  cases he:bM e t with
  |none=>exact hEl t x he h6 fun i hi=>(hk i hi).1
  |some v=>
   show bM E t=some x;rw[hEn t v he];obtain⟨_,_,x0,h3,h4,h5⟩:=hfe t v he;rw[h6]at h3;obtain rfl:=aa h3;refine congrArg some (zE.NR (fun i=>s0.next<=i\/i∈j.kl) (fun a b hab=>?_) h4 h5 fun i hi hB=>?_)
   .rw [<-hMd]at hab;rcases hab with⟨rfl,_⟩|⟨bb,hb,hid,_⟩
    .exact .inl rfl
    .exact .inr (hbid bb hb b hid)
   .obtain ⟨i1,i2,_⟩:=hk i hi;simp only[aj,not_or]at i2;rcases hB with h|h
    .omega
    .exact i2.2 h
 .rcases aj.1 hi with hi|hi
  .obtain ⟨p,hp,rfl⟩:=cU.1 hi;exact .inl (hge p hp)
  .exact .inr hi
end Go.Ev
