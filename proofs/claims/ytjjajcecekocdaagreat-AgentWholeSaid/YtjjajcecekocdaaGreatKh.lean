/- Regions: what an operation leaves. Conditions: as stated. -/
import Derived.Test.YtjjajcecekocdaaGreatFz
open Bool renaming and_eq_true->ak,not_eq_true'->gg,true_and->j5
open Classical renaming choose->jp,choose_spec->fC
open List renaming all_eq_true->a_,append_assoc->aR,cons_append->aU,contains_eq_mem->lP,filter_cons->eQ,getElem?_drop->bS,getElem?_take->fc,length_map->aM,map_cons->aq,mem_append->ao,mem_append_left->aI,mem_append_right->aG,mem_cons->aN,mem_cons_of_mem->aF,mem_filterMap->ik,mem_map->bB,nil_append->bE,singleton_inj->fN
open List.cons renaming inj->cu
open Nat renaming ble->g_,le_refl->am,le_succ->bI,le_trans->e_,lt_of_lt_of_le->dD,lt_succ_self->aY,zero_add->bG
open Option.some renaming inj->aa,injEq->bM
open Prod.mk renaming inj->af
namespace Go.Ev
theorem R2.mono{s1:St}{s:S2}(hr:R2 s1 s){n:Nat}(hn:s.next<=n):R2 s1 {s with next:=n}:=⟨fun t v ht=>(hr.dE t v ht).imp (hO hn (jO.refl _ _)) id,hr.hr.mono hn,e_ hr.next hn,hr.gh.1,hO hn (jO.refl _ _) hr.gh.2⟩
theorem R2.nx{s1:St}{s:S2}(hr:R2 s1 s){n:Nat}(hn:n<=s.next):R2 {s1 with next:=n} s:=⟨hr.dE,hr.hr,hn,hr.gh⟩
theorem R2.wo{s1:St}{s:S2}(hr:R2 s1 s)(w:List Nat):R2 s1 {s with wo:=w}:=⟨hr.dE,hr.hr,hr.next,hr.gh⟩
theorem sV.mono{s1:St}{s:S2}{q:Rg}(hr:sV s1 s q){n:Nat}(hn:s.next<=n):sV s1 {s with next:=n} q:=⟨hr.r.mono hn,hr.kn,fun t g b v h=>let⟨c,h1,h2⟩:=hr.cd t g b v h;⟨c,h1,fun e=>let⟨x,h3,h4,h5⟩:=h2 e;⟨x,h3,h4,hO hn (jO.refl _ _) h5⟩⟩⟩
theorem sV.nx{s1:St}{s:S2}{q:Rg}(hr:sV s1 s q){n:Nat}(hn:n<=s.next):sV {s1 with next:=n} s q:=⟨hr.r.nx hn,hr.kn,hr.cd⟩
theorem sV.none{s1:St}{s:S2}(hr:R2 s1 s):sV s1 s ⟨[],[]⟩:=⟨hr,fun g b h=>by simp[RQ,cm]at h,fun t g b v h=>by simp[cm]at h⟩
theorem sV.YC{s1:St}{s:S2}{q:Rg}(hr:sV s1 s q){g:Nat}{c:Bool}(hg:cm s1.dE g=some (tB c)):sV s1 s ⟨(g,c)::q.kn,q.cd⟩:=by
 refine⟨hr.r,fun g' b h=>?_,hr.cd⟩;simp only[RQ,cm]at h;by_cases e:g=g'
 .subst e;have:c=b:=by simpa using h
  rw[<-this];exact hg
 .have e':(g==g')=false:=by simpa using e
  rw[e',cond_false]at h;exact hr.kn g' b h
theorem Gq{α:Type}{d:Nat}:∀{l:List (Nat×α)}{t:Nat}{x:α},cm (l.filter fun e=>!(e.1==d)) t=some x->t≠d/\cm l t=some x:=by
 intro l;induction l with
 |nil=>intro t x h;simp[cm]at h
 |cons p l ih=>
  obtain⟨a,y⟩:=p;intro t x h;by_cases e:a=d
  .rw [eQ,if_neg (by simp[e])]at h;obtain⟨h1,h2⟩:=ih h;refine⟨h1,?_⟩;simp only[cm];have e':(a==t)=false:=by simpa using fun q=>h1 (q.symm.trans e)
   rw[e',cond_false];exact h2
  .rw [eQ,if_pos (by simp[e])]at h;simp only[cm]at h|-;by_cases e2:a=t
   .subst e2;have e':(a==a)=true:=by simp
    rw[e',cond_true]at h|-;exact⟨e,h⟩
   .have e':(a==t)=false:=by simpa using e2
    rw[e',cond_false]at h|-;exact ih h
theorem yp{α:Type}:∀{l:List (Nat×α)}{t:Nat}{x:α},cm l t=some x->(t,x)∈l:=by
 intro l;induction l with
 |nil=>intro t x h;simp[cm]at h
 |cons p l ih=>
  obtain⟨a,y⟩:=p;intro t x h;simp only[cm]at h;by_cases e2:a=t
  .subst e2;have:y=x:=by simpa using h
   subst this;exact List.mem_cons_self
  .have e':(a==t)=false:=by simpa using e2
   rw[e',cond_false]at h;exact aF _ (ih h)
theorem EM{q q':Rg}{d:Option Nat}(h:PA q d=some q'):q'.kn=q.kn/\(∀t y,cm q'.cd t=some y->d≠some t/\cm q.cd t=some y/\d≠some y.1)/\∀g b,RQ q.kn g=some b->d≠some g:=by
 cases d with
 |none=>obtain rfl:=aa h;exact⟨rfl,fun t y hy=>⟨by simp,hy,by simp⟩,fun _ _ _=>by simp⟩
 |some d=>
  simp only[PA]at h;cases hc:(q.cd.any (fun e=>e.2.1==d)||q.kn.any (fun e=>e.1==d))with
  |true=>rw[hc]at h;simp at h
  |false=>
   rw[hc,cond_false]at h;obtain rfl:=aa h;simp only[Bool.or_eq_false_iff,List.any_eq_false,beq_iff_eq]at hc;refine⟨rfl,fun t y hy=>?_,fun g b hg e=>?_⟩
   .obtain ⟨h1,h2⟩:=Gq hy;exact⟨fun e=>h1 (aa e).symm,h2,fun e=>hc.1 _ (yp h2) (aa e).symm⟩
   .exact hc.2 _ (yp hg) (aa e).symm
theorem Em{s:S2}{d:Option Nat}{v:V}(t:Nat):cm (uP s d v).dE t=if d=some t then some v else cm s.dE t:=by
 cases d with
 |none=>simp[uP]
 |some d=>
  simp only[uP,cm];by_cases h:d=t
  .simp [h]
  .have h':(d==t)=false:=by simpa using h
   simp[h,h']
theorem rB{s:S2}{d:Option Nat}{v:V}:(uP s d v).heap=s.heap/\(uP s d v).next=s.next/\(uP s d v).gh=s.gh/\(uP s d v).wo=s.wo:=by cases d<;>exact⟨rfl,rfl,rfl,rfl⟩
theorem sV.pN{s1:St}{s s':S2}{q q':Rg}(hr:sV s1 s q){x:TV}{u:eS}{az:List Nat}{m:Nat}{v:V}{l:List Nat}(hd:rZ s s' s1.heap x u az m v l){d:Option Nat}(hq:PA q d=some q'):
  sV ⟨put s1.dE d x,u++s1.heap,m,s1.gh⟩ (uP s' d v) q':=by
 obtain⟨c1,c2,c3⟩:=EM hq;obtain⟨p1,p2,p3,p4⟩:=rB (s:=s') (d:=d) (v:=v);refine⟨⟨fun t w ht=>?_,by rw[p1,p2];exact hd.hr,by rw[p2];exact hd.m,?_⟩,fun g b hg=>?_,fun t g b w ht=>?_⟩
 .rw [Em]at ht;rw[p1,p2];show _/\(_->∃y,cm (put s1.dE d x) t=some y/\_);rw[lX];split at ht
  .rename_i e;obtain rfl:=aa ht;rw[if_pos e];exact⟨hd.Zb,fun _=>⟨x,rfl,hd.val⟩⟩
  .rename_i e;rw[if_neg e];rw[hd.dE]at ht;obtain⟨h1,h2⟩:=hr.r.dE t w ht;refine⟨hO hd.le hd.eU h1,fun ha=>?_⟩;obtain⟨y,h3,h4⟩:=h2 (ha.imp (wq hd.eU hd.nb h1) id);exact⟨y,h3,vM hd.eU h1 h4⟩
 .rw [p3,p1,p2,hd.gh];exact⟨Ei hd.eU hd.nb hr.r.gh.2 hr.r.gh.1,hO hd.le hd.eU hr.r.gh.2⟩
 .rw [c1]at hg;show cm (put s1.dE d x) g=_;rw[lX,if_neg (c3 g b hg)];exact hr.kn g b hg
 .obtain ⟨e1,e2,e3⟩:=c2 t _ ht;obtain⟨c,h1,h2⟩:=hr.cd t g b w e2;show∃c,cm (put s1.dE d x) g=_/\(c=b->∃y,cm (put s1.dE d x) t=some y/\_);rw[lX,lX,if_neg e3,if_neg e1,p1,p2];refine⟨c,h1,fun e=>?_⟩;obtain⟨y,h3,h4,h5⟩:=h2 e;exact⟨y,h3,vM hd.eU h5 h4,hO hd.le hd.eU h5⟩
theorem Gw{s1:St}{s:S2}{q:Rg}(hr:sV s1 s q):rZ s s s1.heap (.ia []) [] [] s.next .no []:=rZ.pure hr.r.hr rfl trivial fun i hi=>by simp at hi
theorem sV.Tf{s1:St}{s:S2}{q q':Rg}(hr:sV s1 s q){d g:Nat}{b c:Bool}{v:V}{x:TV}{m:Nat}(hm:m<=s.next)(hq:PA q (some d)=some q')(hg:cm s1.dE g=some (tB c))(hgd:g≠d)
  (hx:c=b->fZ s.heap v x/\fD s.next s.heap v):sV ⟨put s1.dE (some d) x,s1.heap,m,s1.gh⟩ (uP s (some d) .gn) ⟨q'.kn,(d,g,b,v)::q'.cd⟩:=by
 obtain⟨c1,c2,c3⟩:=EM hq;refine⟨⟨fun t w ht=>?_,hr.r.hr,hm,hr.r.gh⟩,fun g' b' hg'=>?_,fun t g' b' w ht=>?_⟩
 .rw [Em]at ht;show _/\(_->∃y,cm (put s1.dE (some d) x) t=some y/\_);rw[lX];split at ht
  .obtain rfl:=aa ht;exact⟨trivial,fun h=>by rcases h with h|h<;>simp[iU,uP]at h⟩
  .rename_i e;rw[if_neg e];exact hr.r.dE t w ht
 .rw [show(⟨q'.kn,(d,g,b,v)::q'.cd⟩:Rg).kn=q.kn from c1]at hg';show cm (put s1.dE (some d) x) g'=_;rw[lX,if_neg (c3 g' b' hg')];exact hr.kn g' b' hg'
 .show ∃c,cm (put s1.dE (some d) x) g'=_/\(c=b'->∃y,cm (put s1.dE (some d) x) t=some y/\_);simp only[cm]at ht;rw[lX,lX];by_cases e:d=t
  .subst e;obtain⟨rfl,rfl,rfl⟩:g=g'/\b=b'/\v=w:=by simpa using ht
   rw[if_pos rfl,if_neg (by simpa using Ne.symm hgd)];exact⟨c,hg,fun e=>⟨x,rfl,hx e⟩⟩
  .have e':(d==t)=false:=by simpa using e
   rw[e',cond_false]at ht;obtain⟨_,e2,e3⟩:=c2 t _ ht;obtain⟨c',h1,h2⟩:=hr.cd t g' b' w e2;rw[if_neg e3,if_neg (by simpa using e)];exact⟨c',h1,h2⟩
def Zo(e:iL)(gd:Option (Nat×Bool)):GV->Prop
 |.run=>j8 e gd=some true/\∀g b,gd=some (g,b)->cm e g=some (tB b)
 |.skip=>j8 e gd=some false
 |.Tf g b c=>gd=some (g,b)/\cm e g=some (tB c)
theorem pL{e:iL}{g:Nat}{b c:Bool}(h:cm e g=some (tB c)):j8 e (some (g,b))=some (c==b):=by simp only[j8,h,tB]
theorem Mb{e:iL}{g:Nat}{b c:Bool}(h:cm e g=some (tB c)):Zo e (some (g,b)) (bif c==b then .run else .skip):=by
 have hw:=pL (b:=b) h;cases hc:(c==b)with
 |true=>
  rw[hc]at hw;refine⟨hw,fun g' b' e'=>?_⟩;obtain⟨rfl,rfl⟩:=af (aa e');obtain rfl:c=b:=by simpa using hc
  exact h
 |false=>rw[hc]at hw;exact hw
theorem zG{s1:St}{s:S2}{q:Rg}(hr:sV s1 s q){gd:Option (Nat×Bool)}{r:GV}(h:YG s.dE q.kn gd=some r):Zo s1.dE gd r:=by
 unfold YG at h;split at h
 .obtain rfl:=aa h;exact⟨rfl,fun _ _ e=>by simp at e⟩
 .rename_i g b;split at h
  .rename_i c hk;obtain rfl:=aa h;exact Mb (hr.kn g c hk)
  .split at h
   .rename_i c he;obtain rfl:=aa h;obtain⟨x,h1,h2⟩:=(hr.r.dE g _ he).2 (.inl rfl);rw[wG h2]at h1;exact Mb h1
   .rename_i c he;obtain rfl:=aa h;obtain⟨x,h1,h2⟩:=(hr.r.dE g _ he).2 (.inl rfl);rw[G7 h2]at h1;exact⟨rfl,h1⟩
   .rename_i he;obtain rfl:=aa h;obtain⟨x,h1,h2⟩:=(hr.r.dE g _ he).2 (.inr rfl);rw[show x=.ia []from h2]at h1;show j8 s1.dE _=_;simp only[j8,h1]
   .simp at h
structure xP(ds w:List Nat)(s1 s1':St)(s s':S2):Prop where
 le:s.next<=s'.next
 eU:jO s.next s.heap s'.heap
 gl:s1'.gh.length=s1.gh.length
 ob:∀i,i<s.next->i∉w->fO s'.heap i=fO s.heap i/\∀o,fO s.heap i=some o->∀g,v7 g o (aw s1.heap i)->v7 g o (aw s1'.heap i)
 dE:∀t x,t∉ds->cm s1.dE t=some x->(∀i∈mE x,i<s.next/\i∉w/\fO s.heap i≠none)->cm s1'.dE t=some x
def Fr(ds:List Nat)(s1 s1':St)(s s':S2):Prop:=∃w,s'.wo=w++s.wo/\xP ds w s1 s1' s s'
theorem xP.next{ds w:List Nat}{s1:St}{s:S2}{n m:Nat}(hn:s.next<=n):xP ds w s1 {s1 with next:=m} s {s with next:=n}:=⟨hn,jO.refl _ _,rfl,fun _ _ _=>⟨rfl,fun _ _ _ h=>h⟩,fun _ _ _ h _=>h⟩
theorem xP.trans{ds w w':List Nat}{s1 s2 s3:St}{s s' s'':S2}(a:xP ds w s1 s2 s s')(b:xP ds w' s2 s3 s' s''):xP ds (w'++w) s1 s3 s s'':=by
 refine⟨e_ a.le b.le,a.eU.trans a.le b.eU,b.gl.trans a.gl,fun i hi hw=>?_,fun t x ht hx hc=>?_⟩
 .simp only[ao,not_or]at hw;obtain⟨h1,h2⟩:=a.ob i hi hw.2;obtain⟨h3,h4⟩:=b.ob i (dD hi a.le) hw.1;exact⟨h3.trans h1,fun o ho g hg=>h4 o (h1.trans ho) g (h2 o ho g hg)⟩
 .refine b.dE t x ht (a.dE t x ht hx fun i hi=>?_) fun i hi=>?_
  .obtain ⟨h1,h2,h3⟩:=hc i hi;simp only[ao,not_or]at h2;exact⟨h1,h2.2,h3⟩
  .obtain ⟨h1,h2,h3⟩:=hc i hi;simp only[ao,not_or]at h2;exact⟨dD h1 a.le,h2.1,by rw[(a.ob i h1 h2.2).1];exact h3⟩
theorem xP.mono{ds ds' w w':List Nat}{s1 s2:St}{s s':S2}(a:xP ds w s1 s2 s s')(hd:∀t∈ds,t∈ds')(hw:∀i∈w,i∈w'):xP ds' w' s1 s2 s s':=⟨a.le,a.eU,a.gl,fun i hi h=>a.ob i hi fun q=>h (hw i q),fun t x ht hx hc=>a.dE t x (fun q=>ht (hd t q)) hx fun i hi=>⟨(hc i hi).1,fun q=>(hc i hi).2.1 (hw i q),(hc i hi).2.2⟩⟩
theorem Fr.refl{ds:List Nat}{s1:St}{s:S2}:Fr ds s1 s1 s s:=⟨[],rfl,xP.next (am _)⟩
theorem Fr.trans{ds:List Nat}{s1 s2 s3:St}{s s' s'':S2}(a:Fr ds s1 s2 s s')(b:Fr ds s2 s3 s' s''):Fr ds s1 s3 s s'':=by obtain⟨w,h1,h2⟩:=a;obtain⟨w',h3,h4⟩:=b;exact⟨w'++w,by rw[h3,h1,aR],h2.trans h4⟩
theorem Fr.mono{ds ds':List Nat}{s1 s2:St}{s s':S2}(a:Fr ds s1 s2 s s')(hd:∀t∈ds,t∈ds'):Fr ds' s1 s2 s s':=let⟨w,h1,h2⟩:=a;⟨w,h1,h2.mono hd fun _ h=>h⟩
theorem Fr.VG{s1:St}{s s':S2}{x:TV}{u:eS}{az:List Nat}{m:Nat}{v v':V}{l:List Nat}(hd:rZ s s' s1.heap x u az m v l)(d:Option Nat):Fr d.toList s1 ⟨put s1.dE d x,u++s1.heap,m,s1.gh⟩ s (uP s' d v'):=by
 obtain⟨w,h1,h2,h3⟩:=hd.wo;obtain⟨p1,p2,p3,p4⟩:=rB (s:=s') (d:=d) (v:=v');refine⟨w,p4.trans h1,by rw[p2];exact hd.le,by rw[p1];exact hd.eU,rfl,fun i hi hw=>⟨by rw[p1];exact h3 i hw,fun o ho g hg=>?_⟩,fun t y ht hy _=>?_⟩
 .show v7 g o (aw (u++s1.heap) i);rw[wX (u:=u) (i:=i) fun p hp e=>hw (e▸h2 p hp)];exact hg
 .show cm (put s1.dE d x) t=_;rw[lX,if_neg fun e=>ht (by simp[e])];exact hy
def Nn(P:Program)(o:mO)(s1:St)(s s':S2)(q':Rg)(t:List Nat×List Nat):Prop:=
 (j8 s1.dE o.guard=some true/\∃call x u az m,kE P call/\cC call o.k (o.args.map (ke s1.dE)) s1.heap s.next=some (x,u,az,m)/\(∀i∈az,i∈t.1)/\(∀p∈u,p.1∈t.2)/\
  sV ⟨put s1.dE o.dst x,u++s1.heap,m,s1.gh⟩ s' q'/\Fr o.dst.toList s1 ⟨put s1.dE o.dst x,u++s1.heap,m,s1.gh⟩ s s')\/
 (j8 s1.dE o.guard=some false/\sV ⟨drop s1.dE o.dst,s1.heap,s.next,s1.gh⟩ s' q'/\Fr o.dst.toList s1 ⟨drop s1.dE o.dst,s1.heap,s.next,s1.gh⟩ s s')
section
variable{P:Program}{β:Type}{tb:E6}{dr:Option Nat}{o:OP}{r:List OP}{i:Nat}{s1:St}{s s0:S2}{q:Rg}{tr:Kh}{k:S2->Kh->Option β}{z:β}
theorem Ci(htb:qj P tb)(hg:mJ)(hr:sV s1 s q)(hw:j8 s1.dE o.o.guard=some true)(hgc:∀g b,o.o.guard=some (g,b)->cm s1.dE g=some (tB b))
  (hz:(V2 tb o s q o.o.guard fun v s1 l=>
   bif Jm dr i s1 then(match PA q o.o.dst with
    |some q=>nM tb dr r (i+1) (uP s1 o.o.dst v) q (tr++[(l,s1.wo.take (s1.wo.length-s.wo.length))]) k
    |none=>none)else none)=some z):
  ∃s' q' t,nM tb dr r (i+1) s' q' (tr++[t]) k=some z/\Jm dr i s'=true/\Nn P o.o s1 s s' q' t:=by
 obtain⟨v,s',l,h1,call,hc,x,u,az,m,h2,hd⟩:=Mn htb hg hr hgc hz;obtain⟨hb,h1⟩:=aO h1;split at h1
 .rename_i q' hq;refine⟨_,_,_,h1,?_,.inl ⟨hw,call,x,u,az,m,hc,h2,hd.az,fun p hp=>?_,hr.pN hd hq,Fr.VG hd _⟩⟩
  .unfold Jm at hb|-;rw[rB.2.1];exact hb
  .obtain ⟨w,h3,h4,_⟩:=hd.wo;have:=h4 p hp;show p.1∈s'.wo.take (s'.wo.length-s.wo.length);rw[h3];simpa using this
 .simp at h1
theorem B3(hr:sV s1 s q)(hb:Jm dr i s=true)(hw:j8 s1.dE o.o.guard=some false)
  (hz:(match PA q o.o.dst with|some q=>nM tb dr r (i+1) (uP s o.o.dst .no) q (tr++[([],[])]) k|none=>none)=some z):
  ∃s' q' t,nM tb dr r (i+1) s' q' (tr++[t]) k=some z/\Jm dr i s'=true/\Nn P o.o s1 s s' q' t:=by
 split at hz
 .rename_i q' hq;refine⟨_,_,_,hz,?_,.inr ⟨hw,?_⟩⟩
  .unfold Jm at hb|-;rw[rB.2.1];exact hb
  .exact ⟨hr.pN (Gw hr) hq,Fr.VG (Gw hr) _⟩
 .simp at hz
theorem M6{α:Type}{c:Bool}{x:Option α}{y:α}(h:(bif c then none else x)=some y):x=some y:=by cases c with|true=>simp at h|false=>exact h
theorem DJ(htb:qj P tb)(hg:mJ)(hr:sV s1 (Nw dr i s0) q)(hb:Jm dr i (Nw dr i s0)=true)(hz:nM tb dr (o::r) i s0 q tr k=some z):
  ∃s' q' t,nM tb dr r (i+1) s' q' (tr++[t]) k=some z/\Jm dr i s'=true/\Nn P o.o s1 (Nw dr i s0) s' q' t:=by
 simp only[nM]at hz;split at hz
 .simp at hz
 .rename_i hgd;obtain⟨h1,h2⟩:=zG hr hgd;exact Ci htb hg hr h1 h2 hz
 .rename_i hgd;exact B3 hr hb (zG hr hgd) hz
 .rename_i g b c hgd;obtain⟨h1,h2⟩:=zG hr hgd;split at hz
  .rename_i v l ht;have ht:=M6 ht;split at hz
   .rename_i q' d hq hd;cases hgd2:Nat.beq g d with
    |true=>rw[hgd2]at hz;simp at hz
    |false=>
     rw[hgd2,cond_false]at hz;have hne:g≠d:=fun e=>by rw[e]at hgd2;simp at hgd2
     rw[hd]at hq;refine⟨_,_,_,hz,?_,?_⟩
     .unfold Jm at hb|-;rw[rB.2.1];exact hb
     .by_cases hcb:c=b
      .subst hcb;obtain⟨x,az,e1,e2,e3,e4⟩:=AR hg hr (gc:=some (g,c)) (fun g' b' e=>by obtain⟨rfl,rfl⟩:=af (aa e);exact h2) ht dF (Nw dr i s0).next
       refine .inl ⟨by rw[h1,pL h2];simp,dF,x,[],az,_,lV,e1,e4,fun p hp=>by simp at hp,?_⟩;rw[hd];exact⟨hr.Tf (am _) hq h2 hne fun _=>⟨e2,e3⟩,Fr.VG (rZ.pure hr.r.hr e2 e3 e4) _⟩
      .refine .inr ⟨by rw[h1,pL h2];simpa using hcb,?_⟩;rw[hd];exact⟨hr.Tf (am _) hq h2 hne fun e=>absurd e hcb,Fr.VG (Gw hr) _⟩
   .simp at hz
  .have hkn:=hr.YC h2;cases b with
   |true=>cases c with|true=>exact Ci htb hg hkn (by rw[h1,pL h2];rfl) (fun g' b' e=>by rw[h1]at e;obtain⟨rfl,rfl⟩:=af (aa e);exact h2) hz|false=>exact B3 hkn hb (by rw[h1,pL h2];rfl) hz
   |false=>cases c with|true=>exact B3 hkn hb (by rw[h1,pL h2];rfl) hz|false=>exact Ci htb hg hkn (by rw[h1,pL h2];rfl) (fun g' b' e=>by rw[h1]at e;obtain⟨rfl,rfl⟩:=af (aa e);exact h2) hz
theorem IS(htb:qj P tb)(hg:mJ):∀(ops:List OP)(i:Nat)(s1:St)(s:S2)(q:Rg)(tr:Kh),nM tb none ops i s q tr k=some z->sV s1 s q->
  WO P (ops.map (·.o)) s1 fun s1'=>∃s' tr',R2 s1' s'/\Fr (ops.filterMap (·.o.dst)) s1 s1' s s'/\k s' tr'=some z:=by
 intro ops;induction ops with
 |nil=>intro i s1 s q tr hz hr;exact wk.of ⟨s,tr,hr.r,Fr.refl,hz⟩
 |cons o r ih=>
  intro i s1 s q tr hz hr;have hsub:Sub s1 {s1 with next:=s.next}:=Sub.heap (fun _=>.inl rfl) hr.r.next;have hr1:sV {s1 with next:=s.next} s q:=hr.nx (am _);obtain⟨s',q',t,h1,_,h2⟩:=DJ (dr:=none) (i:=i) htb hg (show sV {s1 with next:=s.next} (Nw none i s) q from hr1) rfl hz;simp only[aq,WO];have hfs:∀t∈o.o.dst.toList,t∈(o::r).filterMap (·.o.dst):=fun t ht=>by rw[Option.mem_toList]at ht;exact ik.2 ⟨o,by simp,ht⟩
  have hrs:∀t∈r.filterMap (·.o.dst),t∈(o::r).filterMap (·.o.dst):=fun t ht=>by obtain⟨p,hp,hpt⟩:=ik.1 ht;exact ik.2 ⟨p,by simp[hp],hpt⟩
  have key:∀s2,Fr o.o.dst.toList {s1 with next:=s.next} s2 s s'->sV s2 s' q'->WO P (r.map (·.o)) s2 fun s1'=>∃s' tr',R2 s1' s'/\Fr ((o::r).filterMap (·.o.dst)) s1 s1' s s'/\k s' tr'=some z:=by
   intro s2 hf hr2;refine WO.mono (fun s1'⟨s3,tr3,g1,g2,g3⟩=>⟨s3,tr3,g1,?_,g3⟩) (ih _ _ _ _ _ h1 hr2);have f0:Fr ((o::r).filterMap (·.o.dst)) s1 {s1 with next:=s.next} s s:=⟨[],rfl,xP.next (am _)⟩
   exact(f0.trans (hf.mono hfs)).trans (g2.mono hrs)
  refine⟨_,hsub,?_⟩;rcases h2 with⟨hw,call,x,u,az,m,hc,he,_,_,hr2,hf⟩|⟨hw,hr2,hf⟩
  .exact .inl ⟨hw,call,x,u,az,m,hc,he,key _ hf hr2⟩
  .exact .inr ⟨hw,key _ hf hr2⟩
def CQ:Tr->Kh->Prop
 |[],[]=>True
 |a::x,b::y=>(∀i∈a.1,i∈b.1)/\(∀i∈a.2,i∈b.2)/\CQ x y
 |_,_=>False
theorem CQ.Ti:∀{x:Tr}{y:Kh}{a b:List Nat×List Nat},CQ x y->(∀i∈a.1,i∈b.1)->(∀i∈a.2,i∈b.2)->CQ (x++[a]) (y++[b]):=by
 intro x;induction x with
 |nil=>intro y a b h h1 h2;cases y with|nil=>exact⟨h1,h2,trivial⟩|cons=>exact h.elim
 |cons c x ih=>intro y a b h h1 h2;cases y with|nil=>exact h.elim|cons d y=>exact⟨h.1,h.2.1,ih h.2.2 h1 h2⟩
theorem CQ.get:∀{x:Tr}{y:Kh}(i:Nat){a:List Nat×List Nat},CQ x y->x[i]?=some a->∃b,y[i]?=some b/\(∀i∈a.1,i∈b.1)/\(∀i∈a.2,i∈b.2):=by
 intro x;induction x with
 |nil=>intro y i a _ h;simp at h
 |cons c x ih=>
  intro y i a hl h;cases y with
  |nil=>exact hl.elim
  |cons d y=>cases i with|zero=>obtain rfl:=aa h;exact⟨d,rfl,hl.1,hl.2.1⟩|succ i=>exact ih i hl.2.2 (by simpa using h)
theorem Ng{a b c d:List Nat×List Nat}(h:mH c d=true)(a1:∀i∈a.1,i∈c.1)(a2:∀i∈a.2,i∈c.2)(b1:∀i∈b.1,i∈d.1)(b2:∀i∈b.2,i∈d.2):mH a b=true:=by simp only[mH,ak,a_,gg,lP,decide_eq_false_iff_not]at h|-;exact⟨fun i hi=>⟨fun e=>(h.1 i (a2 i hi)).1 (b1 i e),fun e=>(h.1 i (a2 i hi)).2 (b2 i e)⟩,fun i hi e=>h.2 i (b2 i hi) (a1 i e)⟩
def Nq(ops:List OP)(tr:Tr):Prop:=∀(j:Nat)(o:OP)(a:List Nat×List Nat),ops[j]?=some o->tr[j]?=some a->LS o.o.k=true->a.1.length<=1
theorem RE{c:Call}{k:K}{vs:List (Option TV)}{h:bC}{n:Nat}{x:TV}{u:eS}{az:List Nat}{m:Nat}(he:cC c k vs h n=some (x,u,az,m))(hk:LS k=true):az.length<=1:=by
 cases k<;>simp[LS]at hk;rename_i ka ks va zero ok;unfold cC at he;split at he<;>first|(simp at he;done)|skip
 all_goals first
  |(rename_i e;cases e;done)
  |skip
 rename_i e;cases e;split at he
 .rename_i v i hv;obtain⟨_,e⟩:=af (aa he);obtain⟨_,e⟩:=af e;obtain⟨rfl,_⟩:=af e;unfold iQ at hv;split at hv
  .split at hv
   .obtain ⟨_,rfl⟩:=af (aa hv);simp
   .simp at hv
  .split at hv
   .split at hv
    .split at hv
     .split at hv
      .obtain ⟨_,rfl⟩:=af (aa hv);simp
      .simp at hv
     .split at hv
      .obtain ⟨_,rfl⟩:=af (aa hv);simp
      .simp at hv
     .simp at hv
    .simp at hv
   .simp at hv
  .simp at hv
 .simp at he
theorem Sp{ops:List OP}{x:Tr}{y:Kh}{dyn:List (Nat×Nat)}(hl:CQ x y)(hk:Nq ops x)(hd:Sq ops y dyn=true):zM x dyn=true:=by
 simp only[Sq,zM,a_]at hd|-;intro p hp;have hp2:=hd p hp;obtain⟨i,j⟩:=p;have key:∀(j':Nat)a b c d,x[i]?=some a->x[j']?=some b->y[i]?=some c->y[j']?=some d->mH c d=true->mH a b=true:=by intro j' a b c d ha hb hc hd h;obtain⟨c',h1,h2,h3⟩:=hl.get i ha;obtain⟨d',h4,h5,h6⟩:=hl.get j' hb;rw[hc]at h1;rw[hd]at h4;obtain rfl:=aa h1;obtain rfl:=aa h4;exact Ng h h2 h3 h5 h6
 by_cases hj:1000<=j
 .have hb:g_ 1000 j=true:=Nat.ble_eq_true_of_le hj;simp only[hb,cond_true]at hp2;simp only[hj,if_true,FA];split
  .rename_i a b ha hb;obtain⟨c,hc,c1,c2⟩:=hl.get i ha;obtain⟨d,hd,_,_⟩:=hl.get (j-1000) hb;rw[hc,hd]at hp2;simp only[Bool.or_eq_true]at hp2|-;rcases hp2 with hp2|hp2
   .exact .inl (key _ a b c d ha hb hc hd hp2)
   .unfold Qb at hp2;split at hp2
    .rename_i o id ho hc2;rw[hc]at hc2;obtain rfl:=aa hc2;simp only[ak]at hp2;have hlen:=hk i o a ho ha hp2.1;obtain⟨a1,a2⟩:=a;obtain rfl:a2=[]:=List.eq_nil_iff_forall_not_mem.2 fun q hq=>by have:=c2 q hq;simp at this
     match a1,hlen,c1 with
     |[],_,_=>left;simp[mH]
     |[q],_,c1=>
      obtain rfl:q=id:=by have:=c1 q (by simp);simpa using this
      right;refine a_.2 fun z hz=>?_;obtain⟨n,hn⟩:=List.getElem?_of_mem hz;rw[bS,fc]at hn;split at hn
      .rename_i hlt;obtain⟨z2,hz2,_,z3⟩:=hl.get _ hn;have hm:z2∈(y.take (j-1000)).drop (i+1):=by refine List.mem_of_getElem? (i:=n) ?_;rw[bS,fc,if_pos hlt];exact hz2
       have:=a_.1 hp2.2 z2 hm;simp only[gg,lP,decide_eq_false_iff_not]at this|-;exact fun q=>this (z3 _ q)
      .simp at hn
    .simp at hp2
  .rfl
 .have hb:g_ 1000 j=false:=by cases h:g_ 1000 j with|false=>rfl|true=>exact absurd (Nat.le_of_ble_eq_true h) hj
  simp only[hb,cond_false]at hp2;simp only[hj,if_false];split
  .rename_i a b ha hb;obtain⟨c,hc,_⟩:=hl.get i ha;obtain⟨d,hd,_⟩:=hl.get j hb;rw[hc,hd]at hp2;exact key _ a b c d ha hb hc hd hp2
  .rfl
theorem WD.mono{P:Program}{aJ:Nat}{ops:List mO}{i:Nat}{e:iL}{h:bC}{tr:Tr}{Q Q':iL->bC->Tr->Prop}(hq:∀e h tr,Q e h tr->Q' e h tr)(hw:WD P aJ ops i e h tr Q):WD P aJ ops i e h tr Q':=let⟨calls,h1,e',h',tr',h2,h3⟩:=hw;⟨calls,h1,e',h',tr',h2,hq _ _ _ h3⟩
theorem Ly{ops:List OP}{tr:Tr}{o:OP}{t:List Nat×List Nat}(h:Nq ops tr)(ho:ops[tr.length]?=some o)(ht:LS o.o.k=true->t.1.length<=1):Nq ops (tr++[t]):=by
 intro j o' a hj ha hl;by_cases hlt:j<tr.length
 .rw [List.getElem?_append_left hlt]at ha;exact h j o' a hj ha hl
 .rw [List.getElem?_append_right (by omega)]at ha;have:j=tr.length:=by have:=(List.getElem?_eq_some_iff.1 ha).1;simp at this;omega
  subst this;rw[ho]at hj;obtain rfl:=aa hj;simp at ha;rw[<-ha];exact ht hl
theorem IT(htb:qj P tb)(hg:mJ){b:Nat}(ops0:List OP):∀(ops:List OP)(i:Nat)(e:iL)(h:bC)(n:Nat)(gh:List C)(s:S2)(q:Rg)(tr:Kh)(tr1:Tr),nM tb (some b) ops i s q tr k=some z->sV ⟨e,h,n,gh⟩ s q->s.next<=b+aD*i->CQ tr1 tr->(∀j,ops[j]?=ops0[i+j]?)->tr1.length=i->Nq ops0 tr1->
  WD P b (ops.map (·.o)) i e h tr1 fun e' h' tr1'=>∃s' tr' n',R2 ⟨e',h',n',gh⟩ s'/\Fr (ops.filterMap (·.o.dst)) ⟨e,h,n,gh⟩ ⟨e',h',n',gh⟩ s s'/\s'.next<=b+aD*(i+ops.length)/\CQ tr1' tr'/\Nq ops0 tr1'/\k s' tr'=some z:=by
 intro ops;induction ops with
 |nil=>intro i e h n gh s q tr tr1 hz hr hn ht _ _ hlk;exact VN ⟨s,tr,n,hr.r,Fr.refl,hn,ht,hlk,hz⟩
 |cons o r ih=>
  intro i e h n gh s q tr tr1 hz hr hn ht hops hlen1 hlk;have ho0:ops0[tr1.length]?=some o:=by have:=hops 0;rw[hlen1];simpa using this.symm
  have hops2:∀j,r[j]?=ops0[i+1+j]?:=fun j=>by have:=hops (j+1);rw[show i+1+j=i+(j+1)by omega,<-this];rfl
  have hr1:sV ⟨e,h,n,gh⟩ (Nw (some b) i s) q:=hr.mono hn;have hb:Jm (some b) i (Nw (some b) i s)=true:=by simpa[Jm,Nw]using N8 (aJ:=b) (i:=i)
  obtain⟨s',q',t,h1,hb2,h2⟩:=DJ (dr:=some b) htb hg hr1 hb hz;have hb3:s'.next<=b+aD*(i+1):=by simpa[Jm]using hb2
  have hlen:i+(o::r).length=i+1+r.length:=by simp only[List.length_cons];omega
  rw[hlen];have hfs:∀t∈o.o.dst.toList,t∈(o::r).filterMap (·.o.dst):=fun t ht=>by rw[Option.mem_toList]at ht;exact ik.2 ⟨o,by simp,ht⟩
  have hrs:∀t∈r.filterMap (·.o.dst),t∈(o::r).filterMap (·.o.dst):=fun t ht=>by obtain⟨p,hp,hpt⟩:=ik.1 ht;exact ik.2 ⟨p,by simp[hp],hpt⟩
  have f0:Fr ((o::r).filterMap (·.o.dst)) ⟨e,h,n,gh⟩ ⟨e,h,n,gh⟩ s (Nw (some b) i s):=⟨[],rfl,xP.next hn⟩
  rcases h2 with⟨hw,call,x,u,az,m,hc,he,hi,hu,hr2,hf⟩|⟨hw,hr2,hf⟩
  .have hm:m<=b+aD*(i+1):=e_ hr2.r.next hb3;refine MD hc ?_ (WD.mono (fun e' h' tr1'⟨s3,tr3,n3,g1,g2,g3⟩=>⟨s3,tr3,n3,g1,(f0.trans (hf.mono hfs)).trans (g2.mono hrs),g3⟩) (ih (i+1) _ _ _ _ _ _ _ (tr1++[(az,u.map (·.1))]) h1 hr2 hb3 (ht.Ti hi fun j hj=>?_) hops2 (by simp[hlen1]) (Ly hlk ho0 fun hl=>RE he hl)))
   .simp only[De,hw];have he':cC call o.o.k (o.o.args.map (ke e)) h (b+aD*i)=some (x,u,az,m):=he;rw[he'];exact S4 hm
   .obtain ⟨p,hp,rfl⟩:=bB.1 hj;exact hu p hp
  .refine MD lV ?_ (WD.mono (fun e' h' tr1'⟨s3,tr3,n3,g1,g2,g3⟩=>⟨s3,tr3,n3,g1,(f0.trans (hf.mono hfs)).trans (g2.mono hrs),g3⟩) (ih (i+1) _ _ _ _ _ _ _ (tr1++[([],[])]) h1 hr2 hb3 (ht.Ti (fun i hi=>by simp at hi) fun i hi=>by simp at hi) hops2 (by simp[hlen1]) (Ly hlk ho0 fun _=>Nat.zero_le _)));simp only[De,hw]
end
def erase:C2->CC
 |.skip=>.skip
 |.Oe ops none _=>.region (ops.map (·.o)) []
 |.Oe ops (some dyn) _=>.drawn (ops.map (·.o)) dyn []
 |.seq a b _=>.seq (erase a) (erase b)
 |.cond c a b=>.cond c (erase a) (erase b)
 |.block id a=>.block id (erase a)
 |.loop _ _ a=>.loop [] (erase a)
 |.exit id=>.exit id
 |.ret=>.ret
 |.gk=>.gk
theorem P1{s1:St}{s s':S2}{id:Nat}(hz:S5 s id=some s')(hr:R2 s1 s):∃s1',Sub s1 s1'/\R2 s1' s'/\Fr [] s1 s1' s s':=by
 unfold S5 at hz;split at hz
 .rename_i t v m id2 ho;split at hz
  .rename_i u r ver ho2;split at hz
   .rename_i r' hr';obtain rfl:=aa hz;obtain⟨e,e2⟩:=dl hr';cases e;obtain rfl:r'=r:=e2;obtain⟨_,⟨d1,d2,d3⟩,hlen,hid2,hkk⟩:=hr.hr.ob id _ ho;obtain⟨_,⟨_,_,c3⟩,_⟩:=hr.hr.ob id2 _ ho2;obtain⟨k1,k2⟩:=hkk _ _ _ (.inl ho2);have hne:id2≠id:=fun e=>by rw[e,ho]at ho2;cases ho2
    cases v with
    |nil=>simp[Sl.l]at hlen
    |mk l=>
     have hlen:m<l.length:=hlen;have d3:=d3 l rfl
     have fin:∀(u:eS),(∀p∈u,p.1=id\/p.1=id2)->aw (u++s1.heap) id=some (.nst (ce t) ((fx t l (some (m,id2))).set m (po t r')))->Sub s1 ⟨s1.dE,u++s1.heap,s1.next,s1.gh⟩->
       ∃s1',Sub s1 s1'/\R2 s1' (eN (eN s id2 none) id (some (.rw t (.mk (l.set m r')) none)))/\Fr [] s1 s1' s (eN (eN s id2 none) id (some (.rw t (.mk (l.set m r')) none))):=by
      intro u hu hb hsub;have d:=(zd (az:=[]) hr.hr ho ho2 hne (by simp[Hc]) hu hb (fun i hi=>by simp at hi)).nx (q:=s1.next) hr.next;exact⟨_,hsub,((sV.none hr).pN d (d:=none) (q':=⟨[],[]⟩) rfl).r,Fr.VG d none (v':=.no)⟩
     have hl:(fx t l (some (m,id2)))[m]?=some (IQ id2 (gt l m)):=by simp only[fx];rw[List.getElem?_set_self (by rw[aM];exact hlen)]
     cases r' with
     |nil=>
      refine fin [] (fun p hp=>by simp at hp) ?_ (Sub.refl _);have:gt l m=.nil:=by have k1:true=(gt l m).fF:=k1;cases hg:gt l m with|nil=>rfl|mk=>rw[hg]at k1;cases k1
      rw[bE,d3,KH (by rw[hl,this];rfl)]
     |mk rr=>
      have c3:=c3 rr rfl;refine fin [(id,some (.nst (ce t) ((fx t l (some (m,id2))).set m (po t (.mk rr))))),(id2,none)] (fun p hp=>by simp at hp;rcases hp with rfl|rfl<;>simp) (by rw[aU,dV,if_pos rfl]) ?_;have:IQ id2 (gt l m)=.oA id2 (rr.map (aS t)).length:=by have k1:false=(gt l m).fF:=k1;cases hg:gt l m with|nil=>rw[hg]at k1;cases k1|mk q=>have k2:rr.length=(gt l m).l.length:=k2;rw[hg]at k2;simp only[IQ,aM];rw[show rr.length=q.length from k2]
      exact Fx d3 (by rw[hl,this]) c3
   .simp at hz
  .simp at hz
 .obtain rfl:=aa hz;exact⟨s1,Sub.refl _,hr,Fr.refl⟩
theorem P2:∀(l:List Nat){s1:St}{s s':S2},CP l s=some s'->R2 s1 s->∃s1',Sub s1 s1'/\R2 s1' s'/\Fr [] s1 s1' s s':=by
 intro l;induction l with
 |nil=>intro s1 s s' hz hr;obtain rfl:=aa hz;exact⟨s1,Sub.refl _,hr,Fr.refl⟩
 |cons id l ih=>
  intro s1 s s' hz hr;simp only[CP]at hz;split at hz
  .rename_i s2 h2;obtain⟨t1,a1,a2,a3⟩:=P1 h2 hr;obtain⟨t2,b1,b2,b3⟩:=ih hz a2;exact⟨t2,a1.trans b1,b2,a3.trans b3⟩
  .simp at hz
theorem Dy{P:Program}{β:Type}{tb:E6}(htb:qj P tb)(hg:mJ){ops:List OP}{dr:Option (List (Nat×Nat))}{jn:Option J}{s1:St}{s:S2}{k:S2->Option β}{z:β}(hz:HZ tb ops dr s k=some z)(hr:R2 s1 s):
  W P (erase (.Oe ops dr jn)) s1 fun o s1'=>o=.normal/\∃s',R2 s1' s'/\Fr (ops.filterMap (·.o.dst)) s1 s1' s s'/\k s'=some z:=by
 have fin:∀{s1':St}{s':S2},R2 s1' s'->Fr (ops.filterMap (·.o.dst)) s1 s1' s s'->(S6 s s').bind k=some z->
   wk (fun t=>qX.normal=qX.normal/\∃s',R2 t s'/\Fr (ops.filterMap (·.o.dst)) s1 t s s'/\k s'=some z) s1':=by
  intro s1' s' h1 h2 h3;obtain⟨s2,h4,h5⟩:=qn h3;obtain⟨t,a1,a2,a3⟩:=P2 _ h4 h1;exact⟨t,a1,rfl,s2,a2,h2.trans (a3.mono fun i hi=>by simp at hi),h5⟩
 cases dr with
 |none=>refine Kl (WO.mono (fun s1'⟨s',tr',h1,h2,h3⟩=>fin h1 h2 h3) (IS htb hg ops 0 s1 s _ [] hz (sV.none hr)))
 |some dyn=>
  refine W.sub (s':={s1 with next:=s.next}) (Sub.heap (fun _=>.inl rfl) hr.next) (ND (WD.mono (fun e' h' tr1 hq=>?_) (IT htb hg ops ops 0 s1.dE s1.heap s1.next s1.gh s _ [] [] hz (sV.none hr) (Nat.le_add_right _ _) trivial (fun j=>by rw[bG]) rfl (fun j o a _ h=>by simp at h))));obtain⟨s',tr',n',h1,h2,h3,h4,hlk,h5⟩:=hq;obtain⟨h6,h7⟩:=aO h5;have hn:s'.next<=s.next+aD*ops.length:=by rw[bG]at h3;exact h3
  have hlen:s.next+aD*(ops.map (·.o)).length=s.next+aD*ops.length:=by rw[aM]
  rw[hlen];refine⟨Sp h4 hlk h6,fin ((h1.mono hn).nx (am _)) ?_ h7⟩;obtain⟨w,e1,e2⟩:=h2;refine⟨w,e1,?_⟩;have a:xP (ops.filterMap (·.o.dst)) [] s1 ⟨s1.dE,s1.heap,s1.next,s1.gh⟩ s s:=xP.next (am _);have b:xP (ops.filterMap (·.o.dst)) [] ⟨e',h',n',s1.gh⟩ ⟨e',h',s.next+aD*ops.length,s1.gh⟩ s' {s' with next:=s.next+aD*ops.length}:=xP.next hn;simpa using e2.trans b
theorem L8(l:List D):fo.nu (l.map C.d)=[]:=by induction l with|nil=>rfl|cons a l ih=>simp only[aq,fo.nu,fo,bE];exact ih
theorem L9(a b:List C):fo.nu (a++b)=fo.nu a++fo.nu b:=by induction a with|nil=>rfl|cons c a ih=>simp only[aU,fo.nu,ih,aR]
theorem oV(c:C):fo.nu [c]=fo c:=by simp[fo.nu]
theorem ES{h:H2}{n:Nat}:∀{v:V}{cs:List C},fG h v cs->fD n h v->∀i∈fo.nu cs,i<n/\(iU h v=true->fO h i≠none):=by
 have ex:∀id,(match fO h id with|some _=>true|none=>false)=true->fO h id≠none:=by intro id ha e;rw[e]at ha;simp at ha
 intro v;induction v with
 |x t v=>rintro cs ⟨_,rfl⟩ _ i hi;rw[L8]at hi;simp at hi
 |kb c=>rintro cs rfl _ i hi;simp[fo.nu,fo]at hi
 |nl k=>rintro cs rfl _ i hi;simp[fo.nu,DZ,fo]at hi
 |so id=>rintro cs ⟨c,rfl,_,hc⟩ hk i hi;rw[oV]at hi;obtain rfl:=hc i hi;refine⟨hk,fun ha e=>?_⟩;simp[iU,e]at ha
 |sr id=>rintro cs ⟨c,rfl,_,hc⟩ hk i hi;rw[oV]at hi;obtain rfl:=hc i hi;refine⟨hk,fun ha e=>?_⟩;simp[iU,e]at ha
 |sb id ver lo t r=>rintro cs ⟨c,rfl,_,hc⟩ hk i hi;rw[oV]at hi;obtain rfl:=hc i hi;refine⟨hk.1,fun ha e=>?_⟩;simp[iU,e]at ha
 |op id t p=>
  rintro cs rfl hk i hi;rw[oV]at hi;obtain rfl:i=id:=by simpa[fo]using hi
  exact⟨hk.1,ex _⟩
 |ep id m t p=>
  rintro cs rfl hk i hi;rw[oV]at hi;obtain rfl:i=id:=by simpa[fo]using hi
  exact⟨hk.1,ex _⟩
 |om id=>
  rintro cs rfl hk i hi;rw[oV]at hi;obtain rfl:i=id:=by simpa[fo]using hi
  exact⟨hk,ex _⟩
 |pt t v=>rintro cs ⟨_,rfl⟩ _ i hi;simp[fo.nu,fo]at hi
 |fn z f l ih=>intro cs hc hk i hi;cases z with|true=>obtain⟨ds,_,rfl⟩:=hc;simp[fo.nu,fo]at hi|false=>obtain⟨xs,h1,rfl⟩:=hc;rw[oV]at hi;exact ih h1 hk i (by simpa[fo]using hi)
 |rc l ih=>intro cs hc hk;exact ih hc hk
 |fl l=>
  rintro cs ⟨_,rfl⟩ _ i hi;have:fm l=(l.map D.lit).map C.d:=by simp[fm]
  rw[this,L8]at hi;simp at hi
 |ni=>rintro cs rfl _ i hi;simp[fo.nu]at hi
 |co a r iha ihr=>
  rintro cs ⟨x,y,rfl,h1,h2⟩ ⟨k1,k2⟩ i hi;rw[L9,ao]at hi;simp only[iU,ak];rcases hi with hi|hi
  .exact ⟨(iha h1 k1 i hi).1,fun ha=>(iha h1 k1 i hi).2 ha.1⟩
  .exact ⟨(ihr h2 k2 i hi).1,fun ha=>(ihr h2 k2 i hi).2 ha.2⟩
 |tp l=>intro cs hc;exact hc.elim
 |no=>intro cs hc;exact hc.elim
 |gn=>intro cs hc;exact hc.elim
theorem yG{h:H2}{n:Nat}{v:V}{x:TV}(hx:tD h v x)(hk:fD n h v):∀i∈mE x,i<n/\(iU h v=true->fO h i≠none):=by obtain⟨cs,h1,h2,h3⟩:=hx;intro i hi;refine ES h1 hk i ?_;cases ha:uf v with|true=>rw[h2 ha]at hi;exact hi|false=>obtain⟨c,rfl,rfl⟩:=h3 ha;rw[oV];exact hi
theorem Ku{h:H2}{n:Nat}:∀{v:V}{xs:List TV},BJ h v xs->fD n h v->∀i∈mE.AA xs,i<n/\(iU h v=true->fO h i≠none):=by
 intro v;induction v with
 |ni=>rintro xs rfl _ i hi;simp[mE.AA]at hi
 |co a r _ ihr=>
  rintro xs ⟨x,ys,rfl,h1,h2⟩ ⟨k1,k2⟩ i hi;simp only[mE.AA,ao]at hi;simp only[iU,ak];rcases hi with hi|hi
  .exact ⟨(yG h1 k1 i hi).1,fun ha=>(yG h1 k1 i hi).2 ha.1⟩
  .exact ⟨(ihr h2 k2 i hi).1,fun ha=>(ihr h2 k2 i hi).2 ha.2⟩
 |_=>intro xs h;exact h.elim
theorem G6{h:H2}{n:Nat}{v:V}{x:TV}(hx:fZ h v x)(hk:fD n h v):∀i∈mE x,i<n/\(iU h v=true->fO h i≠none):=by cases v with|tp l=>obtain⟨xs,rfl,h2⟩:=hx;intro i hi;exact Ku (v:=l) h2 hk i hi|no=>obtain rfl:=hx;intro i hi;simp[mE,mE.AA]at hi|gn=>exact hx.elim|_=>exact yG hx hk
mutual
def tn(M:Nat->Nat->Prop):C->C->Prop
 |.d x,y=>y=.d x
 |.cE a i b c,y=>∃j,M i j/\y=.cE a j b c
 |.ep i b c,y=>∃j,M i j/\y=.ep j b c
 |.op i b,y=>∃j,M i j/\y=.op j b
 |.om i,y=>∃j,M i j/\y=.om j
 |.pp f l,y=>∃m,pj M l m/\y=.pp f m
def pj(M:Nat->Nat->Prop):List C->List C->Prop
 |[],m=>m=[]
 |c::l,m=>∃d r,tn M c d/\pj M l r/\m=d::r
end
mutual
def E5(M:Nat->Nat->Prop):TV->TV->Prop
 |.c x,y=>∃d,tn M x d/\y=.c d
 |.agg l,y=>∃m,pj M l m/\y=.agg m
 |.ia l,y=>∃m,AK M l m/\y=.ia m
def AK(M:Nat->Nat->Prop):List TV->List TV->Prop
 |[],m=>m=[]
 |c::l,m=>∃d r,E5 M c d/\AK M l r/\m=d::r
end
section
variable{M:Nat->Nat->Prop}
theorem pj.d(l:List D):pj M (l.map .d) (l.map .d):=by induction l with|nil=>rfl|cons a l ih=>exact⟨_,_,rfl,ih,rfl⟩
theorem pj.Ti{a b x y:List C}(h1:pj M a x)(h2:pj M b y):pj M (a++b) (x++y):=by induction a generalizing x with|nil=>obtain rfl:=h1;exact h2|cons c a ih=>obtain⟨d,r,h3,h4,rfl⟩:=h1;exact⟨d,r++y,h3,ih h4,rfl⟩
theorem pj.one{c d:C}(h:tn M c d):pj M [c] [d]:=⟨d,[],h,rfl,rfl⟩
mutual
theorem tn.ez:∀(c:C),(∀i∈fo c,M i i)->tn M c c
 |.d x,_=>rfl
 |.cE a i b c,h=>⟨i,h i (by simp[fo]),rfl⟩
 |.ep i b c,h=>⟨i,h i (by simp[fo]),rfl⟩
 |.op i b,h=>⟨i,h i (by simp[fo]),rfl⟩
 |.om i,h=>⟨i,h i (by simp[fo]),rfl⟩
 |.pp f l,h=>⟨l,pj.ez l (fun i hi=>h i (by simpa[fo]using hi)),rfl⟩
theorem pj.ez:∀(l:List C),(∀i∈fo.nu l,M i i)->pj M l l
 |[],_=>rfl
 |c::l,h=>⟨c,l,tn.ez c (fun i hi=>h i (by simp[fo.nu,hi])),pj.ez l (fun i hi=>h i (by simp[fo.nu,hi])),rfl⟩
end
mutual
theorem E5.ez:∀(x:TV),(∀i∈mE x,M i i)->E5 M x x
 |.c x,h=>⟨x,tn.ez x h,rfl⟩
 |.agg l,h=>⟨l,pj.ez l h,rfl⟩
 |.ia l,h=>⟨l,AK.ez l h,rfl⟩
theorem AK.ez:∀(l:List TV),(∀i∈mE.AA l,M i i)->AK M l l
 |[],_=>rfl
 |c::l,h=>⟨c,l,E5.ez c (fun i hi=>h i (by simp[mE.AA,hi])),AK.ez l (fun i hi=>h i (by simp[mE.AA,hi])),rfl⟩
end
mutual
theorem tn.tN{i' i:Nat}(hm:M i' i):∀(c:C),(∀j∈fo c,j=i)->∃c',tn M c' c/\∀j∈fo c',j=i'
 |.d x,_=>⟨.d x,rfl,fun j hj=>by simp[fo]at hj⟩
 |.cE a j b c,h=>by obtain rfl:=h j (by simp[fo]);exact⟨.cE a i' b c,⟨_,hm,rfl⟩,fun j hj=>by simpa[fo]using hj⟩
 |.ep j b c,h=>by obtain rfl:=h j (by simp[fo]);exact⟨.ep i' b c,⟨_,hm,rfl⟩,fun j hj=>by simpa[fo]using hj⟩
 |.op j b,h=>by obtain rfl:=h j (by simp[fo]);exact⟨.op i' b,⟨_,hm,rfl⟩,fun j hj=>by simpa[fo]using hj⟩
 |.om j,h=>by obtain rfl:=h j (by simp[fo]);exact⟨.om i',⟨_,hm,rfl⟩,fun j hj=>by simpa[fo]using hj⟩
 |.pp f l,h=>by obtain⟨l',h1,h2⟩:=pj.tN hm l (fun j hj=>h j (by simpa[fo]using hj));exact⟨.pp f l',⟨l,h1,rfl⟩,fun j hj=>h2 j (by simpa[fo]using hj)⟩
theorem pj.tN{i' i:Nat}(hm:M i' i):∀(l:List C),(∀j∈fo.nu l,j=i)->∃l',pj M l' l/\∀j∈fo.nu l',j=i'
 |[],_=>⟨[],rfl,fun j hj=>by simp[fo.nu]at hj⟩
 |c::l,h=>by obtain⟨c',h1,h2⟩:=tn.tN hm c (fun j hj=>h j (by simp[fo.nu,hj]));obtain⟨l',h3,h4⟩:=pj.tN hm l (fun j hj=>h j (by simp[fo.nu,hj]));refine⟨c'::l',⟨c,l,h1,h3,rfl⟩,fun j hj=>?_⟩;simp only[fo.nu,ao]at hj;exact hj.elim (h2 j) (h4 j)
end
mutual
theorem tn.eq(B:Nat->Prop)(hM:∀i j,M i j->i=j\/B j):∀(c' c:C),tn M c' c->(∀i∈fo c,¬B i)->c'=c
 |.d x,c,h,_=>h.symm
 |.cE a i b e,c,h,hb=>by
  obtain⟨j,h1,rfl⟩:=h;rcases hM i j h1 with rfl|q
  .rfl
  .exact absurd q (hb j (by simp[fo]))
 |.ep i b e,c,h,hb=>by
  obtain⟨j,h1,rfl⟩:=h;rcases hM i j h1 with rfl|q
  .rfl
  .exact absurd q (hb j (by simp[fo]))
 |.op i b,c,h,hb=>by
  obtain⟨j,h1,rfl⟩:=h;rcases hM i j h1 with rfl|q
  .rfl
  .exact absurd q (hb j (by simp[fo]))
 |.om i,c,h,hb=>by
  obtain⟨j,h1,rfl⟩:=h;rcases hM i j h1 with rfl|q
  .rfl
  .exact absurd q (hb j (by simp[fo]))
 |.pp f l,c,h,hb=>by obtain⟨m,h1,rfl⟩:=h;rw[pj.eq B hM l m h1 fun i hi=>hb i (by simpa[fo]using hi)]
theorem pj.eq(B:Nat->Prop)(hM:∀i j,M i j->i=j\/B j):∀(l' l:List C),pj M l' l->(∀i∈fo.nu l,¬B i)->l'=l
 |[],l,h,_=>h.symm
 |c::r,l,h,hb=>by obtain⟨d,m,h1,h2,rfl⟩:=h;rw[tn.eq B hM c d h1 fun i hi=>hb i (by simp[fo.nu,hi]),pj.eq B hM r m h2 fun i hi=>hb i (by simp[fo.nu,hi])]
end
theorem E5.ZD(B:Nat->Prop)(hM:∀i j,M i j->i=j\/B j){x' x:TV}(h:E5 M x' x)(hn:∀l,x'≠.ia l)(hb:∀i∈mE x,¬B i):x'=x:=by cases x' with|c a=>obtain⟨d,h1,rfl⟩:=h;rw[tn.eq B hM a d h1 hb]|agg a=>obtain⟨d,h1,rfl⟩:=h;rw[pj.eq B hM a d h1 hb]|ia l=>exact absurd rfl (hn l)
theorem pj.len:∀{l m:List C},pj M l m->l.length=m.length
 |[],m,h=>by obtain rfl:=h;rfl
 |c::l,m,h=>by obtain⟨d,r,_,h2,rfl⟩:=h;simp[pj.len h2]
section
variable{S:Nat->Prop}{w:World}{Kn Kn':Nat->Prop}{φ φ':Nat->gV}
mutual
theorem tn.rc(hM:∀i j,M i j->Kn j->Kn' i/\φ' i=φ j):∀(c' c:C)(v:Value),tn M c' c->RC S w Kn φ c v->RC S w Kn' φ' c' v
 |.d x,c,v,h,hr=>by obtain rfl:=h;cases hr with|d hd=>exact .d hd
 |.cE a i b e,c,v,h,hr=>by obtain⟨j,h1,rfl⟩:=h;obtain⟨cap,addr,rfl,rfl,hk,hcap,haddr,hext,hcl⟩:=hr.j_;obtain⟨e2,e1⟩:=hM i j h1 hk;have:=RC.cE (S:=S) (w:=w) (Kn:=Kn') (φ:=φ') (id:=i) (off:=b) (len:=e) (cap:=cap) (addr:=addr) e2 hcap (by rw[e1];exact haddr) (by rw[e1];exact hext) (by rw[e1];exact hcl);rw[e1]at this;exact this
 |.ep i b e,c,v,h,hr=>by obtain⟨j,h1,rfl⟩:=h;cases hr with|ep hk=>obtain⟨e2,e1⟩:=hM i j h1 hk;have:=RC.ep (S:=S) (w:=w) (Kn:=Kn') (φ:=φ') (id:=i) (fy:=b) (off:=e) e2;rw[e1]at this;exact this
 |.op i b,c,v,h,hr=>by obtain⟨j,h1,rfl⟩:=h;cases hr with|op hk=>obtain⟨e2,e1⟩:=hM i j h1 hk;have:=RC.op (S:=S) (w:=w) (Kn:=Kn') (φ:=φ') (id:=i) (off:=b) e2;rw[e1]at this;exact this
 |.om i,c,v,h,hr=>by obtain⟨j,h1,rfl⟩:=h;cases hr with|om hk=>obtain⟨e2,e1⟩:=hM i j h1 hk;have:=RC.om (S:=S) (w:=w) (Kn:=Kn') (φ:=φ') (id:=i) e2;rw[e1]at this;exact this
 |.pp f l,c,v,h,hr=>by obtain⟨m,h1,rfl⟩:=h;cases hr with|pp hlen hrc=>exact .pp ((pj.len h1).trans hlen) (pj.rc hM l m _ h1 hrc)
theorem pj.rc(hM:∀i j,M i j->Kn j->Kn' i/\φ' i=φ j):∀(l' l:List C)(f:Nat->Value),pj M l' l->(∀(i:Nat)(x:C),l[i]?=some x->RC S w Kn φ x (f i))->∀(i:Nat)(x:C),l'[i]?=some x->RC S w Kn' φ' x (f i)
 |[],l,f,h,_=>fun i x hi=>by simp at hi
 |c::r,l,f,h,hr=>by
  obtain⟨d,m,h1,h2,rfl⟩:=h;intro i x hi;cases i with
  |zero=>
   obtain rfl:c=x:=by simpa using hi
   exact tn.rc hM c d _ h1 (hr 0 d rfl)
  |succ i=>exact pj.rc hM r m (fun i=>f (i+1)) h2 (fun i x hi=>hr (i+1) x (by simpa using hi)) i x (by simpa using hi)
end
mutual
theorem E5.rc(hM:∀i j,M i j->Kn j->Kn' i/\φ' i=φ j):∀(x' x:TV)(v:Value),E5 M x' x->fX S w Kn φ x v->fX S w Kn' φ' x' v
 |.c a,x,v,h,hr=>by obtain⟨d,h1,rfl⟩:=h;cases hr with|c hr=>exact .c (tn.rc hM a d v h1 hr)
 |.agg a,x,v,h,hr=>by obtain⟨d,h1,rfl⟩:=h;cases hr with|agg hlen hr=>exact .agg ((pj.len h1).trans hlen) (pj.rc hM a d _ h1 hr)
 |.ia a,x,v,h,hr=>by obtain⟨d,h1,rfl⟩:=h;cases hr with|ia hlen hr=>obtain⟨e1,e2⟩:=AK.rc hM a d _ h1 hr;exact .ia (e1.trans hlen) e2
theorem AK.rc(hM:∀i j,M i j->Kn j->Kn' i/\φ' i=φ j):∀(l' l:List TV)(f:Nat->Value),AK M l' l->(∀(i:Nat)(x:TV),l[i]?=some x->fX S w Kn φ x (f i))->l'.length=l.length/\∀(i:Nat)(x:TV),l'[i]?=some x->fX S w Kn' φ' x (f i)
 |[],l,f,h,_=>by obtain rfl:=h;exact⟨rfl,fun i x hi=>by simp at hi⟩
 |c::r,l,f,h,hr=>by
  obtain⟨d,m,h1,h2,rfl⟩:=h;obtain⟨e1,e2⟩:=AK.rc hM r m (fun i=>f (i+1)) h2 (fun i x hi=>hr (i+1) x (by simpa using hi));refine⟨by simp[e1],fun i x hi=>?_⟩;cases i with
  |zero=>
   obtain rfl:c=x:=by simpa using hi
   exact E5.rc hM c d _ h1 (hr 0 d rfl)
  |succ i=>exact e2 i x (by simpa using hi)
end
end
end
theorem MG{s1 s1':St}{s:S2}(hr:R2 s1 s){t id ver lo v0:Nat}{u u0:Ty}{x:Sl (El u)}{s0:Sl (El u0)}(hid:id<s.next)(he:∀t',t'≠t->cm s1'.dE t'=cm s1.dE t')(ht1:cm s1'.dE t=some (.c (mT (ce u) (aS u) s.next x)))
  (hh:∀i,i≠id->i≠s.next->aw s1'.heap i=aw s1.heap i) (hn:∀g,v7 g (.ar u x 0) (aw s1'.heap s.next)) (hnx:s1'.next<=s.next+1) (hgh:s1'.gh=s1.gh) (hte:∀x0,cm s1.dE t=some x0->id∉mE x0->cm s1'.dE t=some x0):
  R2 s1' ⟨(t,.so s.next)::s.dE,(s.next,some (.ar u x 0))::(id,none)::s.heap,s.next+1,s.next::id::s.wo,s.gh⟩/\
  Fr [] s1 s1' s ⟨(t,.so s.next)::s.dE,(s.next,some (.ar u x 0))::(id,none)::s.heap,s.next+1,s.next::id::s.wo,s.gh⟩:=by
 have hfo:∀i,fO ((s.next,some (.ar u x 0))::(id,none)::s.heap) i=if s.next=i then some (.ar u x 0)else if id=i then none else fO s.heap i:=fun i=>by rw[du,du]
 have eU:jO s.next s.heap ((s.next,some (.ar u x 0))::(id,none)::s.heap):=⟨fun i o' hi ho=>by
  rw[hfo,if_neg (by omega)]at ho;split at ho
  .simp at ho
  .exact .inl ⟨o',ho,sX.refl _⟩⟩
 have hnb:∀i,i<s.next->fO s.heap i=none->fO ((s.next,some (.ar u x 0))::(id,none)::s.heap) i=none:=fun i hi h=>by
  rw[hfo,if_neg (by omega)];split
  .rfl
  .exact h
 refine⟨⟨fun t' v ht'=>?_,⟨fun i o ho=>?_⟩,hnx,?_⟩,?_⟩
 .simp only[cm]at ht';by_cases e:t=t'
  .subst e;have e':(t==t)=true:=by simp
   rw[e',cond_true]at ht';obtain rfl:=aa ht';exact⟨aY _,fun _=>⟨_,ht1,wV⟩⟩
  .have e':(t==t')=false:=by simpa using e
   rw[e',cond_false]at ht';obtain⟨h1,h2⟩:=hr.dE t' v ht';refine⟨hO (bI _) eU h1,fun ha=>?_⟩;obtain⟨y,h3,h4⟩:=h2 (ha.imp (wq eU hnb h1) fun q=>q);exact⟨y,(he t' fun q=>e q.symm).trans h3,vM eU h1 h4⟩
 .have ho':=ho;rw[hfo]at ho;split at ho
  .rename_i e;subst e;obtain rfl:=aa ho;exact⟨aY _,hn _,trivial⟩
  .rename_i e;split at ho
   .simp at ho
   .rename_i e2;obtain⟨h1,h2,h3⟩:=hr.hr.ob i o ho;rw[hh i (fun q=>e2 q.symm) (fun q=>e q.symm)];exact⟨Nat.lt_succ_of_lt h1,pW eU h3 h2,oR (bI _) eU h3⟩
 .rw [hgh];exact⟨Ei eU hnb hr.gh.2 hr.gh.1,hO (bI _) eU hr.gh.2⟩
 .refine ⟨[s.next,id],rfl,bI _,eU,by rw[hgh],fun i hi hw=>?_,fun t' y _ hy hk=>?_⟩
  .simp only[aN,List.not_mem_nil,or_false,not_or]at hw;refine⟨?_,fun o _ g hg=>by rw[hh i hw.2 hw.1];exact hg⟩;show fO ((s.next,some (.ar u x 0))::(id,none)::s.heap) i=_;rw[hfo,if_neg fun q=>hw.1 q.symm,if_neg fun q=>hw.2 q.symm]
  .by_cases e:t'=t
   .subst e;exact hte y hy fun q=>(hk id q).2.1 (by simp)
   .rw [he t' e];exact hy
theorem Pv{s1:St}{s:S2}(hr:R2 s1 s){t id ver lo v0:Nat}{u u0:Ty}{x:Sl (El u)}{s0:Sl (El u0)}(ht:cm s.dE t=some (.sb id ver lo u x))(ho:fO s.heap id=some (.ar u0 s0 v0))(hd:kQ u=true)(hv:(v0==ver)=true):
  ∃s1',Sub s1 s1'/\R2 s1' ⟨(t,.so s.next)::s.dE,(s.next,some (.ar u x 0))::(id,none)::s.heap,s.next+1,s.next::id::s.wo,s.gh⟩/\
   Fr [] s1 s1' s ⟨(t,.so s.next)::s.dE,(s.next,some (.ar u x 0))::(id,none)::s.heap,s.next+1,s.next::id::s.wo,s.gh⟩:=by
 obtain⟨hk,hx⟩:=hr.dE t _ ht;have ha:iU s.heap (.sb id ver lo u x)=true:=by simp only[iU,ho,hd,hv,Bool.and_self]
 obtain⟨y,hy,hty⟩:=hx (.inl ha);obtain rfl:=q_ hty ha;obtain⟨hid,hk2⟩:=hk;obtain⟨_,hcut⟩:=hk2 u0 s0 v0 (.inl ho);obtain⟨hsz,hcut⟩:=hcut (by simpa using hv);obtain⟨hd0,hs0,hlk⟩:=(hr.hr.ob id _ ho).2.1;have hne:id≠s.next:=Nat.ne_of_lt hid;cases s0 with
 |nil=>cases x with|mk l=>exact hcut.elim|nil=>refine⟨{s1 with next:=s.next},Sub.heap (fun _=>.inl rfl) hr.next,MG (v0:=0) (ver:=0) (lo:=0) (u0:=u) (s0:=.nil) hr hid (fun _ _=>rfl) hy (fun _ _ _=>rfl) (fun g=>⟨hd,hsz▸hs0,fun l e=>by cases e⟩) (bI _) rfl fun x0 h0 _=>h0⟩
 |mk l0=>
  cases x with
  |nil=>exact hcut.elim
  |mk l=>
   obtain⟨h1,h2⟩:=hcut;have hlk:=hlk l0 rfl;have hsub:=NS (n:=s.next) (gh:=s1.gh) (rows':=l.map (aS u)) hy hlk (by rw[aM];exact h2) (by rw[aM,aM];exact h1);refine⟨_,Sub.trans (Sub.heap (fun _=>.inl rfl) hr.next) hsub,MG (v0:=0) (ver:=0) (lo:=0) (u0:=u) (s0:=.nil) hr hid (fun t' ht'=>?_) ?_ (fun i h3 h4=>?_) (fun g=>⟨hd,hsz▸hs0,fun l' e=>?_⟩) (am _) rfl fun x0 h0 h3=>?_⟩
   .have e':(t==t')=false:=by simpa using fun q:t=t'=>ht' q.symm
    simp only[cm,e',cond_false]
   .simp only[cm,mT];simp
   .simp only[dV];rw[if_neg fun q=>h3 q.symm,if_neg fun q=>h4 q.symm]
   .cases e;simp only[dV];rw[if_neg hne];simp
   .rw [hy]at h0;obtain rfl:=aa h0;exact absurd (by simp[mE,yi,fo]) h3
theorem Bq:∀(vs:List (Nat×JV))(s1:St)(s:S2),R2 s1 s->∃s1',Sub s1 s1'/\R2 s1' (AH vs s)/\Fr [] s1 s1' s (AH vs s):=by
 intro vs;induction vs with
 |nil=>intro s1 s hr;exact⟨s1,Sub.refl _,hr,Fr.refl⟩
 |cons p r ih=>
  obtain⟨t,jv⟩:=p;intro s1 s hr;cases jv with
  |so j=>
   simp only[AH];split
   .rename_i id ver lo u x ht;split
    .rename_i u0 s0 v0 ho;cases hc:(kQ u&&v0==ver)with|false=>exact ih s1 s hr|true=>simp only[ak]at hc;obtain⟨s2,h1,h2,h3⟩:=Pv hr ht ho hc.1 hc.2;obtain⟨s3,h4,h5,h6⟩:=ih s2 _ h2;exact⟨s3,h1.trans h4,h5,h3.trans h6⟩
    .exact ih s1 s hr
   .exact ih s1 s hr
  |_=>exact ih s1 s hr
def BD(m:List Bd):Prop:=∀b∈m,∀c∈m,(b.j=c.j->b=c)/\∀i,b.id=some i->c.id=some i->b=c
theorem zZ:∀{m:List Bd}{j:Nat}{b:Bd},M7 m j=some b->b∈m/\b.j=j:=by
 intro m;induction m with
 |nil=>intro j b h;simp[M7]at h
 |cons c m ih=>intro j b h;simp only[M7]at h;cases hc:(c.j==j)with|true=>rw[hc,cond_true]at h;obtain rfl:=aa h;exact⟨by simp,by simpa using hc⟩|false=>rw[hc,cond_false]at h;exact⟨aF _ (ih h).1,(ih h).2⟩
theorem EX:∀{m:List Bd}{j:Nat},M7 m j=none->∀b∈m,b.j≠j:=by
 intro m;induction m with
 |nil=>intro j _ b hb;simp at hb
 |cons c m ih=>
  intro j h b hb;simp only[M7]at h;cases hc:(c.j==j)with
  |true=>rw[hc]at h;simp at h
  |false=>
   rw[hc,cond_false]at h;rcases aN.1 hb with rfl|hb
   .simpa using hc
   .exact ih h b hb
theorem mZ{m m':List Bd}{b:Bd}(h:wm m b=some m'):b∈m'/\(∀c∈m,c∈m')/\(BD m->BD m'):=by
 unfold wm at h;split at h
 .rename_i hn;have hn:=EX hn;have hfresh:m'=b::m/\∀c∈m,∀i,b.id=some i->c.id≠some i:=by obtain⟨hc,h⟩:=aO h;obtain rfl:=aa h;refine⟨rfl,fun c hcm i hi e=>?_⟩;rw[hi]at hc;have:=a_.1 hc c hcm;rw[e]at this;simp at this
  obtain⟨rfl,hf⟩:=hfresh;refine⟨by simp,fun c hc=>aF _ hc,fun hi x hx y hy=>?_⟩;rcases aN.1 hx with ex|hx2<;>rcases aN.1 hy with ey|hy2
  .subst ex;subst ey;exact⟨fun _=>rfl,fun _ _ _=>rfl⟩
  .subst ex;exact⟨fun e=>absurd e.symm (hn y hy2),fun i h1 h2=>absurd h2 (hf y hy2 i h1)⟩
  .subst ey;exact⟨fun e=>absurd e (hn x hx2),fun i h1 h2=>absurd h1 (hf x hx2 i h2)⟩
  .exact hi x hx2 y hy2
 .rename_i c hc;obtain⟨h1,h2⟩:=zZ hc;split at h
  .rename_i i i' hi hi';obtain⟨he,h⟩:=aO h;obtain rfl:=aa h;obtain rfl:i=i':=by simpa using he
   have:b=c:=by cases b;cases c;simp only at hi hi' h2;subst hi;subst hi';subst h2;rfl
   exact⟨this▸h1,fun _ h=>h,fun h=>h⟩
  .simp at h
theorem uJ:∀(jv:JV)(ln:Bool)(v:V)(m:List Bd)(l:List V)(m1:List Bd),dP jv ln v m=some (l,m1)->(∀c∈m,c∈m1)/\(BD m->BD m1):=by
 have b1:∀(m:List Bd)(b:Bd)(l:List V)(m1:List Bd),(match wm m b with|some m=>some (([]:List V),m)|none=>none)=some (l,m1)->(∀c∈m,c∈m1)/\(BD m->BD m1):=by
  intro m b l m1 h;split at h
  .rename_i m' hm;obtain⟨_,rfl⟩:=af (aa h);exact(mZ hm).2
  .simp at h
 intro jv;induction jv with
 |co a r iha ihr=>
  intro ln v m l m1 h;cases ln with
  |false=>cases v<;>simp[dP]at h
  |true=>
   cases v with
   |co x y=>
    simp only[dP]at h;split at h
    .rename_i l2 m2 h2;split at h
     .rename_i l3 m3 h3;obtain⟨_,rfl⟩:=af (aa h);obtain⟨a1,a2⟩:=iha _ _ _ _ _ h2;obtain⟨c1,c2⟩:=ihr _ _ _ _ _ h3;exact⟨fun c hc=>c1 c (a1 c hc),fun hi=>c2 (a2 hi)⟩
     .simp at h
    .simp at h
   |_=>simp[dP]at h
 |rc a ih=>
  intro ln v m l m1 h;cases ln with
  |true=>cases v<;>simp[dP]at h
  |false=>
   cases v with
   |rc l'=>exact ih _ _ _ _ _ h
   |x t v=>cases t<;>first|exact ih _ _ _ _ _ h|simp[dP]at h
   |_=>simp[dP]at h
 |fn z f a ih=>
  intro ln v m l m1 h;cases ln with
  |true=>cases v<;>simp[dP]at h
  |false=>cases v with|fn z' f' l'=>simp only[dP]at h;obtain⟨_,h⟩:=aO h;exact ih _ _ _ _ _ h|_=>simp[dP]at h
 |so j=>
  intro ln v m l m1 h;cases ln with
  |true=>cases v<;>simp[dP]at h
  |false=>
   cases v with
   |so id=>exact b1 _ _ _ _ h
   |nl k=>cases k with|zero=>exact b1 _ _ _ _ h|succ=>simp[dP]at h
   |x t v=>cases t with|sl u=>exact b1 _ _ _ _ (aO h).2|_=>simp[dP]at h
   |_=>simp[dP]at h
 |om j=>
  intro ln v m l m1 h;cases ln with
  |true=>cases v<;>simp[dP]at h
  |false=>cases v with|om id=>exact b1 _ _ _ _ h|_=>simp[dP]at h
 |sr j=>
  intro ln v m l m1 h;cases ln with
  |true=>cases v<;>simp[dP]at h
  |false=>cases v with|sr id=>exact b1 _ _ _ _ h|_=>simp[dP]at h
 |op j t p=>
  intro ln v m l m1 h;cases ln with
  |true=>cases v<;>simp[dP]at h
  |false=>cases v with|op id u q=>simp only[dP]at h;obtain⟨_,h⟩:=aO h;exact b1 _ _ _ _ h|_=>simp[dP]at h
 |x t=>
  intro ln v m l m1 h;cases ln with
  |true=>cases v<;>simp[dP]at h
  |false=>
   simp only[dP]at h;split at h
   .obtain ⟨_,rfl⟩:=af (aa h);exact⟨fun _ h=>h,fun h=>h⟩
   .simp at h
 |pt t=>
  intro ln v m l m1 h;cases ln with
  |true=>cases v<;>simp[dP]at h
  |false=>
   cases v with
   |pt u v=>
    simp only[dP]at h;split at h
    .obtain ⟨_,rfl⟩:=af (aa h);exact⟨fun _ h=>h,fun h=>h⟩
    .simp at h
   |_=>simp[dP]at h
 |nl k=>
  intro ln v m l m1 h;cases ln with
  |true=>cases v<;>simp[dP]at h
  |false=>cases v with|nl k'=>simp only[dP]at h;obtain⟨_,h⟩:=aO h;obtain⟨_,rfl⟩:=af (aa h);exact⟨fun _ h=>h,fun h=>h⟩|_=>simp[dP]at h
 |ni=>
  intro ln v m l m1 h;cases ln with
  |false=>cases v<;>simp[dP]at h
  |true=>cases v with|ni=>obtain⟨_,rfl⟩:=af (aa h);exact⟨fun _ h=>h,fun h=>h⟩|_=>simp[dP]at h
 |sm=>intro ln v m l m1 h;cases ln<;>cases v<;>simp[dP]at h
 |gn=>intro ln v m l m1 h;cases ln<;>cases v<;>simp[dP]at h
structure Cx(h' h'':H2)(aJ n'':Nat)(mf:List Bd)(M:Nat->Nat->Prop):Prop where
 m:∀b∈mf,∀i,b.id=some i->M (aJ+b.j) i
 n:∀b∈mf,aJ+b.j<n''
 so:∀b∈mf,∀i,b.id=some i->∀c',AU (aJ+b.j) (fO h'' (aJ+b.j))=some c'->∃t s,c'=mT (ce t) (aS t) (aJ+b.j) s/\AU i (fO h' i)=some (mT (ce t) (aS t) i s)
 sr:∀b∈mf,∀i,b.id=some i->∀c',Fb (aJ+b.j) (fO h'' (aJ+b.j))=some c'->∃(t:Ty)(s:Sl (Sl (El t))),c'=mT 1 (aS (.sl t)) (aJ+b.j) s/\Fb i (fO h' i)=some (mT 1 (aS (.sl t)) i s)
 nl:∀b∈mf,b.id=none->∀c',AU (aJ+b.j) (fO h'' (aJ+b.j))=some c'->c'=DZ 0
theorem FW:∀{q:qo}{p:List Nat},DD q=some p->q=p.map .fd:=by
 intro q;induction q with
 |nil=>intro p h;obtain rfl:=aa h;rfl
 |cons a q ih=>
  intro p h;cases a with
  |ix=>simp[DD]at h
  |fd i=>
   simp only[DD]at h;split at h
   .rename_i l hl;obtain rfl:=aa h;rw[ih hl];rfl
   .simp at h
theorem KP{b:Nat}{a r:JV}{l:List V}{v0 v':V}{r':List V}(h:jq b (.co a r) true l v0=some (v',r')):∃x0 y0 v l1 w,jq b a false l x0=some (v,l1)/\jq b r true l1 y0=some (w,r')/\v'=.co v w:=by
 have key:∀(x0 y0:V),(match jq b a false l x0 with|some (v,l)=>(match jq b r true l y0 with|some (w,l)=>some (V.co v w,l)|none=>none)|none=>none)=some (v',r')->∃x0 y0 v l1 w,jq b a false l x0=some (v,l1)/\jq b r true l1 y0=some (w,r')/\v'=.co v w:=by
  intro x0 y0 h;split at h
  .rename_i v l1 h1;split at h
   .rename_i w l2 h2;obtain⟨rfl,rfl⟩:=af (aa h);exact⟨x0,y0,v,l1,w,h1,h2,rfl⟩
   .simp at h
  .simp at h
 cases v0 with|co x y=>exact key x y h|_=>exact key .gn .ni h
theorem Ug{b:Nat}{t:Ty}{y:El t}{rest:List V}{v0 v':V}{r':List V}(h:jq b (.x t) false (.x t y::rest) v0=some (v',r')):kQ t=true/\v'=.x t y/\r'=rest:=by simp only[jq]at h;obtain⟨h1,h⟩:=aO h;obtain⟨rfl,rfl⟩:=af (aa h);simp only[decide_true,j5]at h1;exact⟨h1,rfl,rfl⟩
theorem KO{b:Nat}{t:Ty}{y:El t}{rest:List V}{v0 v':V}{r':List V}(h:jq b (.pt t) false (.x t y::rest) v0=some (v',r')):kQ t=true/\v'=.pt t y/\r'=rest:=by simp only[jq]at h;obtain⟨h1,h⟩:=aO h;obtain⟨rfl,rfl⟩:=af (aa h);simp only[decide_true,j5]at h1;exact⟨h1,rfl,rfl⟩
theorem JZ{aJ:Nat}:∀(jv:JV)(v:V)(m:List Bd)(l:List V)(m1:List Bd)(rest:List V)(v0 v':V)(r':List V)(ds:List D),dP jv true v m=some (l,m1)->rn v=some ds->jq aJ jv true (l++rest) v0=some (v',r')->
  r'=rest/\rn v'=some ds/\∀n h,fD n h v':=by
 intro jv;induction jv with
 |co a r _ ihr=>
  intro v m l m1 rest v0 v' r' ds hc hd hr;cases v with
  |co x y=>
   simp only[dP]at hc;split at hc
   .rename_i l1 m2 h1;split at hc
    .rename_i l2 m3 h2;obtain⟨rfl,rfl⟩:=af (aa hc);obtain⟨x0,y0,w1,r1,w2,e1,e2,rfl⟩:=KP hr;simp only[rn]at hd;split at hd
     .rename_i d1 d2 hd1 hd2;obtain rfl:=aa hd;rw[aR]at e1
      have hx:∃t z,x=.pt t z/\kQ t=true/\d1=[.pt (aS t z)]:=by
       cases x with
       |pt t z=>
        simp only[rn]at hd1;split at hd1
        .exact ⟨t,z,rfl,by assumption,(aa hd1).symm⟩
        .simp at hd1
       |ni=>cases a<;>simp[dP]at h1<;>simp[sd,ll,iE]at h1
       |co=>cases a<;>simp[dP]at h1<;>simp[sd,ll,iE]at h1
       |_=>simp[rn]at hd1
      obtain⟨t,z,rfl,hdt,rfl⟩:=hx
      have ha:∃u z',gC t u z=some z'/\a=.pt u/\l1=[.x u z']:=by
       cases a with
       |pt u=>
        simp only[dP]at h1;split at h1
        .rename_i z' hz';obtain⟨rfl,_⟩:=af (aa h1);exact⟨u,z',hz',rfl,rfl⟩
        .simp at h1
       |x u=>simp only[dP]at h1;split at h1<;>rename_i hh<;>simp[sd,ll,iE]at hh;simp at h1
       |_=>simp[dP]at h1
      obtain⟨u,z',hz',rfl,rfl⟩:=ha;obtain⟨rfl,rfl⟩:=dl hz';obtain⟨_,rfl,rfl⟩:=KO e1;obtain⟨rfl,g2,g3⟩:=ihr _ _ _ _ _ _ _ _ _ h2 hd2 e2;refine⟨rfl,?_,fun n h=>⟨trivial,g3 n h⟩⟩;simp only[rn,hdt,if_true,g2]
     .simp at hd
    .simp at hc
   .simp at hc
  |_=>simp[dP]at hc
 |ni=>intro v m l m1 rest v0 v' r' ds hc hd hr;cases v with|ni=>obtain⟨rfl,_⟩:=af (aa hc);simp only[jq]at hr;obtain⟨rfl,rfl⟩:=af (aa hr);exact⟨rfl,hd,fun _ _=>trivial⟩|_=>simp[dP]at hc
 |_=>intro v m l m1 rest v0 v' r' ds hc hd hr;cases v<;>simp[dP]at hc
section
variable{h' h'':H2}{n' n'' aJ:Nat}{mf:List Bd}{M:Nat->Nat->Prop}
theorem Q1(cx:Cx h' h'' aJ n'' mf M){b:Bd}(hb:b∈mf){i:Nat}(hi:b.id=some i){c:C}(hc:(∀c',AU i (fO h' i)=some c'->c=c')/\R0 i c):∃c',fG h'' (.so (aJ+b.j)) [c']/\tn M c' c:=by
 obtain⟨c',h1,h2⟩:=tn.tN (cx.m b hb i hi) c hc.2;refine⟨c',⟨c',rfl,fun c2 hc2=>?_,h2⟩,h1⟩;obtain⟨t,s,rfl,h4⟩:=cx.so b hb i hi c2 hc2;obtain rfl:=hc.1 _ h4;cases s with
 |nil=>cases c' with|d x=>have:mT (ce t) (aS t) i (.nil:Sl (El t))=.d x:=h1;rw[<-this];rfl|_=>simp[mT,tn]at h1
 |mk l=>
  cases c' with
  |cE a i2 b2 e=>obtain⟨j,_,e2⟩:=h1;have e3:=h2 i2 (by simp[fo]);simp only[mT,C.cE.injEq]at e2|-;exact⟨e2.1.symm,e3,e2.2.2.1.symm,e2.2.2.2.symm⟩
  |d x=>simp[mT,tn]at h1
  |_=>simp[mT,tn]at h1
theorem Q0(cx:Cx h' h'' aJ n'' mf M){b:Bd}(hb:b∈mf){i:Nat}(hi:b.id=some i){c:C}(hc:(∀c',Fb i (fO h' i)=some c'->c=c')/\R0 i c):∃c',fG h'' (.sr (aJ+b.j)) [c']/\tn M c' c:=by
 obtain⟨c',h1,h2⟩:=tn.tN (cx.m b hb i hi) c hc.2;refine⟨c',⟨c',rfl,fun c2 hc2=>?_,h2⟩,h1⟩;obtain⟨t,s,rfl,h4⟩:=cx.sr b hb i hi c2 hc2;obtain rfl:=hc.1 _ h4;cases s with
 |nil=>cases c' with|d x=>have:mT 1 (aS (.sl t)) i (.nil:Sl (Sl (El t)))=.d x:=h1;rw[<-this];rfl|_=>simp[mT,tn]at h1
 |mk l=>
  cases c' with
  |cE a i2 b2 e=>obtain⟨j,_,e2⟩:=h1;have e3:=h2 i2 (by simp[fo]);simp only[mT,C.cE.injEq]at e2|-;exact⟨e2.1.symm,e3,e2.2.2.1.symm,e2.2.2.2.symm⟩
  |d x=>simp[mT,tn]at h1
  |_=>simp[mT,tn]at h1
theorem uI(cx:Cx h' h'' aJ n'' mf M):∀(jv:JV)(ln:Bool)(v:V)(m:List Bd)(l:List V)(m1:List Bd)(rest:List V)(v0 v':V)(r':List V)(cs:List C),dP jv ln v m=some (l,m1)->(∀b∈m1,b∈mf)->fG h' v cs->fD n' h' v->jq aJ jv ln (l++rest) v0=some (v',r')->
  r'=rest/\fD n'' h'' v'/\uf v'=uf v/\(∀l,v'≠.tp l)/\∃cs',fG h'' v' cs'/\pj M cs' cs:=by
 intro jv;induction jv with
 |x t=>
  intro ln v m l m1 rest v0 v' r' cs hc hm hv hk hr;cases ln with
  |true=>cases v<;>simp[dP]at hc
  |false=>
   simp only[dP]at hc;split at hc
   .rename_i y hy;obtain⟨rfl,rfl⟩:=af (aa hc);obtain⟨hd,rfl,rfl⟩:=Ug hr;obtain rfl:=js v false t y cs hy hv;exact⟨rfl,trivial,(xj hy).symm,by simp,_,⟨hd,rfl⟩,pj.d _⟩
   .simp at hc
 |pt t=>
  intro ln v m l m1 rest v0 v' r' cs hc hm hv hk hr;cases ln with
  |true=>cases v<;>simp[dP]at hc
  |false=>
   cases v with
   |pt u v=>
    simp only[dP]at hc;split at hc
    .rename_i y hy;obtain⟨rfl,rfl⟩:=dl hy;obtain⟨rfl,rfl⟩:=af (aa hc);obtain⟨hd,rfl,rfl⟩:=KO hr;obtain⟨_,rfl⟩:=hv;exact⟨rfl,trivial,rfl,by simp,_,⟨hd,rfl⟩,pj.one rfl⟩
    .simp at hc
   |_=>simp[dP]at hc
 |sr j=>
  intro ln v m l m1 rest v0 v' r' cs hc hm hv hk hr;cases ln with
  |true=>cases v<;>simp[dP]at hc
  |false=>
   have hr2:∀l2:List V,jq aJ (.sr j) false l2 v0=some (.sr (aJ+j),l2):=fun l2=>by simp only[jq]
   cases v with
   |sr id=>
    simp only[dP]at hc;split at hc
    .rename_i m2 hb;obtain⟨rfl,rfl⟩:=af (aa hc);rw[hr2]at hr;obtain⟨rfl,rfl⟩:=af (aa hr);have hbm:=hm _ (mZ hb).1;obtain⟨c,rfl,h1⟩:=hv;obtain⟨c',h2,h3⟩:=Q0 cx hbm rfl h1;exact⟨rfl,cx.n _ hbm,rfl,by simp,_,h2,pj.one h3⟩
    .simp at hc
   |_=>simp[dP]at hc
 |so j=>
  intro ln v m l m1 rest v0 v' r' cs hc hm hv hk hr;cases ln with
  |true=>cases v<;>simp[dP]at hc
  |false=>
   have hr2:∀l2:List V,jq aJ (.so j) false l2 v0=some (.so (aJ+j),l2):=fun l2=>by simp only[jq]
   cases v with
   |so id=>
    simp only[dP]at hc;split at hc
    .rename_i m2 hb;obtain⟨rfl,rfl⟩:=af (aa hc);rw[hr2]at hr;obtain⟨rfl,rfl⟩:=af (aa hr);have hbm:=hm _ (mZ hb).1;obtain⟨c,rfl,h1⟩:=hv;obtain⟨c',h2,h3⟩:=Q1 cx hbm rfl h1;exact⟨rfl,cx.n _ hbm,rfl,by simp,_,h2,pj.one h3⟩
    .simp at hc
   |nl k=>
    cases k with
    |succ=>simp[dP]at hc
    |zero=>
     simp only[dP]at hc;split at hc
     .rename_i m2 hb;obtain⟨rfl,rfl⟩:=af (aa hc);rw[hr2]at hr;obtain⟨rfl,rfl⟩:=af (aa hr);have hbm:=hm _ (mZ hb).1;obtain rfl:=hv;exact⟨rfl,cx.n _ hbm,rfl,by simp,_,⟨DZ 0,rfl,fun c' hc'=>(cx.nl _ hbm rfl c' hc').symm,fun i hi=>by simp[DZ,fo]at hi⟩,pj.one rfl⟩
     .simp at hc
   |x t v=>
    cases t with
    |sl u=>
     simp only[dP]at hc;obtain⟨hnil,hc⟩:=aO hc;split at hc
     .rename_i m2 hb;obtain⟨rfl,rfl⟩:=af (aa hc);rw[hr2]at hr;obtain⟨rfl,rfl⟩:=af (aa hr);have hbm:=hm _ (mZ hb).1;obtain⟨_,rfl⟩:=hv;have hv:v=Sl.nil:=by cases v with|nil=>rfl|mk l=>simp[Sl.fF]at hnil
      subst hv;exact⟨rfl,cx.n _ hbm,rfl,by simp,_,⟨DZ 0,rfl,fun c' hc'=>(cx.nl _ hbm rfl c' hc').symm,fun i hi=>by simp[DZ,fo]at hi⟩,pj.one rfl⟩
     .simp at hc
    |_=>simp[dP]at hc
   |_=>simp[dP]at hc
 |om j=>
  intro ln v m l m1 rest v0 v' r' cs hc hm hv hk hr;cases ln with
  |true=>cases v<;>simp[dP]at hc
  |false=>
   have hr2:∀l2:List V,jq aJ (.om j) false l2 v0=some (.om (aJ+j),l2):=fun l2=>by simp only[jq]
   cases v with
   |om id=>
    simp only[dP]at hc;split at hc
    .rename_i m2 hb;obtain⟨rfl,rfl⟩:=af (aa hc);rw[hr2]at hr;obtain⟨rfl,rfl⟩:=af (aa hr);have hbm:=hm _ (mZ hb).1;obtain rfl:=hv;exact⟨rfl,cx.n _ hbm,rfl,by simp,_,rfl,pj.one ⟨id,cx.m _ hbm id rfl,rfl⟩⟩
    .simp at hc
   |_=>simp[dP]at hc
 |op j t p=>
  intro ln v m l m1 rest v0 v' r' cs hc hm hv hk hr;cases ln with
  |true=>cases v<;>simp[dP]at hc
  |false=>
   have hr2:∀l2:List V,jq aJ (.op j t p) false l2 v0=some (.op (aJ+j) t (p.map .fd),l2):=fun l2=>by simp only[jq]
   cases v with
   |op id u q=>
    simp only[dP]at hc;obtain⟨hq,hc2⟩:=aO hc;clear hc;have hc:=hc2;clear hc2;simp only[ak,decide_eq_true_eq]at hq;obtain⟨rfl,hq⟩:=hq;obtain rfl:=FW hq;split at hc
    .rename_i m2 hb;obtain⟨rfl,rfl⟩:=af (aa hc);rw[hr2]at hr;obtain⟨rfl,rfl⟩:=af (aa hr);have hbm:=hm _ (mZ hb).1;obtain rfl:=hv;exact⟨rfl,⟨cx.n _ hbm,hk.2⟩,rfl,by simp,_,rfl,pj.one ⟨id,cx.m _ hbm id rfl,rfl⟩⟩
    .simp at hc
   |_=>simp[dP]at hc
 |nl k=>
  intro ln v m l m1 rest v0 v' r' cs hc hm hv hk hr;cases ln with
  |true=>cases v<;>simp[dP]at hc
  |false=>
   cases v with
   |nl k'=>
    simp only[dP]at hc;obtain⟨hq,hc2⟩:=aO hc;clear hc;have hc:=hc2;clear hc2;obtain rfl:k=k':=by simpa using hq
    obtain⟨rfl,rfl⟩:=af (aa hc);have hr2:∀l2:List V,jq aJ (.nl k) false l2 v0=some (.nl k,l2):=fun l2=>by simp only[jq]
    rw[hr2]at hr;obtain⟨rfl,rfl⟩:=af (aa hr);obtain rfl:=hv;exact⟨rfl,trivial,rfl,by simp,_,rfl,pj.one rfl⟩
   |_=>simp[dP]at hc
 |fn z f a ih=>
  intro ln v m l m1 rest v0 v' r' cs hc hm hv hk hr;cases ln with
  |true=>cases v<;>simp[dP]at hc
  |false=>
   cases v with
   |fn z' f' l'=>
    simp only[dP]at hc;obtain⟨hq,hc2⟩:=aO hc;clear hc;have hc:=hc2;clear hc2;simp only[ak,beq_iff_eq]at hq;obtain⟨rfl,rfl⟩:=hq;simp only[jq]at hr;split at hr
    .rename_i w l2 hw;obtain⟨rfl,rfl⟩:=af (aa hr);cases z with|true=>obtain⟨ds,hd,rfl⟩:=hv;obtain⟨rfl,g1,g2⟩:=JZ a l' m l m1 rest .ni w l2 ds hc hd hw;exact⟨rfl,g2 _ _,rfl,by simp,_,⟨ds,g1,rfl⟩,pj.one rfl⟩|false=>obtain⟨xs,hx,rfl⟩:=hv;obtain⟨rfl,g1,_,_,cs',g2,g3⟩:=ih true l' m l m1 rest .ni w l2 xs hc hm hx hk hw;exact⟨rfl,g1,rfl,by simp,_,⟨cs',g2,rfl⟩,pj.one ⟨xs,g3,rfl⟩⟩
    .simp at hr
   |_=>simp[dP]at hc
 |rc a ih=>
  intro ln v m l m1 rest v0 v' r' cs hc hm hv hk hr;cases ln with
  |true=>cases v<;>simp[dP]at hc
  |false=>
   simp only[jq]at hr;split at hr
   .rename_i w l2 hw;obtain⟨rfl,rfl⟩:=af (aa hr);cases v with
    |rc l'=>obtain⟨rfl,g1,_,_,cs',g2,g3⟩:=ih true l' m l m1 rest .ni w l2 cs hc hm hv hk hw;exact⟨rfl,g1,rfl,by simp,cs',g2,g3⟩
    |x t v=>cases t with|st t=>obtain⟨hd,rfl⟩:=hv;obtain⟨rfl,g1,_,_,cs',g2,g3⟩:=ih true (Ip t v) m l m1 rest .ni w l2 _ hc hm (BK t v hd) (Fw t v) hw;exact⟨rfl,g1,rfl,by simp,cs',g2,g3⟩|_=>simp[dP]at hc
    |_=>simp[dP]at hc
   .simp at hr
 |ni=>
  intro ln v m l m1 rest v0 v' r' cs hc hm hv hk hr;cases ln with
  |false=>cases v<;>simp[dP]at hc
  |true=>cases v with|ni=>obtain⟨rfl,_⟩:=af (aa hc);simp only[jq]at hr;obtain⟨rfl,rfl⟩:=af (aa hr);exact⟨rfl,trivial,rfl,by simp,cs,hv,by obtain rfl:=hv;rfl⟩|_=>simp[dP]at hc
 |co a r iha ihr=>
  intro ln v m l m1 rest v0 v' r' cs hc hm hv hk hr;cases ln with
  |false=>cases v<;>simp[dP]at hc
  |true=>
   cases v with
   |co x y=>
    simp only[dP]at hc;split at hc
    .rename_i l1 m2 h1;split at hc
     .rename_i l2 m3 h2;obtain⟨rfl,rfl⟩:=af (aa hc);obtain⟨x0,y0,w1,r1,w2,e1,e2,rfl⟩:=KP hr;rw[aR]at e1;obtain⟨cx1,cy,rfl,hx,hy⟩:=hv;obtain⟨rfl,g1,_,_,cs1,g2,g3⟩:=iha _ _ _ _ _ _ _ _ _ _ h1 (fun b hb=>hm b ((uJ _ _ _ _ _ _ h2).1 b hb)) hx hk.1 e1;obtain⟨rfl,k1,_,_,cs2,k2,k3⟩:=ihr _ _ _ _ _ _ _ _ _ _ h2 hm hy hk.2 e2;exact⟨rfl,⟨g1,k1⟩,rfl,by simp,_,⟨cs1,cs2,rfl,g2,k2⟩,g3.Ti k3⟩
     .simp at hc
    .simp at hc
   |_=>simp[dP]at hc
 |_=>intro ln v m l m1 rest v0 v' r' cs hc;cases ln<;>cases v<;>simp[dP]at hc
theorem PL(cx:Cx h' h'' aJ n'' mf M){jv:JV}{v:V}{m:List Bd}{l:List V}{m1:List Bd}{rest:List V}{v0 v':V}{r':List V}{x:TV}(hc:dP jv false v m=some (l,m1))(hm:∀b∈m1,b∈mf)(hv:fZ h' v x)(hk:fD n' h' v)(hr:jq aJ jv false (l++rest) v0=some (v',r')):
  r'=rest/\fD n'' h'' v'/\∃x',fZ h'' v' x'/\E5 M x' x/\∀l,x'≠.ia l:=by
 have h1:tD h' v x:=by cases v with|tp l=>cases jv<;>simp[dP]at hc;split at hc<;>rename_i hh<;>simp[sd,ll,iE]at hh;simp at hc|no=>cases jv<;>simp[dP]at hc;split at hc<;>rename_i hh<;>simp[sd,ll,iE]at hh;simp at hc|gn=>exact hv.elim|_=>exact hv
 obtain⟨cs,h2,h3,h4⟩:=h1;obtain⟨rfl,g1,g2,g3,cs',g4,g5⟩:=uI cx jv false v m l m1 rest v0 v' r' cs hc hm h2 hk hr;refine⟨rfl,g1,?_⟩;cases ha:uf v with
 |true=>obtain rfl:=h3 ha;exact⟨.agg cs',cA ⟨cs',g4,fun _=>rfl,fun e=>by rw[g2,ha]at e;cases e⟩,⟨cs,g5,rfl⟩,by simp⟩
 |false=>
  obtain⟨c,rfl,rfl⟩:=h4 ha
  match cs',g5 with
  |[],g5=>exact absurd (show[c]=[]from g5) (by simp)
  |c'::r,g5=>obtain⟨d,r2,e1,e2,e3⟩:=g5;obtain⟨rfl,rfl⟩:=cu e3;cases r with|nil=>exact⟨.c c',cA ⟨[c'],g4,fun e=>(by rw[g2,ha]at e;cases e),fun _=>⟨c',rfl,rfl⟩⟩,⟨c,e1,rfl⟩,by simp⟩|cons=>obtain⟨_,_,_,_,e⟩:=e2;simp at e
end
theorem Ky{α:Type}(G:Nat->Option α)(ks:List Nat)(hk:∀t,G t≠none->t∈ks):∃e:List (Nat×α),∀t,cm e t=G t:=by
 have key:∀ks:List Nat,∃e:List (Nat×α),∀t,cm e t=if t∈ks then G t else none:=by
  intro ks;induction ks with
  |nil=>exact⟨[],fun t=>by simp[cm]⟩
  |cons k ks ih=>
   obtain⟨e,he⟩:=ih;cases hg:G k with
   |none=>
    refine⟨e,fun t=>?_⟩;rw[he];by_cases h:t=k
    .subst h;simp[hg]
    .simp [h]
   |some x=>
    refine⟨(k,x)::e,fun t=>?_⟩;simp only[cm];by_cases h:k=t
    .subst h;simp[hg]
    .have h':(k==t)=false:=by simpa using h
     rw[h',cond_false,he];have:t≠k:=fun q=>h q.symm;simp[this]
 obtain⟨e,he⟩:=key ks;refine⟨e,fun t=>?_⟩;rw[he];split
 .rfl
 .rename_i h;cases hg:G t with|none=>rfl|some x=>exact absurd (hk t (by simp[hg])) h
theorem O1(F:Nat->Option Ob)(ks:List Nat)(hk:∀t,F t≠none->t∈ks):∃h:bC,∀t,aw h t=F t:=by obtain⟨e,he⟩:=Ky (fun t=>(F t).map some) ks fun t ht=>hk t fun e=>ht (by simp[e]);refine⟨e,fun t=>?_⟩;simp only[aw,he];cases F t<;>rfl
theorem yq{α:Type}:∀{l:List (Nat×α)}{t:Nat},cm l t≠none->t∈l.map (·.1):=by intro l t h;cases hx:cm l t with|none=>exact absurd hx h|some x=>exact bB.2 ⟨_,yp hx,rfl⟩
theorem Lw{h:bC}{t:Nat}(hl:aw h t≠none):t∈h.map (·.1):=yq fun e=>hl (by simp[aw,e])
theorem Lo{α β:Type}{ka va:Bool}{k:α->List Value}{v:β->List D}{m:Mp α β}{cs:List C}(h:some (Ob.box cs)=ym ka va k v m):False:=by cases m<;>simp[ym]at h
section
variable{h' h'':H2}{n' n'' aJ:Nat}{mf:List Bd}{M:Nat->Nat->Prop}
theorem Zl(hj:∀b∈mf,aJ+b.j<n''):Cx h' [] aJ n'' mf (fun _ _=>True):=⟨fun _ _ _ _=>trivial,hj,fun b _ i _ c' hc=>by simp[fO,cm,AU]at hc,fun b _ i _ c' hc=>by simp[fO,cm,Fb]at hc,fun b _ _ c' hc=>by simp[fO,cm,AU]at hc⟩
theorem Bv{j:Nat}{o:JO}{m:List Bd}{l:List V}{m1:List Bd}(h:MY h' j o m=some (l,m1)):(∀c∈m,c∈m1)/\(BD m->BD m1):=by
 have id1:∀{a:List V},some (a,m)=some (l,m1)->(∀c∈m,c∈m1)/\(BD m->BD m1):=fun e=>by obtain⟨_,rfl⟩:=af (aa e);exact⟨fun _ h=>h,fun h=>h⟩
 unfold MY at h;split at h
 .split at h
  .exact id1 (aO h).2
  .split at h
   .split at h
    .exact id1 h
    .simp at h
   .simp at h
  .split at h
   .split at h
    .exact id1 h
    .simp at h
   .simp at h
  .split at h
   .exact uJ _ _ _ _ _ _ (aO h).2
   .simp at h
  .split at h
   .split at h
    .exact id1 h
    .simp at h
   .simp at h
  .simp at h
 .simp at h
def AP(h':H2)(aJ:Nat)(m1:List Bd)(b:Bd):O->Prop
 |.ar t s v=>v=0/\((b.id=none/\s=.nil/\CY t=true)\/∃id ver,b.id=some id/\fO h' id=some (.ar t s ver))
 |.bx t w=>∃id v c m0 l0 m2 rest r0,b.id=some id/\fO h' id=some (.bx t v)/\dP c false v m0=some (l0,m2)/\(∀b∈m2,b∈m1)/\jq aJ c false (l0++rest) .gn=some (w,r0)/\eZ w false t=true
 |.mp k v y=>∃id,b.id=some id/\fO h' id=some (.mp k v y)
 |.rw t s ln=>ln=none/\∃id,b.id=some id/\fO h' id=some (.rw t s none)
 |_=>False
theorem JY{H1:bC}(hr:HR n' H1 h')(hj:∀b∈mf,aJ+b.j<n''){j:Nat}{o:JO}{m:List Bd}{l:List V}{m1:List Bd}{rest:List V}{o':O}{r':List V}(hc:MY h' j o m=some (l,m1))(hm:∀b∈m1,b∈mf)(hs:FL aJ o (l++rest)=some (o',r')):
  r'=rest/\∃b∈mf,b.j=j/\AP h' aJ mf b o':=by
 have hmm:=(Bv hc).1;unfold MY at hc;split at hc
 .rename_i b hb;obtain⟨hb1,hb2⟩:=zZ hb;have hbm:=hm _ (hmm _ hb1);split at hc
  .rename_i t hid;obtain⟨mo,hc⟩:=aO hc;obtain⟨rfl,_⟩:=af (aa hc);simp only[aU,bE,FL]at hs;obtain⟨_,hs⟩:=aO hs;obtain⟨rfl,rfl⟩:=af (aa hs);exact⟨rfl,b,hbm,hb2,rfl,.inl ⟨hid,rfl,mo⟩⟩
  .rename_i t id hid;split at hc
   .rename_i u s ver ho;split at hc
    .rename_i s2 hs2;obtain⟨rfl,_⟩:=af (aa hc);obtain⟨e,rfl⟩:=dl hs2;cases e;simp only[aU,bE,FL]at hs;obtain⟨_,hs⟩:=aO hs;obtain⟨rfl,rfl⟩:=af (aa hs);exact⟨rfl,b,hbm,hb2,rfl,.inr ⟨id,ver,hid,ho⟩⟩
    .simp at hc
   .simp at hc
  .rename_i t id hid;split at hc
   .rename_i u s ho;split at hc
    .rename_i s2 hs2;obtain⟨rfl,_⟩:=af (aa hc);obtain⟨e,rfl⟩:=dl hs2;cases e;simp only[aU,bE,FL]at hs;obtain⟨_,hs⟩:=aO hs;obtain⟨rfl,rfl⟩:=af (aa hs);exact⟨rfl,b,hbm,hb2,rfl,id,hid,ho⟩
    .simp at hc
   .simp at hc
  .rename_i t c id hid;split at hc
   .rename_i u v ho;obtain⟨hu,hc2⟩:=aO hc;clear hc;have hc:=hc2;clear hc2;obtain rfl:u=t:=by simpa using hu
    simp only[FL]at hs;split at hs
    .rename_i w l2 hw;obtain⟨hf,hs⟩:=aO hs;obtain⟨rfl,rfl⟩:=af (aa hs);obtain⟨_,hob,hko⟩:=hr.ob id _ ho;obtain⟨cs,_,hcs,_⟩:=hob;obtain⟨rfl,_⟩:=uI (Zl (h':=h') hj) c false v m l m1 rest .gn w l2 cs hc hm hcs hko hw;exact⟨rfl,b,hbm,hb2,id,v,c,m,l,m1,_,_,hid,ho,hc,hm,hw,hf⟩
    .simp at hs
   .simp at hc
  .rename_i k v id hid;split at hc
   .rename_i k' v' y ho;split at hc
    .rename_i y2 hy2;obtain⟨rfl,_⟩:=af (aa hc);obtain⟨e,rfl⟩:=dl hy2;cases e;simp only[aU,bE,FL]at hs;obtain⟨_,hs⟩:=aO hs;obtain⟨rfl,rfl⟩:=af (aa hs);exact⟨rfl,b,hbm,hb2,id,hid,ho⟩
    .simp at hc
   .simp at hc
  .simp at hc
 .simp at hc
theorem vD:∀(os:List JO)(j:Nat)(m:List Bd)(l:List V)(m1:List Bd),Bu h' os j m=some (l,m1)->(∀c∈m,c∈m1)/\(BD m->BD m1):=by
 intro os;induction os with
 |nil=>intro j m l m1 h;obtain⟨_,rfl⟩:=af (aa h);exact⟨fun _ h=>h,fun h=>h⟩
 |cons o os ih=>
  intro j m l m1 h;simp only[Bu]at h;split at h
  .rename_i l1 m2 h1;split at h
   .rename_i l2 m3 h2;obtain⟨_,rfl⟩:=af (aa h);obtain⟨a1,a2⟩:=Bv h1;obtain⟨c1,c2⟩:=ih _ _ _ _ h2;exact⟨fun c hc=>c1 c (a1 c hc),fun hi=>c2 (a2 hi)⟩
   .simp at h
  .simp at h
theorem GI{H1:bC}(hr:HR n' H1 h')(hj:∀b∈mf,aJ+b.j<n''):∀(os:List JO)(j:Nat)(m:List Bd)(l:List V)(m1:List Bd)(rest:List V)(hl:H2)(r':List V),Bu h' os j m=some (l,m1)->(∀b∈m1,b∈mf)->Ds aJ os j (l++rest)=some (hl,r')->
  (∀i o',cm hl i=some o'->∃o,o'=some o/\∃b∈mf,i=aJ+b.j/\AP h' aJ mf b o)/\(∀p∈hl,aJ<=p.1):=by
 intro os;induction os with
 |nil=>intro j m l m1 rest hl r' hc hm hs;obtain⟨rfl,_⟩:=af (aa hc);simp only[Ds]at hs;obtain⟨rfl,_⟩:=af (aa hs);exact⟨fun i o' h=>by simp[cm]at h,fun p hp=>by simp at hp⟩
 |cons o os ih=>
  intro j m l m1 rest hl r' hc hm hs;simp only[Bu]at hc;split at hc
  .rename_i l1 m2 h1;split at hc
   .rename_i l2 m3 h2;obtain⟨rfl,rfl⟩:=af (aa hc);simp only[Ds,aR]at hs;split at hs
    .rename_i o1 r1 ho1;split at hs
     .rename_i hl1 r2 hhl;obtain⟨rfl,rfl⟩:=af (aa hs);obtain⟨rfl,b,hb,hbj,hap⟩:=JY hr hj h1 (fun b hb=>hm b ((vD _ _ _ _ _ h2).1 b hb)) ho1;obtain⟨g1,g2⟩:=ih _ _ _ _ _ _ _ h2 hm hhl;refine⟨fun i o' h=>?_,fun p hp=>?_⟩
      .simp only[cm]at h;by_cases e:aJ+j=i
       .have e':(aJ+j==i)=true:=by simpa using e
        rw[e',cond_true]at h;exact⟨o1,(aa h).symm,b,hb,by rw[hbj,e],hap⟩
       .have e':(aJ+j==i)=false:=by simpa using e
        rw[e',cond_false]at h;exact g1 i o' h
      .rcases aN.1 hp with rfl|hp
       .exact Nat.le_add_right _ _
       .exact g2 p hp
     .simp at hs
    .simp at hs
   .simp at hc
  .simp at hc
def XE(M:Nat->Nat->Prop):Ob->Prop
 |.nst _ sl=>∀(k id len:Nat),sl[k]?=some (ly.oA id len)->M id id
 |_=>True
theorem yP{t:Ty}{l:List (Sl (El t))}{ln:Option (Nat×Nat)}{k i len:Nat}(h:(fx t l ln)[k]?=some (.oA i len)):∃m,ln=some (m,i):=by
 have no:¬(l.map (po t))[k]?=some (.oA i len):=fun h=>by
  rw[List.getElem?_map]at h;cases hx:l[k]?with
  |none=>rw[hx]at h;cases h
  |some s=>rw[hx]at h;cases s<;>cases h
 cases ln with
 |none=>exact absurd h no
 |some q=>
  obtain⟨m,j⟩:=q;simp only[fx]at h;rw[List.getElem?_set]at h;split at h
  .split at h
   .cases hg:gt l m<;>rw[hg]at h<;>cases h;exact⟨m,rfl⟩
   .cases h
  .exact absurd h no
def P3(M:Nat->Nat->Prop)(o1 o0:Ob):Prop:=(o1=o0/\(∀cs,o0≠.box cs)/\XE M o0)\/∃a c,o1=.box a/\o0=.box c/\pj M a c
theorem VV{H1:bC}(hr:HR n' H1 h')(cx:Cx h' h'' aJ n'' mf M){b:Bd}{o:O}(ha:AP h' aJ mf b o):
  ∃ob,v7 h'' o ob/\CZ n'' h'' o/\∀o1,ob=some o1->∃id o0,b.id=some id/\aw H1 id=some o0/\P3 M o1 o0:=by
 cases o with
 |ar t s v=>
  obtain⟨_,⟨_,rfl,mo⟩|⟨id,ver,hid,ho⟩⟩:=ha
  .obtain ⟨h1,h2⟩:=qR mo;exact⟨none,⟨h1,h2,fun l e=>by cases e⟩,trivial,fun o1 e=>by cases e⟩
  .obtain ⟨_,⟨h1,h2,h3⟩,_⟩:=hr.ob id _ ho;cases s with|nil=>exact⟨none,⟨h1,h2,fun l e=>by cases e⟩,trivial,fun o1 e=>by cases e⟩|mk l=>refine⟨_,⟨h1,h2,fun l' e=>by cases e;rfl⟩,trivial,fun o1 e=>⟨id,_,hid,h3 l rfl,.inl ⟨(aa e).symm,by simp,trivial⟩⟩⟩
 |rw t s ln=>obtain⟨rfl,id,hid,ho⟩:=ha;obtain⟨_,⟨h1,h2,h3⟩,_⟩:=hr.ob id _ ho;cases s with|nil=>exact⟨none,⟨h1,h2,fun l e=>by cases e⟩,trivial,fun o1 e=>by cases e⟩|mk l=>refine⟨_,⟨h1,h2,fun l' e=>by cases e;rfl⟩,trivial,fun o1 e=>⟨id,_,hid,h3 l rfl,.inl ⟨(aa e).symm,by simp,fun k i len hk=>?_⟩⟩⟩;obtain⟨m,e2⟩:=yP hk;cases e2
 |bx t w=>obtain⟨id,v,c,m0,l0,m2,rest,r0,hid,ho,hc,hm,hs,hf⟩:=ha;obtain⟨_,⟨cs,h1,h2,h3⟩,hk⟩:=hr.ob id _ ho;obtain⟨rfl,g1,_,_,cs',g2,g3⟩:=uI cx c false v m0 l0 m2 rest .gn w r0 cs hc hm h2 hk hs;exact⟨some (.box cs'),⟨cs',rfl,g2,hf⟩,g1,fun o1 e=>⟨id,_,hid,h1,.inr ⟨cs',cs,(aa e).symm,rfl,g3⟩⟩⟩
 |mp k v y=>
  obtain⟨id,hid,ho⟩:=ha;obtain⟨_,⟨h1,h2,h3⟩,_⟩:=hr.ob id _ ho;refine⟨aw H1 id,⟨h1,h2,h3⟩,trivial,fun o1 e=>⟨id,o1,hid,e,.inl ⟨rfl,fun cs e2=>?_,?_⟩⟩⟩
  .rw [e2]at e;rw[e]at h3;exact Lo h3
  .rw [e]at h3;simp only[ym,bM]at h3;rw[h3];trivial
 |_=>exact ha.elim
theorem zW{s:S2}:∀(vs:List (Nat×JV))(m:List Bd)(l:List V)(m1:List Bd),Bt s vs m=some (l,m1)->(∀c∈m,c∈m1)/\(BD m->BD m1):=by
 intro vs;induction vs with
 |nil=>intro m l m1 h;obtain⟨_,rfl⟩:=af (aa h);exact⟨fun _ h=>h,fun h=>h⟩
 |cons p vs ih=>
  obtain⟨t,a⟩:=p;intro m l m1 h;simp only[Bt]at h;split at h
  .split at h
   .rename_i l1 m2 h1;split at h
    .rename_i l2 m3 h2;obtain⟨_,rfl⟩:=af (aa h);obtain⟨a1,a2⟩:=uJ _ _ _ _ _ _ h1;obtain⟨c1,c2⟩:=ih _ _ _ h2;exact⟨fun c hc=>c1 c (a1 c hc),fun hi=>c2 (a2 hi)⟩
    .simp at h
   .simp at h
  .simp at h
theorem zV{s1:St}{s:S2}(hr:R2 s1 s)(cx:Cx s.heap h'' aJ n'' mf M):∀(vs:List (Nat×JV))(m:List Bd)(l:List V)(m1:List Bd)(rest:List V)(e:List (Nat×V))(r':List V),Bt s vs m=some (l,m1)->(∀b∈m1,b∈mf)->Hl aJ vs (l++rest)=some (e,r')->
  r'=rest/\∀t v,cm e t=some v->fD n'' h'' v/\∃x x',cm s1.dE t=some x/\fZ h'' v x'/\E5 M x' x/\∀l,x'≠.ia l:=by
 intro vs;induction vs with
 |nil=>intro m l m1 rest e r' hc hm hs;obtain⟨rfl,_⟩:=af (aa hc);obtain⟨rfl,rfl⟩:=af (aa hs);exact⟨rfl,fun t v h=>by simp[cm]at h⟩
 |cons p vs ih=>
  obtain⟨t,a⟩:=p;intro m l m1 rest e r' hc hm hs;simp only[Bt]at hc;split at hc
  .rename_i v hv;split at hc
   .rename_i l1 m2 h1;split at hc
    .rename_i l2 m3 h2;obtain⟨rfl,rfl⟩:=af (aa hc);simp only[Hl,aR]at hs;split at hs
     .rename_i w r1 hw;split at hs
      .rename_i e1 r2 he1;obtain⟨rfl,rfl⟩:=af (aa hs);simp only[Ke]at hv;split at hv
       .rename_i v2 hv2;obtain⟨hal,hv⟩:=aO hv;obtain rfl:=aa hv;obtain⟨hk,hx⟩:=hr.dE t _ hv2;obtain⟨x,hx1,hx2⟩:=hx (.inl hal);obtain⟨rfl,g1,x',g2,g3,g4⟩:=PL cx h1 (fun b hb=>hm b ((zW _ _ _ _ h2).1 b hb)) hx2 hk hw;obtain⟨rfl,k1⟩:=ih _ _ _ _ _ _ h2 hm he1;refine⟨rfl,fun t' v' h=>?_⟩;simp only[cm]at h;by_cases e:t=t'
        .subst e;have e':(t==t)=true:=by simp
         rw[e',cond_true]at h;obtain rfl:=aa h;exact⟨g1,x,x',hx1,g2,g3,g4⟩
        .have e':(t==t')=false:=by simpa using e
         rw[e',cond_false]at h;exact k1 t' v' h
       .simp at hv
      .simp at hs
     .simp at hs
    .simp at hc
   .simp at hc
  .simp at hc
theorem xo{h:H2}:∀(gs:JV)(g0 g:V)(m:List Bd)(l:List V)(m1:List Bd),qm h gs g0 g m=some (l,m1)->(∀c∈m,c∈m1)/\(BD m->BD m1):=by
 intro gs;induction gs with
 |sm=>intro g0 g m l m1 h;simp only[qm]at h;obtain⟨_,h⟩:=aO h;obtain⟨_,rfl⟩:=af (aa h);exact⟨fun _ h=>h,fun h=>h⟩
 |ni=>intro g0 g m l m1 h;cases g0<;>cases g<;>simp[qm]at h;obtain⟨_,rfl⟩:=h;exact⟨fun _ h=>h,fun h=>h⟩
 |co a r _ ih=>
  intro g0 g m l m1 hc;cases g0 with
  |co x0 y0=>
   cases g with
   |co x y=>
    have Fc:(bif iU h x then(match dP a false x m with|some (l,m)=>(match qm h r y0 y m with|some (l',m)=>some (l++l',m)|none=>none)|none=>none)else none)=some (l,m1)->(∀c∈m,c∈m1)/\(BD m->BD m1):=by
     intro hc;obtain⟨_,hc⟩:=aO hc;split at hc
     .rename_i l1 m2 h1;split at hc
      .rename_i l2 m3 h2;obtain⟨_,rfl⟩:=af (aa hc);obtain⟨a1,a2⟩:=uJ _ _ _ _ _ _ h1;obtain⟨c1,c2⟩:=ih _ _ _ _ _ h2;exact⟨fun c hc=>c1 c (a1 c hc),fun hi=>c2 (a2 hi)⟩
      .simp at hc
     .simp at hc
    cases a with|sm=>exact ih _ _ _ _ _ (aO (show(bif sT x0 x then qm h r y0 y m else none)=_ from hc)).2|gn=>exact ih _ _ _ _ _ (show qm h r y0 y m=_ from hc)|_=>exact Fc hc
   |_=>simp[qm]at hc
  |_=>simp[qm]at hc
 |_=>intro g0 g m l m1 h;simp[qm]at h
def Nl(M:Nat->Nat->Prop):List C->List C->Prop
 |[],m=>m=[]
 |c::l,m=>∃d r,(c=sU\/tn M c d)/\Nl M l r/\m=d::r
theorem Nl.len:∀{l m:List C},Nl M l m->l.length=m.length
 |[],m,h=>by obtain rfl:=h;rfl
 |c::l,m,h=>by obtain⟨d,r,_,h2,rfl⟩:=h;simp[Nl.len h2]
theorem Nl.get:∀{l m:List C},Nl M l m->∀(i:Nat)(c:C),l[i]?=some c->c=sU\/∃d,m[i]?=some d/\tn M c d
 |[],m,h,i,c,hi=>by simp at hi
 |c::l,m,h,i,c',hi=>by
  obtain⟨d,r,h1,h2,rfl⟩:=h;cases i with
  |zero=>
   obtain rfl:c=c':=by simpa using hi
   exact h1.imp id fun h=>⟨d,rfl,h⟩
  |succ i=>exact(Nl.get h2 i c' (by simpa using hi)).imp id fun⟨d,h3,h4⟩=>⟨d,by simpa using h3,h4⟩
theorem Dk(hlow:∀i,i<aJ->fO h'' i≠none->fO h'' i=fO h' i)(hM:∀i,i<aJ->M i i){x0 x:V}{c:C}{hz:H2}(hs:sT x0 x=true)(mo:fD aJ hz x0)(hx:iU h' x=true->fG h' x [c]):
  ∃c',(iU h'' x0=true->fG h'' x0 [c'])/\(c'=sU\/tn M c' c):=by
 by_cases ha:iU h'' x0=true
 case neg=>exact⟨sU,fun h=>absurd h ha,.inl rfl⟩
 cases x0<;>cases x<;>first|(simp[sT]at hs;done)|skip
 case nl.nl k k'=>
  obtain rfl:k=k':=by simpa[sT]using hs
  have:fG h' (.nl k) [c]:=hx rfl;obtain rfl:=fN.1 (show[c]=[DZ k]from this);exact⟨DZ k,fun _=>rfl,.inr rfl⟩
 case so.so i i'=>
  obtain rfl:i=i':=by simpa[sT]using hs
  have hi:i<aJ:=mo;have hne:fO h'' i≠none:=fun e=>by simp[iU,e]at ha
  have e:=hlow i hi hne;have ha':iU h' (.so i)=true:=by simp only[iU]at ha|-;rw[<-e];exact ha
  obtain⟨c2,e2,h2,h3⟩:=hx ha';refine⟨c,fun _=>⟨c2,e2,fun c' hc'=>h2 c' (by rw[<-e];exact hc'),h3⟩,.inr (tn.ez _ fun j hj=>?_)⟩;obtain rfl:=fN.1 e2;rw[h3 j hj];exact hM i hi
 case sr.sr i i'=>
  obtain rfl:i=i':=by simpa[sT]using hs
  have hi:i<aJ:=mo;have hne:fO h'' i≠none:=fun e=>by simp[iU,e]at ha
  have e:=hlow i hi hne;have ha':iU h' (.sr i)=true:=by simp only[iU]at ha|-;rw[<-e];exact ha
  obtain⟨c2,e2,h2,h3⟩:=hx ha';refine⟨c,fun _=>⟨c2,e2,fun c' hc'=>h2 c' (by rw[<-e];exact hc'),h3⟩,.inr (tn.ez _ fun j hj=>?_)⟩;obtain rfl:=fN.1 e2;rw[h3 j hj];exact hM i hi
 case op.op i t p i' t' p'=>
  have hp:i=i'/\t=t'/\p=[]/\p'=[]:=by
   cases p with
   |cons=>cases p'<;>simp[sT]at hs
   |nil=>cases p' with|cons=>simp[sT]at hs|nil=>simpa[sT]using hs
  obtain⟨rfl,rfl,rfl,rfl⟩:=hp;have hi:i<aJ:=mo.1;have hne:fO h'' i≠none:=fun e=>by simp[iU,e]at ha
  have e:=hlow i hi hne;have ha':iU h' (.op i t [])=true:=by simp only[iU]at ha|-;rw[<-e];exact ha
  have h2:=hx ha';obtain rfl:=fN.1 (show[c]=[C.op i (nw t [])]from h2);exact⟨_,fun _=>rfl,.inr ⟨i,hM i hi,rfl⟩⟩
 case gn.gn=>simp[iU]at ha
theorem FG(hlow:∀i,i<aJ->fO h'' i≠none->fO h'' i=fO h' i)(hM:∀i,i<aJ->M i i){hz:H2}:∀(g0 g:V)(cs:List C),yS g0 g=true->fD aJ hz g0->Kg h' g cs->∃cs',Kg h'' g0 cs'/\Nl M cs' cs:=by
 intro g0;induction g0 with
 |ni=>intro g cs hs _ hg;cases g<;>simp[yS]at hs;obtain rfl:=hg;exact⟨[],rfl,rfl⟩
 |co x0 y0 _ ih=>intro g cs hs hk hg;cases g with|co x y=>simp only[yS,ak]at hs;obtain⟨c,m,rfl,h1,h2⟩:=hg;obtain⟨c',h3,h4⟩:=Dk (M:=M) hlow hM hs.1 hk.1 h1;obtain⟨cs',h5,h6⟩:=ih y m hs.2 hk.2 h2;exact⟨c'::cs',⟨c',cs',rfl,h3,h5⟩,c,m,h4,h6,rfl⟩|_=>simp[yS]at hs
 |_=>intro g cs hs;cases g<;>simp[yS]at hs
theorem Uh{b:Nat}{a r:JV}{l:List V}{x0 y0 v':V}{r':List V}(h:jq b (.co a r) true l (.co x0 y0)=some (v',r')):∃v l1 w,jq b a false l x0=some (v,l1)/\jq b r true l1 y0=some (w,r')/\v'=.co v w:=by
 simp only[jq]at h;split at h
 .rename_i v l1 h1;split at h
  .rename_i w l2 h2;obtain⟨rfl,rfl⟩:=af (aa h);exact⟨v,l1,w,h1,h2,rfl⟩
  .simp at h
 .simp at h
theorem Bx(cx:Cx h' h'' aJ n'' mf M)(hlow:∀i,i<aJ->fO h'' i≠none->fO h'' i=fO h' i)(hM:∀i,i<aJ->M i i){hz:H2}(eU:∀v,fD aJ hz v->fD n'' h'' v):∀(gs:JV)(g0 g:V)(m:List Bd)(l:List V)(m1:List Bd)(rest:List V)(g':V)(r':List V)(cs:List C),
  qm h' gs g0 g m=some (l,m1)->(∀b∈m1,b∈mf)->fD aJ hz g0->Kg h' g cs->fD n' h' g->jq aJ gs true (l++rest) g0=some (g',r')->r'=rest/\fD n'' h'' g'/\∃cs',Kg h'' g' cs'/\Nl M cs' cs:=by
 intro gs;induction gs with
 |sm=>intro g0 g m l m1 rest g' r' cs hc hm hk0 hg hk hs;simp only[qm]at hc;obtain⟨hsm,hc⟩:=aO hc;obtain⟨rfl,_⟩:=af (aa hc);simp only[jq,bE]at hs;obtain⟨rfl,rfl⟩:=af (aa hs);exact⟨rfl,eU _ hk0,FG hlow hM g0 g cs hsm hk0 hg⟩
 |ni=>intro g0 g m l m1 rest g' r' cs hc hm hk0 hg hk hs;cases g0<;>cases g<;>simp[qm]at hc;obtain⟨rfl,_⟩:=hc;simp only[jq,bE]at hs;obtain⟨rfl,rfl⟩:=af (aa hs);obtain rfl:=hg;exact⟨rfl,trivial,[],rfl,rfl⟩
 |co a r _ ih=>
  intro g0 g m l m1 rest g' r' cs hc hm hk0 hg hk hs;cases g0 with
  |co x0 y0=>
   cases g with
   |co x y=>
    obtain⟨c,cs,rfl,hx,hg⟩:=hg;obtain⟨v,l1,w,e1,e2,rfl⟩:=Uh hs
    have Fc:(bif iU h' x then(match dP a false x m with|some (l,m)=>(match qm h' r y0 y m with|some (l',m)=>some (l++l',m)|none=>none)|none=>none)else none)=some (l,m1)->r'=rest/\fD n'' h'' (.co v w)/\∃cs',Kg h'' (.co v w) cs'/\Nl M cs' (c::cs):=by
     intro hc;obtain⟨ha,hc⟩:=aO hc;split at hc
     .rename_i l2 m2 h1;split at hc
      .rename_i l3 m3 h2;obtain⟨rfl,rfl⟩:=af (aa hc);rw[aR]at e1;obtain⟨rfl,g1,_,_,cs1,g2,g3⟩:=uI cx a false x m l2 m2 _ x0 v l1 [c] h1 (fun b hb=>hm b ((xo _ _ _ _ _ _ h2).1 b hb)) (hx ha) hk.1 e1;obtain⟨rfl,k1,cs2,k2,k3⟩:=ih _ _ _ _ _ _ _ _ _ h2 hm hk0.2 hg hk.2 e2
       match cs1,g3 with
       |[],g3=>exact absurd (show[c]=[]from g3) (by simp)
       |c1::t,g3=>obtain⟨d,r2,q1,q2,q3⟩:=g3;obtain⟨rfl,rfl⟩:=cu q3;cases t with|nil=>exact⟨rfl,⟨g1,k1⟩,c1::cs2,⟨c1,cs2,rfl,fun _=>g2,k2⟩,c,cs,.inr q1,k3,rfl⟩|cons=>obtain⟨_,_,_,_,e⟩:=q2;simp at e
      .simp at hc
     .simp at hc
    cases a with|sm=>obtain⟨hsm,hc⟩:=aO (show(bif sT x0 x then qm h' r y0 y m else none)=_ from hc);simp only[jq]at e1;obtain⟨rfl,rfl⟩:=af (aa e1);obtain⟨rfl,k1,cs2,k2,k3⟩:=ih _ _ _ _ _ _ _ _ _ hc hm hk0.2 hg hk.2 e2;obtain⟨c',h3,h4⟩:=Dk (M:=M) hlow hM hsm hk0.1 hx;exact⟨rfl,⟨eU _ hk0.1,k1⟩,c'::cs2,⟨c',cs2,rfl,h3,k2⟩,c,cs,h4,k3,rfl⟩|gn=>have hc:qm h' r y0 y m=some (l,m1):=hc;simp only[jq]at e1;obtain⟨rfl,rfl⟩:=af (aa e1);obtain⟨rfl,k1,cs2,k2,k3⟩:=ih _ _ _ _ _ _ _ _ _ hc hm hk0.2 hg hk.2 e2;exact⟨rfl,⟨trivial,k1⟩,sU::cs2,⟨sU,cs2,rfl,fun h=>by simp[iU]at h,k2⟩,c,cs,.inl rfl,k3,rfl⟩|_=>exact Fc hc
   |_=>simp[qm]at hc
  |_=>simp[qm]at hc
 |_=>intro g0 g m l m1 rest g' r' cs hc;simp[qm]at hc
end
def HG(aJ:Nat):Ob->Prop
 |.box cs=>∀i∈fo.nu cs,i<aJ
 |.nst _ sl=>∀(k i len:Nat),sl[k]?=some (ly.oA i len)->i<aJ
 |_=>True
theorem OE{h:H2}{o:O}{aJ:Nat}{b:Option Ob}{F:Option Ob}(ho:v7 h o b)(hk:CZ aJ h o)(hF:(∀x,b=some x->HG aJ x->F=b)/\(b=none->F=none)):∀g,v7 g o b->v7 g o F:=by
 intro g hg
 have ez:(b=none\/∃x,b=some x/\HG aJ x)->v7 g o F:=by
  rintro(e|⟨x,e,hx⟩)
  .rw [hF.2 e,<-e];exact hg
  .rw [hF.1 x e hx];exact hg
 cases o with
 |ar t s v=>cases s with|nil=>exact⟨hg.1,hg.2.1,fun l e=>by cases e⟩|mk l=>exact ez (.inr ⟨_,ho.2.2 l rfl,trivial⟩)
 |im t s v=>cases s with|nil=>exact⟨hg.1,hg.2.1,fun l e=>by cases e⟩|mk l=>exact ez (.inr ⟨_,ho.2.2 l rfl,trivial⟩)
 |bx t c=>obtain⟨cs,h1,h2,_⟩:=ho;exact ez (.inr ⟨_,h1,fun i hi=>(ES h2 hk i hi).1⟩)
 |ib t v=>exact ez (.inr ⟨_,ho.2,trivial⟩)
 |rw t s ln=>cases s with|nil=>exact⟨hg.1,hg.2.1,fun l e=>by cases e⟩|mk l=>refine ez (.inr ⟨_,ho.2.2 l rfl,fun k i len h=>?_⟩);obtain⟨m,rfl⟩:=yP h;exact hk.2.1
 |mp k v m=>exact ez (.inr ⟨_,ho.2.2,trivial⟩)
open Classical in
theorem Od{s1:St}{aJ n'':Nat}{mf:List Bd}{e':iL}{h':bC}{g':List C}(hi:BD mf)(hn:∀b∈mf,aJ+b.j<n'')(hbn:aJ<=n'')
  (he:∀t x',cm e' t=some x'->∃x,cm s1.dE t=some x/\E5 (fun i j=>(i=j/\j<aJ)\/∃b∈mf,b.id=some j/\i=aJ+b.j) x' x)
  (hh:∀i o',aw h' i=some o'->∃j o,((i=j/\j<aJ)\/∃b∈mf,b.id=some j/\i=aJ+b.j)/\aw s1.heap j=some o/\P3 (fun i j=>(i=j/\j<aJ)\/∃b∈mf,b.id=some j/\i=aJ+b.j) o' o/\∀b∈mf,b.id=some j->i=aJ+b.j)
  (hg:Nl (fun i j=>(i=j/\j<aJ)\/∃b∈mf,b.id=some j/\i=aJ+b.j) g' s1.gh):Sub s1 ⟨e',h',n'',g'⟩:=by
 intro S K w0 Kn φ gv nt a w hR;let Kn':Nat->Prop:=fun i=>(i<aJ/\Kn i)\/∃b∈mf,i=aJ+b.j/\∃id,b.id=some id/\Kn id;let φ':Nat->gV:=fun i=>if i<aJ then φ i else match M7 mf (i-aJ)with|some ⟨_,some id⟩=>φ id|_=>default
 have hbd:∀b∈mf,M7 mf (aJ+b.j-aJ)=some b:=by intro b hb;rw[Nat.add_sub_cancel_left];cases h:M7 mf b.j with|none=>exact absurd rfl (EX h b hb)|some c=>obtain⟨h1,h2⟩:=zZ h;rw[(hi c h1 b hb).1 h2]
 have hM:∀i j,((i=j/\j<aJ)\/∃b∈mf,b.id=some j/\i=aJ+b.j)->Kn j->Kn' i/\φ' i=φ j:=by
  rintro i j (⟨rfl,hlt⟩|⟨b,hb,hid,rfl⟩) hk
  .exact ⟨.inl ⟨hlt,hk⟩,if_pos hlt⟩
  .refine ⟨.inr ⟨b,hb,rfl,j,hid,hk⟩,?_⟩;show(if aJ+b.j<aJ then _ else _)=_;rw[if_neg (by omega),hbd b hb];obtain⟨bj,bid⟩:=b;simp only at hid;subst hid;rfl
 have hun:∀i j i0,((i=i0/\i0<aJ)\/∃b∈mf,b.id=some i0/\i=aJ+b.j)->(∀b∈mf,b.id=some i0->i=aJ+b.j)->((j=i0/\i0<aJ)\/∃b∈mf,b.id=some i0/\j=aJ+b.j)->(∀b∈mf,b.id=some i0->j=aJ+b.j)->i=j:=by
  rintro i j i0 (⟨rfl,_⟩|⟨b,hb,hid,rfl⟩) hu1 h2 hu2
  .rcases h2 with⟨rfl,_⟩|⟨b,hb,hid,rfl⟩
   .rfl
   .exact hu1 b hb hid
  .exact (hu2 b hb hid).symm
 refine⟨S,Kn',φ',gZ.refl S w,⟨hR.inv.vJ,hR.inv.sk,hR.inv.od,fun i o ho=>?_,fun i j x y hx hy ox oy hne=>?_,hR.inv.Cj,?_⟩,fun t x hx=>?_,hR.size,hR.defers,fun j hj hk=>?_,fun i c v hc hv=>?_⟩
 .obtain ⟨j,o0,hij,ho0,htr,_⟩:=hh i o ho;obtain⟨hk,hro⟩:=hR.inv.iM j o0 ho0;obtain⟨hk',e⟩:=hM i j hij hk;refine⟨hk',?_⟩;rw[e];rcases htr with⟨rfl,hnb⟩|⟨a',c',rfl,rfl,htl⟩
  .cases hro with
   |nst hsz hl hS hK hown hext hfit hr hv=>
    refine .nst hsz hl hS hK hown hext hfit (fun q s hs=>?_) hv;obtain⟨v,h1,h2⟩:=hr q s hs;refine⟨v,h1,?_⟩;cases h2 with
    |nil=>exact .nil
    |bD h3 h4 h5=>exact .bD h3 h4 h5
    |oA h3=>exact .oA (tn.rc hM _ _ v (tn.ez _ fun q' hq'=>by
      obtain rfl:q'=_:=by simpa[fo]using hq'
      exact hnb.2 _ _ _ hs) h3)
   |aK hsz hl hS hK hown hext hfit hr hv=>exact .aK hsz hl hS hK hown hext hfit hr hv
   |p_ hsz hl hS hr=>exact .p_ hsz hl hS hr
   |oW hb hS hr=>exact .oW hb hS hr
   |box=>exact absurd rfl (hnb.1 _)
   |map hS hK hmp hlen hr=>exact .map hS hK hmp hlen hr
   |cap hsz hl hS hK hown hext hfit hr hv hc=>exact .cap hsz hl hS hK hown hext hfit hr hv hc
  .cases hro with|box hb hS hK hown hlen hr=>exact .box hb hS hK hown ((pj.len htl).trans hlen) (pj.rc hM a' c' _ htl hr)
 .obtain ⟨i0,x0,hi0,hx0,htx,huq⟩:=hh i x hx;obtain⟨j0,y0,hj0,hy0,hty,huq2⟩:=hh j y hy
  have hox:cW x0=true:=by
   rcases htx with⟨rfl,_⟩|⟨a',c',rfl,rfl,_⟩
   .exact ox
   .rfl
  have hoy:cW y0=true:=by
   rcases hty with⟨rfl,_⟩|⟨a',c',rfl,rfl,_⟩
   .exact oy
   .rfl
  rw[(hM i i0 hi0 (hR.inv.iM i0 x0 hx0).1).2,(hM j j0 hj0 (hR.inv.iM j0 y0 hy0).1).2];refine hR.inv.o9 i0 j0 x0 y0 hx0 hy0 hox hoy fun e=>hne ?_;subst e;exact hun i j i0 hi0 huq hj0 huq2
 .intro i sz sl k x hi hp;obtain⟨i0,x0,hi0,hx0,htx,huq⟩:=hh i _ hi;rcases htx with⟨rfl,_⟩|⟨a',c',e,_⟩
  case inr=>cases e
  rw[(hM i i0 hi0 (hR.inv.iM i0 _ hx0).1).2]at hp;obtain⟨p1,p2⟩:=hR.inv.xC i0 sz sl k x hx0 hp;refine⟨fun j b hj hb=>?_,fun j sz' sl' k' hj hp'=>?_⟩
  .obtain ⟨j0,y0,hj0,hy0,hty,_⟩:=hh j b hj
   have hoy:cW y0=true:=by
    rcases hty with⟨rfl,_⟩|⟨a',c',rfl,rfl,_⟩
    .exact hb
    .rfl
   rw[(hM j j0 hj0 (hR.inv.iM j0 y0 hy0).1).2];exact p1 j0 y0 hy0 hoy
  .obtain ⟨j0,y0,hj0,hy0,hty,huq2⟩:=hh j _ hj;rcases hty with⟨rfl,_⟩|⟨a',c',e,_⟩
   case inr=>cases e
   rw[(hM j j0 hj0 (hR.inv.iM j0 _ hy0).1).2]at hp';obtain⟨e1,e2⟩:=p2 j0 sz' sl' k' hy0 hp';subst e1;exact⟨hun j i j0 hj0 huq2 hi0 huq,e2⟩
 .obtain ⟨x0,h1,h2⟩:=he t x hx;exact E5.rc hM x x0 _ h2 (hR.dE t x0 h1)
 .have hj:n''<=j:=hj;rcases hk with⟨hlt,_⟩|⟨b,hb,rfl,_⟩
  .omega
  .have:=hn b hb;omega
 .rcases hg.get i c hc with e|⟨d,h1,h2⟩
  .exact .inl e
  .rcases hR.gh i d v h1 hv with rfl|hr
   .left;cases c with
    |pp f l=>obtain⟨m,h3,h4⟩:=h2;simp only[sU,C.pp.injEq]at h4;obtain⟨rfl,rfl⟩:=h4;cases l with|nil=>rfl|cons x l=>obtain⟨_,_,_,_,e⟩:=h3;simp at e
    |d x=>exact absurd (show sU=C.d x from h2) (by simp[sU])
    |_=>obtain⟨_,_,e⟩:=h2;simp[sU]at e
   .exact .inr (tn.rc hM c d v h2 hr)
theorem En{α:Type}{l:List (Nat×α)}{t:Nat}(h:∀p∈l,p.1≠t):cm l t=none:=by cases hx:cm l t with|none=>rfl|some x=>exact absurd rfl (h _ (yp hx))
theorem R9{ds:List Nat}{t:Nat}:cm (ds.map fun t=>(t,V.gn)) t=if t∈ds then some .gn else none:=by
 induction ds with
 |nil=>rfl
 |cons d ds ih=>
  simp only[aq,cm,ih];by_cases e:d=t
  .subst e;simp
  .have e':(d==t)=false:=by simpa using e
   have:t≠d:=fun q=>e q.symm;simp[e',this]
theorem Vx{kl:List Nat}{h:H2}{i:Nat}:fO (kl.map (fun i=>(i,none))++h) i=if i∈kl then none else fO h i:=by
 induction kl with
 |nil=>rfl
 |cons k kl ih=>
  rw[aq,aU,du,ih];by_cases e:k=i
  .subst e;simp
  .have:i≠k:=fun q=>e q.symm;simp[e,this]
open Classical in
theorem SI{j:J}{ds w:List Nat}{s1 s1':St}{s0 s' s'':S2}{l:List V}(hr0:R2 s1 s0)(hr:R2 s1' s')(hf:xP ds w s1 s1' s0 s')(hw:∀i∈w,s0.next<=i\/i∈j.kl)(hc:Bw j s0 s'=some l)(hs:vp j ds s0 l=some s''):
  ∃s1'' w',Sub s1' s1''/\R2 s1'' s''/\s''.wo=w'++s0.wo/\xP ds w' s1 s1'' s0 s''/\∀i∈w',s0.next<=i\/i∈j.kl:=by
 unfold Bw at hc;split at hc
 case h_2=>simp at hc
 rename_i l1 m1 hvs;split at hc
 case h_2=>simp at hc
 rename_i l2 m2 hgs;split at hc
 case h_2=>simp at hc
 rename_i l3 mf hos;obtain⟨hchk,hc⟩:=aO hc;obtain rfl:=aa hc;simp only[ak,a_]at hchk;obtain⟨_,hbm⟩:=hchk;unfold vp at hs;split at hs
 case h_2=>simp at hs
 rename_i e r1 hev;split at hs
 case h_2=>simp at hs
 rename_i g' r2 hgv;split at hs
 case h_2=>simp at hs
 rename_i hl r3 hov;obtain rfl:=aa hs
 -- the bindings
 have hm12:=(xo _ _ _ _ _ _ hgs).1;have hm2f:=(vD _ _ _ _ _ hos).1;have hinj:BD mf:=(vD _ _ _ _ _ hos).2 ((xo _ _ _ _ _ _ hgs).2 ((zW _ _ _ _ hvs).2 (fun b hb=>by simp at hb)))
 have hbj:∀b∈mf,s0.next+b.j<s0.next+j.os.length:=fun b hb=>by
  have:=(hbm b hb).1;have:b.j<j.os.length:=by simpa[Nat.blt_eq]using this
  omega
 have hbid:∀b∈mf,∀i,b.id=some i->s0.next<=i\/i∈j.kl:=fun b hb i hid=>by have:=(hbm b hb).2;rw[hid]at this;simpa[Nat.ble_eq]using this
 -- what is left of the rows
 have hx0:=Zl (h':=s'.heap) hbj;obtain⟨rfl,_⟩:=zV hr hx0 j.vs [] l1 m1 (l2++l3) e r1 hvs (fun b hb=>hm2f b (hm12 b hb)) hev;have hle:s0.next<=s0.next+j.os.length:=Nat.le_add_right _ _;have hst0:jO s0.next s0.heap []:=⟨fun i o _ ho=>by simp[fO,cm]at ho⟩
 have hrg:r2=l3:=(Bx (n':=s'.next) (hz:=s0.heap) hx0 (fun i _ h=>absurd rfl h) (fun _ _=>trivial) (fun v hv=>hO hle hst0 hv) j.gs s0.gh s'.gh m1 l2 m2 l3 g' r2 s1'.gh hgs hm2f hr0.gh.2 hr.gh.1 hr.gh.2 hgv).1;subst hrg;obtain⟨hap,hge⟩:=GI hr.hr hbj j.os 0 m2 r2 mf [] hl r3 hos (fun b hb=>hb) (by rw[List.append_nil];exact hov);clear hx0
 -- the heap
 generalize hh2:hl++j.kl.map (fun i=>(i,none))++s0.heap=h''
 have hfo:∀i,fO h'' i=match cm hl i with|some o=>o|none=>if i∈j.kl then none else fO s0.heap i:=fun i=>by
  rw[<-hh2,aR];have:fO (hl++(j.kl.map (fun i=>(i,none))++s0.heap)) i=match cm hl i with|some o=>o|none=>fO (j.kl.map (fun i=>(i,none))++s0.heap) i:=by simp only[fO,ic hl];cases cm hl i<;>rfl
  rw[this,Vx]
 have hhl:∀i,i<s0.next->cm hl i=none:=fun i hi=>En fun p hp e=>by have:=hge p hp;omega
 have hfl:∀i,i<s0.next->fO h'' i=if i∈j.kl then none else fO s0.heap i:=fun i hi=>by rw[hfo,hhl i hi]
 have hwk:∀i,i<s0.next->i∉j.kl->i∉w:=fun i hi hk hm=>by
  rcases hw i hm with h|h
  .omega
  .exact hk h
 have eU:jO s0.next s0.heap h'':=⟨fun i o hi ho=>by
  rw[hfl i hi]at ho;split at ho
  .simp at ho
  .exact .inl ⟨o,ho,sX.refl _⟩⟩
 have hnb:∀i,i<s0.next->fO s0.heap i=none->fO h'' i=none:=fun i hi h=>by
  rw[hfl i hi];split
  .rfl
  .exact h
 have hlow:∀i,i<s0.next->fO h'' i≠none->fO h'' i=fO s'.heap i:=fun i hi h=>by
  rw[hfl i hi]at h|-;split at h
  .exact absurd rfl h
  .rename_i hk;rw[if_neg hk,(hf.ob i hi (hwk i hi hk)).1]
 generalize hMd:(fun(i j:Nat)=>(i=j/\j<s0.next)\/∃b∈mf,b.id=some j/\i=s0.next+b.j)=M;have hM1:∀i,i<s0.next->M i i:=fun i hi=>by rw[<-hMd];exact .inl ⟨rfl,hi⟩
 have hnew:∀b∈mf,∀o,fO h'' (s0.next+b.j)=some o->AP s'.heap s0.next mf b o:=fun b hb o ho=>by
  rw[hfo]at ho;split at ho
  .rename_i o' hx;obtain⟨o2,rfl,b2,hb2,e2,ha⟩:=hap _ _ hx;obtain rfl:=aa ho;rw[(hinj b hb b2 hb2).1 (by omega)];exact ha
  .split at ho
   .simp at ho
   .have:=(hr0.hr.ob _ _ ho).1;omega
 have cx:Cx s'.heap h'' s0.next (s0.next+j.os.length) mf M:=by
  refine⟨fun b hb i hid=>by rw[<-hMd];exact .inr ⟨b,hb,hid,rfl⟩,hbj,fun b hb i hid c' hc'=>?_,fun b hb i hid c' hc'=>?_,fun b hb hid c' hc'=>?_⟩
  .cases ho:fO h'' (s0.next+b.j)with
   |none=>rw[ho]at hc';simp[AU]at hc'
   |some o=>
    rw[ho]at hc';have ha:=hnew b hb o ho;cases o with
    |ar t s v=>
     obtain⟨_,⟨h1,_⟩|⟨id,ver,h1,h2⟩⟩:=ha
     .rw [hid]at h1;cases h1
     .rw [hid]at h1;obtain rfl:=aa h1;exact⟨t,s,(aa hc').symm,mS (.inl h2)⟩
    |im=>exact ha.elim
    |_=>simp[AU]at hc'
  .cases ho:fO h'' (s0.next+b.j)with
   |none=>rw[ho]at hc';simp[Fb]at hc'
   |some o=>rw[ho]at hc';have ha:=hnew b hb o ho;cases o with|rw t s ln=>obtain⟨_,id,h1,h2⟩:=ha;rw[hid]at h1;obtain rfl:=aa h1;exact⟨t,s,(aa hc').symm,tH h2⟩|_=>simp[Fb]at hc'
  .cases ho:fO h'' (s0.next+b.j)with
   |none=>rw[ho]at hc';simp[AU]at hc'
   |some o=>
    rw[ho]at hc';have ha:=hnew b hb o ho;cases o with
    |ar t s v=>
     obtain⟨_,⟨_,rfl,_⟩|⟨id,ver,h1,_⟩⟩:=ha
     .rw [<-aa hc'];rfl
     .rw [hid]at h1;cases h1
    |im=>exact ha.elim
    |_=>simp[AU]at hc'
 have hkv:∀v,fD s0.next s0.heap v->fD (s0.next+j.os.length) h'' v:=fun v hv=>hO hle eU hv;obtain⟨_,hE0⟩:=zV hr cx j.vs [] l1 m1 (l2++r2) e (l2++r2) hvs (fun b hb=>hm2f b (hm12 b hb)) hev;obtain⟨_,hgk,cs',hgR,hgT⟩:=Bx (n':=s'.next) cx hlow hM1 hkv j.gs s0.gh s'.gh m1 l2 m2 r2 g' r2 s1'.gh hgs hm2f hr0.gh.2 hr.gh.1 hr.gh.2 hgv
 -- the abstract machine's objects
 have hob0:∀i,∃ob,∀o,cm hl i=some (some o)->v7 h'' o ob/\CZ (s0.next+j.os.length) h'' o/\∀o1,ob=some o1->∃b∈mf,i=s0.next+b.j/\∃id o0,b.id=some id/\aw s1'.heap id=some o0/\P3 M o1 o0:=by intro i;cases hx:cm hl i with|none=>exact⟨none,fun o h=>by cases h⟩|some o'=>obtain⟨o,rfl,b,hb,e2,ha⟩:=hap i o' hx;obtain⟨ob,g1,g2,g3⟩:=VV hr.hr cx ha;refine⟨ob,fun o2 h=>?_⟩;obtain rfl:=aa (aa h);exact⟨g1,g2,fun o1 h1=>⟨b,hb,e2,g3 o1 h1⟩⟩
 obtain⟨fob,hfob⟩:∃f:Nat->Option Ob,∀i o,cm hl i=some (some o)->v7 h'' o (f i)/\CZ (s0.next+j.os.length) h'' o/\∀o1,f i=some o1->∃b∈mf,i=s0.next+b.j/\∃id o0,b.id=some id/\aw s1'.heap id=some o0/\P3 M o1 o0:=⟨fun i=>jp (hob0 i),fun i=>fC (hob0 i)⟩
 have hF:∃H:bC,∀i,aw H i=match cm hl i with
   |some _=>fob i
   |none=>if i<s0.next/\i∉j.kl then(match aw s1'.heap i with|some o=>if HG s0.next o then some o else none|none=>none)else none:=by
  refine O1 _ (hl.map (·.1)++s1'.heap.map (·.1)) fun i hi=>?_;cases hx:cm hl i with|some o=>exact aI _ (yq (by rw[hx];simp))|none=>rw[hx]at hi;refine aG _ (Lw fun e=>hi ?_);simp only[e,ite_self]
 obtain⟨H,hH⟩:=hF;have hHn:∀i o,cm hl i=some (some o)->aw H i=fob i:=fun i o h=>by rw[hH i,h]
 have hHl:∀i,i<s0.next->i∉j.kl->(∀x,aw s1'.heap i=some x->HG s0.next x->aw H i=aw s1'.heap i)/\(aw s1'.heap i=none->aw H i=none):=fun i hi hk=>by rw[hH i,hhl i hi];simp only[hi,hk,not_false_eq_true,and_self,if_true];refine⟨fun x hx hlo=>by rw[hx];simp only[hlo,if_true],fun hx=>by rw[hx]⟩
 have hHR:∀i,i<s0.next->i∉j.kl->∀o,fO s0.heap i=some o->∀g,v7 g o (aw s1.heap i)->v7 g o (aw H i):=fun i hi hk o ho g hg=>by have h1:=(hf.ob i hi (hwk i hi hk)).2 o ho;obtain⟨_,h2,h3⟩:=hr0.hr.ob i o ho;exact OE (h1 _ h2) h3 (hHl i hi hk) g (h1 g hg)
 -- its temporaries
 have hE1:∀t,∃x',∀v,cm e t=some v->fD (s0.next+j.os.length) h'' v/\fZ h'' v x'/\∃x,cm s1'.dE t=some x/\E5 M x' x/\∀l,x'≠.ia l:=by intro t;cases hx:cm e t with|none=>exact⟨.ia [],fun v h=>by cases h⟩|some v=>obtain⟨h1,x,x',h2,h3,h4,h5⟩:=hE0 t v hx;refine⟨x',fun v2 h=>?_⟩;obtain rfl:=aa h;exact⟨h1,h3,x,h2,h4,h5⟩
 obtain⟨fe,hfe⟩:∃f:Nat->TV,∀t v,cm e t=some v->fD (s0.next+j.os.length) h'' v/\fZ h'' v (f t)/\∃x,cm s1'.dE t=some x/\E5 M (f t) x/\∀l,f t≠.ia l:=⟨fun t=>jp (hE1 t),fun t=>fC (hE1 t)⟩
 have hG:∃E:iL,∀t,cm E t=match cm e t with
   |some _=>some (fe t)
   |none=>(match cm s1'.dE t with|some x=>if∀i∈mE x,i<s0.next then some x else none|none=>none):=by
  refine Ky _ (e.map (·.1)++s1'.dE.map (·.1)) fun t ht=>?_;cases hx:cm e t with|some o=>exact aI _ (yq (by rw[hx];simp))|none=>rw[hx]at ht;refine aG _ (yq fun e=>ht ?_);simp only[e]
 obtain⟨E,hE⟩:=hG;have hEn:∀t v,cm e t=some v->cm E t=some (fe t):=fun t v h=>by rw[hE t,h]
 have hEl:∀t x,cm e t=none->cm s1'.dE t=some x->(∀i∈mE x,i<s0.next)->cm E t=some x:=fun t x h1 h2 h3=>by rw[hE t,h1,h2];exact if_pos h3
 have hsub:Sub s1' ⟨E,H,s0.next+j.os.length,cs'⟩:=by
  refine Od (aJ:=s0.next) hinj hbj hle (fun t x' hx=>?_) (fun i o' ho=>?_) (by rw[hMd];exact hgT)
  .rw [hMd];rw[hE t]at hx;split at hx
   .rename_i v hv;obtain⟨_,_,x,h3,h4,_⟩:=hfe t v hv;rw[<-aa hx];exact⟨x,h3,h4⟩
   .split at hx
    .rename_i x hx1;split at hx
     .rename_i hlo;obtain rfl:=aa hx;exact⟨x,hx1,E5.ez x fun i hi=>hM1 i (hlo i hi)⟩
     .simp at hx
    .simp at hx
  .rw [hMd];cases hx:cm hl i with
   |some o2=>obtain⟨o,rfl,_⟩:=hap i o2 hx;rw[hHn i o hx]at ho;obtain⟨_,_,h3⟩:=hfob i o hx;obtain⟨b,hb,e2,id,o0,hid,h4,h5⟩:=h3 o' ho;refine⟨id,o0,.inr ⟨b,hb,hid,e2⟩,h4,h5,fun b2 hb2 hid2=>?_⟩;rw[(hinj b2 hb2 b hb).2 id hid2 hid];exact e2
   |none=>
    rw[hH i,hx]at ho;simp only at ho;split at ho
    .rename_i hik;split at ho
     .rename_i o hlo;split at ho
      .rename_i hlow1;obtain rfl:=aa ho;refine⟨i,o,.inl ⟨rfl,hik.1⟩,hlo,?_,fun b hb hid=>?_⟩
       .cases o with|box cs=>exact .inr ⟨cs,cs,rfl,rfl,pj.ez cs fun i hi=>hM1 i (hlow1 i hi)⟩|nst sz sl=>exact .inl ⟨rfl,by simp,fun k q len hk=>hM1 q (hlow1 k q len hk)⟩|_=>exact .inl ⟨rfl,by simp,trivial⟩
       .rcases hbid b hb i hid with h|h
        .have:=hik.1;omega
        .exact absurd h hik.2
      .simp at ho
     .simp at ho
    .simp at ho
 refine⟨⟨E,H,s0.next+j.os.length,cs'⟩,hl.map (·.1)++j.kl,hsub,⟨fun t v ht=>?_,⟨fun i o ho=>?_⟩,am _,hgR,hgk⟩,rfl,⟨hle,eU,?_,fun i hi hi2=>?_,fun t x ht hx hk=>?_⟩,fun i hi=>?_⟩
 .have ht:cm (e++ds.map (fun t=>(t,V.gn))++s0.dE) t=some v:=ht;rw[aR,ic]at ht;cases hx:cm e t with
  |some v2=>rw[hx]at ht;obtain rfl:=aa ht;obtain⟨h1,h2,_⟩:=hfe t v2 hx;exact⟨h1,fun _=>⟨_,hEn t v2 hx,h2⟩⟩
  |none=>
   rw[hx]at ht;simp only at ht;rw[ic,R9]at ht;by_cases hds:t∈ds
   .rw [if_pos hds]at ht;obtain rfl:=aa ht;exact⟨trivial,fun h=>by rcases h with h|h<;>simp[iU]at h⟩
   .rw [if_neg hds]at ht;obtain⟨h1,h2⟩:=hr0.dE t v ht;refine⟨hkv v h1,fun ha=>?_⟩;obtain⟨x,h3,h4⟩:=h2 (ha.imp (wq eU hnb h1) fun q=>q);have h5:=vM eU h1 h4
    have hids:∀i∈mE x,i<s0.next/\i∉j.kl/\fO s0.heap i≠none:=fun i hi=>by
     rcases ha with ha|rfl
     .have i1:=(G6 h4 h1 i hi).1;have i2:=(G6 h5 (hkv v h1) i hi).2 ha;rw[hfl i i1]at i2;split at i2
      .exact absurd rfl i2
      .exact ⟨i1,by assumption,i2⟩
     .obtain rfl:x=.ia []:=h4;simp[mE,mE.AA]at hi
    have h6:=hf.dE t x hds h3 fun i hi=>⟨(hids i hi).1,hwk i (hids i hi).1 (hids i hi).2.1,(hids i hi).2.2⟩;exact⟨x,hEl t x hx h6 fun i hi=>(hids i hi).1,h5⟩
 .have ho:fO h'' i=some o:=ho;show i<s0.next+j.os.length/\v7 h'' o (aw H i)/\CZ (s0.next+j.os.length) h'' o;have ho2:=ho;rw[hfo i]at ho;split at ho
  .rename_i o2 hx;subst ho;obtain⟨h1,h2,_⟩:=hfob i o hx;obtain⟨_,_,b,hb,e2,_⟩:=hap i _ hx;rw[hHn i o hx];exact⟨by have:=hbj b hb;omega,h1,h2⟩
  .split at ho
   .simp at ho
   .rename_i hk;obtain⟨h1,h2,h3⟩:=hr0.hr.ob i o ho;exact⟨by omega,hHR i h1 hk o ho _ (pW eU h3 h2),oR hle eU h3⟩
 .show cs'.length=_;rw[hgT.len];exact hf.gl
 .simp only[ao,not_or]at hi2;refine⟨?_,hHR i hi hi2.2⟩;show fO h'' i=_;rw[hfl i hi,if_neg hi2.2]
 .have h6:=hf.dE t x ht hx fun i hi=>by obtain⟨i1,i2,i3⟩:=hk i hi;simp only[ao,not_or]at i2;exact⟨i1,hwk i i1 i2.2,i3⟩
  cases he:cm e t with
  |none=>exact hEl t x he h6 fun i hi=>(hk i hi).1
  |some v=>
   show cm E t=some x;rw[hEn t v he];obtain⟨_,_,x0,h3,h4,h5⟩:=hfe t v he;rw[h6]at h3;obtain rfl:=aa h3;refine congrArg some (E5.ZD (fun i=>s0.next<=i\/i∈j.kl) (fun a b hab=>?_) h4 h5 fun i hi hB=>?_)
   .rw [<-hMd]at hab;rcases hab with⟨rfl,_⟩|⟨bb,hb,hid,_⟩
    .exact .inl rfl
    .exact .inr (hbid bb hb b hid)
   .obtain ⟨i1,i2,_⟩:=hk i hi;simp only[ao,not_or]at i2;rcases hB with h|h
    .omega
    .exact i2.2 h
 .rcases ao.1 hi with hi|hi
  .obtain ⟨p,hp,rfl⟩:=bB.1 hi;exact .inl (hge p hp)
  .exact .inr hi
end Go.Ev
