/- Regions: what an operation leaves. Conditions: as stated. -/
import Derived.Test.YthcplpfiidlinaaDoorFz
open Bool renaming and_eq_true->ai,not_eq_true'->dp
open Classical renaming choose->gi,choose_spec->df
open List renaming all_eq_true->bc,append_assoc->aL,cons_append->aU,contains_eq_mem->lq,getElem?_drop->bP,getElem?_take->eF,length_map->aN,map_cons->aB,mem_append->ap,mem_append_left->aF,mem_append_right->aH,mem_cons->aP,mem_cons_of_mem->aA,mem_filterMap->gU,mem_map->ci,nil_append->bh,singleton_inj->fq
open List.cons renaming inj->ct
open Nat renaming ble->jc,le_add_right->lE,le_refl->au,le_succ->bN,le_trans->fF,lt_of_lt_of_le->cm,lt_succ_self->aZ,zero_add->bJ
open Option.some renaming inj->aa,injEq->bl
open Prod.mk renaming inj->ad
namespace Go.Ev
theorem R2.mono{s1:St}{s:S2}(hr:R2 s1 s){n:Nat}(hn:s.next<=n):R2 s1 {s with next:=n}:=⟨fun t v ht=>(hr.dO t v ht).imp (gR hn (lN.refl _ _)) id,hr.hr.mono hn,fF hr.next hn,hr.gh.1,gR hn (lN.refl _ _) hr.gh.2⟩
theorem R2.nx{s1:St}{s:S2}(hr:R2 s1 s){n:Nat}(hn:n<=s.next):R2 {s1 with next:=n} s:=⟨hr.dO,hr.hr,hn,hr.gh⟩
theorem R2.wo{s1:St}{s:S2}(hr:R2 s1 s)(w:List Nat):R2 s1 {s with wo:=w}:=⟨hr.dO,hr.hr,hr.next,hr.gh⟩
theorem rS.mono{s1:St}{s:S2}{q:Rg}(hr:rS s1 s q){n:Nat}(hn:s.next<=n):rS s1 {s with next:=n} q:=⟨hr.r.mono hn,hr.kn,fun t g b v h=>let⟨c,h1,h2⟩:=hr.cd t g b v h;⟨c,h1,fun e=>let⟨x,h3,h4,h5⟩:=h2 e;⟨x,h3,h4,gR hn (lN.refl _ _) h5⟩⟩⟩
theorem rS.nx{s1:St}{s:S2}{q:Rg}(hr:rS s1 s q){n:Nat}(hn:n<=s.next):rS {s1 with next:=n} s q:=⟨hr.r.nx hn,hr.kn,hr.cd⟩
theorem rS.none{s1:St}{s:S2}(hr:R2 s1 s):rS s1 s ⟨[],[]⟩:=⟨hr,fun g b h=>by simp[Qv,cu]at h,fun t g b v h=>by simp[cu]at h⟩
theorem rS.UB{s1:St}{s:S2}{q:Rg}(hr:rS s1 s q){g:Nat}{c:Bool}(hg:cu s1.dO g=some (tB c)):rS s1 s ⟨(g,c)::q.kn,q.cd⟩:=by
 refine⟨hr.r,fun g' b h=>?_,hr.cd⟩;simp only[Qv,cu]at h;by_cases e:g=g'
 .subst e;have:c=b:=by simpa using h
  rw[<-this];exact hg
 .have e':(g==g')=false:=by simpa using e
  rw[e',cond_false]at h;exact hr.kn g' b h
theorem Ga{α:Type}{d:Nat}:∀{l:List (Nat×α)}{t:Nat}{x:α},cu (l.filter fun e=>!(e.1==d)) t=some x->t≠d/\cu l t=some x:=by
 intro l;induction l with
 |nil=>intro t x h;simp[cu]at h
 |cons p l ih=>
  obtain⟨a,y⟩:=p;intro t x h;by_cases e:a=d
  .rw [List.filter_cons,if_neg (by simp[e])]at h;obtain⟨h1,h2⟩:=ih h;refine⟨h1,?_⟩;simp only[cu];have e':(a==t)=false:=by simpa using fun q=>h1 (q.symm.trans e)
   rw[e',cond_false];exact h2
  .rw [List.filter_cons,if_pos (by simp[e])]at h;simp only[cu]at h|-;by_cases e2:a=t
   .subst e2;have e':(a==a)=true:=by simp
    rw[e',cond_true]at h|-;exact⟨e,h⟩
   .have e':(a==t)=false:=by simpa using e2
    rw[e',cond_false]at h|-;exact ih h
theorem xD{α:Type}:∀{l:List (Nat×α)}{t:Nat}{x:α},cu l t=some x->(t,x)∈l:=by
 intro l;induction l with
 |nil=>intro t x h;simp[cu]at h
 |cons p l ih=>
  obtain⟨a,y⟩:=p;intro t x h;simp only[cu]at h;by_cases e2:a=t
  .subst e2;have:y=x:=by simpa using h
   subst this;exact List.mem_cons_self
  .have e':(a==t)=false:=by simpa using e2
   rw[e',cond_false]at h;exact aA _ (ih h)
theorem Ef{q q':Rg}{d:Option Nat}(h:OI q d=some q'):q'.kn=q.kn/\(∀t y,cu q'.cd t=some y->d≠some t/\cu q.cd t=some y/\d≠some y.1)/\∀g b,Qv q.kn g=some b->d≠some g:=by
 cases d with
 |none=>obtain rfl:=aa h;exact⟨rfl,fun t y hy=>⟨by simp,hy,by simp⟩,fun _ _ _=>by simp⟩
 |some d=>
  simp only[OI]at h;cases hc:(q.cd.any (fun e=>e.2.1==d)||q.kn.any (fun e=>e.1==d))with
  |true=>rw[hc]at h;simp at h
  |false=>
   rw[hc,cond_false]at h;obtain rfl:=aa h;simp only[Bool.or_eq_false_iff,List.any_eq_false,beq_iff_eq]at hc;refine⟨rfl,fun t y hy=>?_,fun g b hg e=>?_⟩
   .obtain ⟨h1,h2⟩:=Ga hy;exact⟨fun e=>h1 (aa e).symm,h2,fun e=>hc.1 _ (xD h2) (aa e).symm⟩
   .exact hc.2 _ (xD hg) (aa e).symm
theorem DW{s:S2}{d:Option Nat}{v:V}(t:Nat):cu (tU s d v).dO t=if d=some t then some v else cu s.dO t:=by
 cases d with
 |none=>simp[tU]
 |some d=>
  simp only[tU,cu];by_cases h:d=t
  .simp [h]
  .have h':(d==t)=false:=by simpa using h
   simp[h,h']
theorem qA{s:S2}{d:Option Nat}{v:V}:(tU s d v).heap=s.heap/\(tU s d v).next=s.next/\(tU s d v).gh=s.gh/\(tU s d v).wo=s.wo:=by cases d<;>exact⟨rfl,rfl,rfl,rfl⟩
theorem rS.kF{s1:St}{s s':S2}{q q':Rg}(hr:rS s1 s q){x:TV}{u:fJ}{aD:List Nat}{m:Nat}{v:V}{l:List Nat}(hd:tP s s' s1.heap x u aD m v l){d:Option Nat}(hq:OI q d=some q'):
  rS ⟨put s1.dO d x,u++s1.heap,m,s1.gh⟩ (tU s' d v) q':=by
 obtain⟨c1,c2,c3⟩:=Ef hq;obtain⟨p1,p2,p3,p4⟩:=qA (s:=s') (d:=d) (v:=v);refine⟨⟨fun t w ht=>?_,by rw[p1,p2];exact hd.hr,by rw[p2];exact hd.m,?_⟩,fun g b hg=>?_,fun t g b w ht=>?_⟩
 .rw [DW]at ht;rw[p1,p2];show _/\(_->∃y,cu (put s1.dO d x) t=some y/\_);rw[lA];split at ht
  .rename_i e;obtain rfl:=aa ht;rw[if_pos e];exact⟨hd.U8,fun _=>⟨x,rfl,hd.val⟩⟩
  .rename_i e;rw[if_neg e];rw[hd.dO]at ht;obtain⟨h1,h2⟩:=hr.r.dO t w ht;refine⟨gR hd.le hd.eV h1,fun ha=>?_⟩;obtain⟨y,h3,h4⟩:=h2 (ha.imp (vA hd.eV hd.nb h1) id);exact⟨y,h3,uP hd.eV h1 h4⟩
 .rw [p3,p1,p2,hd.gh];exact⟨DT hd.eV hd.nb hr.r.gh.2 hr.r.gh.1,gR hd.le hd.eV hr.r.gh.2⟩
 .rw [c1]at hg;show cu (put s1.dO d x) g=_;rw[lA,if_neg (c3 g b hg)];exact hr.kn g b hg
 .obtain ⟨e1,e2,e3⟩:=c2 t _ ht;obtain⟨c,h1,h2⟩:=hr.cd t g b w e2;show∃c,cu (put s1.dO d x) g=_/\(c=b->∃y,cu (put s1.dO d x) t=some y/\_);rw[lA,lA,if_neg e3,if_neg e1,p1,p2];refine⟨c,h1,fun e=>?_⟩;obtain⟨y,h3,h4,h5⟩:=h2 e;exact⟨y,h3,uP hd.eV h5 h4,gR hd.le hd.eV h5⟩
theorem Gk{s1:St}{s:S2}{q:Rg}(hr:rS s1 s q):tP s s s1.heap (.iQ []) [] [] s.next .no []:=tP.pure hr.r.hr rfl trivial fun i hi=>by simp at hi
theorem rS.Rq{s1:St}{s:S2}{q q':Rg}(hr:rS s1 s q){d g:Nat}{b c:Bool}{v:V}{x:TV}{m:Nat}(hm:m<=s.next)(hq:OI q (some d)=some q')(hg:cu s1.dO g=some (tB c))(hgd:g≠d)
  (hx:c=b->gG s.heap v x/\fw s.next s.heap v):rS ⟨put s1.dO (some d) x,s1.heap,m,s1.gh⟩ (tU s (some d) .gn) ⟨q'.kn,(d,g,b,v)::q'.cd⟩:=by
 obtain⟨c1,c2,c3⟩:=Ef hq;refine⟨⟨fun t w ht=>?_,hr.r.hr,hm,hr.r.gh⟩,fun g' b' hg'=>?_,fun t g' b' w ht=>?_⟩
 .rw [DW]at ht;show _/\(_->∃y,cu (put s1.dO (some d) x) t=some y/\_);rw[lA];split at ht
  .obtain rfl:=aa ht;exact⟨trivial,fun h=>by rcases h with h|h<;>simp[iB,tU]at h⟩
  .rename_i e;rw[if_neg e];exact hr.r.dO t w ht
 .rw [show(⟨q'.kn,(d,g,b,v)::q'.cd⟩:Rg).kn=q.kn from c1]at hg';show cu (put s1.dO (some d) x) g'=_;rw[lA,if_neg (c3 g' b' hg')];exact hr.kn g' b' hg'
 .show ∃c,cu (put s1.dO (some d) x) g'=_/\(c=b'->∃y,cu (put s1.dO (some d) x) t=some y/\_);simp only[cu]at ht;rw[lA,lA];by_cases e:d=t
  .subst e;obtain⟨rfl,rfl,rfl⟩:g=g'/\b=b'/\v=w:=by simpa using ht
   rw[if_pos rfl,if_neg (by simpa using Ne.symm hgd)];exact⟨c,hg,fun e=>⟨x,rfl,hx e⟩⟩
  .have e':(d==t)=false:=by simpa using e
   rw[e',cond_false]at ht;obtain⟨_,e2,e3⟩:=c2 t _ ht;obtain⟨c',h1,h2⟩:=hr.cd t g' b' w e2;rw[if_neg e3,if_neg (by simpa using e)];exact⟨c',h1,h2⟩
def U0(e:jJ)(gd:Option (Nat×Bool)):GV->Prop
 |.run=>kr e gd=some true/\∀g b,gd=some (g,b)->cu e g=some (tB b)
 |.skip=>kr e gd=some false
 |.Rq g b c=>gd=some (g,b)/\cu e g=some (tB c)
theorem ph{e:jJ}{g:Nat}{b c:Bool}(h:cu e g=some (tB c)):kr e (some (g,b))=some (c==b):=by simp only[kr,h,tB]
theorem LU{e:jJ}{g:Nat}{b c:Bool}(h:cu e g=some (tB c)):U0 e (some (g,b)) (bif c==b then .run else .skip):=by
 have hw:=ph (b:=b) h;cases hc:(c==b)with
 |true=>
  rw[hc]at hw;refine⟨hw,fun g' b' e'=>?_⟩;obtain⟨rfl,rfl⟩:=ad (aa e');obtain rfl:c=b:=by simpa using hc
  exact h
 |false=>rw[hc]at hw;exact hw
theorem yW{s1:St}{s:S2}{q:Rg}(hr:rS s1 s q){gd:Option (Nat×Bool)}{r:GV}(h:UD s.dO q.kn gd=some r):U0 s1.dO gd r:=by
 unfold UD at h;split at h
 .obtain rfl:=aa h;exact⟨rfl,fun _ _ e=>by simp at e⟩
 .rename_i g b;split at h
  .rename_i c hk;obtain rfl:=aa h;exact LU (hr.kn g c hk)
  .split at h
   .rename_i c he;obtain rfl:=aa h;obtain⟨x,h1,h2⟩:=(hr.r.dO g _ he).2 (.inl rfl);rw[vM h2]at h1;exact LU h1
   .rename_i c he;obtain rfl:=aa h;obtain⟨x,h1,h2⟩:=(hr.r.dO g _ he).2 (.inl rfl);rw[GS h2]at h1;exact⟨rfl,h1⟩
   .rename_i he;obtain rfl:=aa h;obtain⟨x,h1,h2⟩:=(hr.r.dO g _ he).2 (.inr rfl);rw[show x=.iQ []from h2]at h1;show kr s1.dO _=_;simp only[kr,h1]
   .simp at h
structure w_(ds w:List Nat)(s1 s1':St)(s s':S2):Prop where
 le:s.next<=s'.next
 eV:lN s.next s.heap s'.heap
 gl:s1'.gh.length=s1.gh.length
 ob:∀i,i<s.next->i∉w->fO s'.heap i=fO s.heap i/\∀o,fO s.heap i=some o->∀g,yv g o (aC s1.heap i)->yv g o (aC s1'.heap i)
 dO:∀t x,t∉ds->cu s1.dO t=some x->(∀i∈lY x,i<s.next/\i∉w/\fO s.heap i≠none)->cu s1'.dO t=some x
def Fr(ds:List Nat)(s1 s1':St)(s s':S2):Prop:=∃w,s'.wo=w++s.wo/\w_ ds w s1 s1' s s'
theorem w_.next{ds w:List Nat}{s1:St}{s:S2}{n m:Nat}(hn:s.next<=n):w_ ds w s1 {s1 with next:=m} s {s with next:=n}:=⟨hn,lN.refl _ _,rfl,fun _ _ _=>⟨rfl,fun _ _ _ h=>h⟩,fun _ _ _ h _=>h⟩
theorem w_.trans{ds w w':List Nat}{s1 s2 s3:St}{s s' s'':S2}(a:w_ ds w s1 s2 s s')(b:w_ ds w' s2 s3 s' s''):w_ ds (w'++w) s1 s3 s s'':=by
 refine⟨fF a.le b.le,a.eV.trans a.le b.eV,b.gl.trans a.gl,fun i hi hw=>?_,fun t x ht hx hc=>?_⟩
 .simp only[ap,not_or]at hw;obtain⟨h1,h2⟩:=a.ob i hi hw.2;obtain⟨h3,h4⟩:=b.ob i (cm hi a.le) hw.1;exact⟨h3.trans h1,fun o ho g hg=>h4 o (h1.trans ho) g (h2 o ho g hg)⟩
 .refine b.dO t x ht (a.dO t x ht hx fun i hi=>?_) fun i hi=>?_
  .obtain ⟨h1,h2,h3⟩:=hc i hi;simp only[ap,not_or]at h2;exact⟨h1,h2.2,h3⟩
  .obtain ⟨h1,h2,h3⟩:=hc i hi;simp only[ap,not_or]at h2;exact⟨cm h1 a.le,h2.1,by rw[(a.ob i h1 h2.2).1];exact h3⟩
theorem w_.mono{ds ds' w w':List Nat}{s1 s2:St}{s s':S2}(a:w_ ds w s1 s2 s s')(hd:∀t∈ds,t∈ds')(hw:∀i∈w,i∈w'):w_ ds' w' s1 s2 s s':=⟨a.le,a.eV,a.gl,fun i hi h=>a.ob i hi fun q=>h (hw i q),fun t x ht hx hc=>a.dO t x (fun q=>ht (hd t q)) hx fun i hi=>⟨(hc i hi).1,fun q=>(hc i hi).2.1 (hw i q),(hc i hi).2.2⟩⟩
theorem Fr.refl{ds:List Nat}{s1:St}{s:S2}:Fr ds s1 s1 s s:=⟨[],rfl,w_.next (au _)⟩
theorem Fr.trans{ds:List Nat}{s1 s2 s3:St}{s s' s'':S2}(a:Fr ds s1 s2 s s')(b:Fr ds s2 s3 s' s''):Fr ds s1 s3 s s'':=by obtain⟨w,h1,h2⟩:=a;obtain⟨w',h3,h4⟩:=b;exact⟨w'++w,by rw[h3,h1,aL],h2.trans h4⟩
theorem Fr.mono{ds ds':List Nat}{s1 s2:St}{s s':S2}(a:Fr ds s1 s2 s s')(hd:∀t∈ds,t∈ds'):Fr ds' s1 s2 s s':=let⟨w,h1,h2⟩:=a;⟨w,h1,h2.mono hd fun _ h=>h⟩
theorem Fr.Sk{s1:St}{s s':S2}{x:TV}{u:fJ}{aD:List Nat}{m:Nat}{v v':V}{l:List Nat}(hd:tP s s' s1.heap x u aD m v l)(d:Option Nat):Fr d.toList s1 ⟨put s1.dO d x,u++s1.heap,m,s1.gh⟩ s (tU s' d v'):=by
 obtain⟨w,h1,h2,h3⟩:=hd.wo;obtain⟨p1,p2,p3,p4⟩:=qA (s:=s') (d:=d) (v:=v');refine⟨w,p4.trans h1,by rw[p2];exact hd.le,by rw[p1];exact hd.eV,rfl,fun i hi hw=>⟨by rw[p1];exact h3 i hw,fun o ho g hg=>?_⟩,fun t y ht hy _=>?_⟩
 .show yv g o (aC (u++s1.heap) i);rw[wd (u:=u) (i:=i) fun p hp e=>hw (e▸h2 p hp)];exact hg
 .show cu (put s1.dO d x) t=_;rw[lA,if_neg fun e=>ht (by simp[e])];exact hy
def M4(P:Program)(o:nY)(s1:St)(s s':S2)(q':Rg)(t:List Nat×List Nat):Prop:=
 (kr s1.dO o.guard=some true/\∃call x u aD m,nk P call/\cQ call o.k (o.args.map (kO s1.dO)) s1.heap s.next=some (x,u,aD,m)/\(∀i∈aD,i∈t.1)/\(∀p∈u,p.1∈t.2)/\
  rS ⟨put s1.dO o.dst x,u++s1.heap,m,s1.gh⟩ s' q'/\Fr o.dst.toList s1 ⟨put s1.dO o.dst x,u++s1.heap,m,s1.gh⟩ s s')\/
 (kr s1.dO o.guard=some false/\rS ⟨drop s1.dO o.dst,s1.heap,s.next,s1.gh⟩ s' q'/\Fr o.dst.toList s1 ⟨drop s1.dO o.dst,s1.heap,s.next,s1.gh⟩ s s')
section
variable{P:Program}{β:Type}{tb:EA}{dr:Option Nat}{o:OP}{r:List OP}{i:Nat}{s1:St}{s s0:S2}{q:Rg}{tr:JY}{k:S2->JY->Option β}{z:β}
theorem BV(htb:pJ P tb)(hg:lJ)(hr:rS s1 s q)(hw:kr s1.dO o.o.guard=some true)(hgc:∀g b,o.o.guard=some (g,b)->cu s1.dO g=some (tB b))
  (hz:(SL tb o s q o.o.guard fun v s1 l=>
   bif I5 dr i s1 then(match OI q o.o.dst with
    |some q=>m7 tb dr r (i+1) (tU s1 o.o.dst v) q (tr++[(l,s1.wo.take (s1.wo.length-s.wo.length))]) k
    |none=>none)else none)=some z):
  ∃s' q' t,m7 tb dr r (i+1) s' q' (tr++[t]) k=some z/\I5 dr i s'=true/\M4 P o.o s1 s s' q' t:=by
 obtain⟨v,s',l,h1,call,hc,x,u,aD,m,h2,hd⟩:=Me htb hg hr hgc hz;obtain⟨hb,h1⟩:=aO h1;split at h1
 .rename_i q' hq;refine⟨_,_,_,h1,?_,.inl ⟨hw,call,x,u,aD,m,hc,h2,hd.aD,fun p hp=>?_,hr.kF hd hq,Fr.Sk hd _⟩⟩
  .unfold I5 at hb|-;rw[qA.2.1];exact hb
  .obtain ⟨w,h3,h4,_⟩:=hd.wo;have:=h4 p hp;show p.1∈s'.wo.take (s'.wo.length-s.wo.length);rw[h3];simpa using this
 .simp at h1
theorem BL(hr:rS s1 s q)(hb:I5 dr i s=true)(hw:kr s1.dO o.o.guard=some false)
  (hz:(match OI q o.o.dst with|some q=>m7 tb dr r (i+1) (tU s o.o.dst .no) q (tr++[([],[])]) k|none=>none)=some z):
  ∃s' q' t,m7 tb dr r (i+1) s' q' (tr++[t]) k=some z/\I5 dr i s'=true/\M4 P o.o s1 s s' q' t:=by
 split at hz
 .rename_i q' hq;refine⟨_,_,_,hz,?_,.inr ⟨hw,?_⟩⟩
  .unfold I5 at hb|-;rw[qA.2.1];exact hb
  .exact ⟨hr.kF (Gk hr) hq,Fr.Sk (Gk hr) _⟩
 .simp at hz
theorem MP{α:Type}{c:Bool}{x:Option α}{y:α}(h:(bif c then none else x)=some y):x=some y:=by cases c with|true=>simp at h|false=>exact h
theorem De(htb:pJ P tb)(hg:lJ)(hr:rS s1 (Nc dr i s0) q)(hb:I5 dr i (Nc dr i s0)=true)(hz:m7 tb dr (o::r) i s0 q tr k=some z):
  ∃s' q' t,m7 tb dr r (i+1) s' q' (tr++[t]) k=some z/\I5 dr i s'=true/\M4 P o.o s1 (Nc dr i s0) s' q' t:=by
 simp only[m7]at hz;split at hz
 .simp at hz
 .rename_i hgd;obtain⟨h1,h2⟩:=yW hr hgd;exact BV htb hg hr h1 h2 hz
 .rename_i hgd;exact BL hr hb (yW hr hgd) hz
 .rename_i g b c hgd;obtain⟨h1,h2⟩:=yW hr hgd;split at hz
  .rename_i v l ht;have ht:=MP ht;split at hz
   .rename_i q' d hq hd;cases hgd2:Nat.beq g d with
    |true=>rw[hgd2]at hz;simp at hz
    |false=>
     rw[hgd2,cond_false]at hz;have hne:g≠d:=fun e=>by rw[e]at hgd2;simp at hgd2
     rw[hd]at hq;refine⟨_,_,_,hz,?_,?_⟩
     .unfold I5 at hb|-;rw[qA.2.1];exact hb
     .by_cases hcb:c=b
      .subst hcb;obtain⟨x,aD,e1,e2,e3,e4⟩:=Ar hg hr (gc:=some (g,c)) (fun g' b' e=>by obtain⟨rfl,rfl⟩:=ad (aa e);exact h2) ht qh (Nc dr i s0).next
       refine .inl ⟨by rw[h1,ph h2];simp,qh,x,[],aD,_,qC,e1,e4,fun p hp=>by simp at hp,?_⟩;rw[hd];exact⟨hr.Rq (au _) hq h2 hne fun _=>⟨e2,e3⟩,Fr.Sk (tP.pure hr.r.hr e2 e3 e4) _⟩
      .refine .inr ⟨by rw[h1,ph h2];simpa using hcb,?_⟩;rw[hd];exact⟨hr.Rq (au _) hq h2 hne fun e=>absurd e hcb,Fr.Sk (Gk hr) _⟩
   .simp at hz
  .have hkn:=hr.UB h2;cases b with
   |true=>cases c with|true=>exact BV htb hg hkn (by rw[h1,ph h2];rfl) (fun g' b' e=>by rw[h1]at e;obtain⟨rfl,rfl⟩:=ad (aa e);exact h2) hz|false=>exact BL hkn hb (by rw[h1,ph h2];rfl) hz
   |false=>cases c with|true=>exact BL hkn hb (by rw[h1,ph h2];rfl) hz|false=>exact BV htb hg hkn (by rw[h1,ph h2];rfl) (fun g' b' e=>by rw[h1]at e;obtain⟨rfl,rfl⟩:=ad (aa e);exact h2) hz
theorem IB(htb:pJ P tb)(hg:lJ):∀(ops:List OP)(i:Nat)(s1:St)(s:S2)(q:Rg)(tr:JY),m7 tb none ops i s q tr k=some z->rS s1 s q->
  WO P (ops.map (·.o)) s1 fun s1'=>∃s' tr',R2 s1' s'/\Fr (ops.filterMap (·.o.dst)) s1 s1' s s'/\k s' tr'=some z:=by
 intro ops;induction ops with
 |nil=>intro i s1 s q tr hz hr;exact wk.of ⟨s,tr,hr.r,Fr.refl,hz⟩
 |cons o r ih=>
  intro i s1 s q tr hz hr;have hsub:Sub s1 {s1 with next:=s.next}:=Sub.heap (fun _=>.inl rfl) hr.r.next;have hr1:rS {s1 with next:=s.next} s q:=hr.nx (au _);obtain⟨s',q',t,h1,_,h2⟩:=De (dr:=none) (i:=i) htb hg (show rS {s1 with next:=s.next} (Nc none i s) q from hr1) rfl hz;simp only[aB,WO];have hfs:∀t∈o.o.dst.toList,t∈(o::r).filterMap (·.o.dst):=fun t ht=>by rw[Option.mem_toList]at ht;exact gU.2 ⟨o,by simp,ht⟩
  have hrs:∀t∈r.filterMap (·.o.dst),t∈(o::r).filterMap (·.o.dst):=fun t ht=>by obtain⟨p,hp,hpt⟩:=gU.1 ht;exact gU.2 ⟨p,by simp[hp],hpt⟩
  have key:∀s2,Fr o.o.dst.toList {s1 with next:=s.next} s2 s s'->rS s2 s' q'->WO P (r.map (·.o)) s2 fun s1'=>∃s' tr',R2 s1' s'/\Fr ((o::r).filterMap (·.o.dst)) s1 s1' s s'/\k s' tr'=some z:=by
   intro s2 hf hr2;refine WO.mono (fun s1'⟨s3,tr3,g1,g2,g3⟩=>⟨s3,tr3,g1,?_,g3⟩) (ih _ _ _ _ _ h1 hr2);have f0:Fr ((o::r).filterMap (·.o.dst)) s1 {s1 with next:=s.next} s s:=⟨[],rfl,w_.next (au _)⟩
   exact(f0.trans (hf.mono hfs)).trans (g2.mono hrs)
  refine⟨_,hsub,?_⟩;rcases h2 with⟨hw,call,x,u,aD,m,hc,he,_,_,hr2,hf⟩|⟨hw,hr2,hf⟩
  .exact .inl ⟨hw,call,x,u,aD,m,hc,he,key _ hf hr2⟩
  .exact .inr ⟨hw,key _ hf hr2⟩
def Cl:Tr->JY->Prop
 |[],[]=>True
 |a::x,b::y=>(∀i∈a.1,i∈b.1)/\(∀i∈a.2,i∈b.2)/\Cl x y
 |_,_=>False
theorem Cl.Rw:∀{x:Tr}{y:JY}{a b:List Nat×List Nat},Cl x y->(∀i∈a.1,i∈b.1)->(∀i∈a.2,i∈b.2)->Cl (x++[a]) (y++[b]):=by
 intro x;induction x with
 |nil=>intro y a b h h1 h2;cases y with|nil=>exact⟨h1,h2,trivial⟩|cons=>exact h.elim
 |cons c x ih=>intro y a b h h1 h2;cases y with|nil=>exact h.elim|cons d y=>exact⟨h.1,h.2.1,ih h.2.2 h1 h2⟩
theorem Cl.get:∀{x:Tr}{y:JY}(i:Nat){a:List Nat×List Nat},Cl x y->x[i]?=some a->∃b,y[i]?=some b/\(∀i∈a.1,i∈b.1)/\(∀i∈a.2,i∈b.2):=by
 intro x;induction x with
 |nil=>intro y i a _ h;simp at h
 |cons c x ih=>
  intro y i a hl h;cases y with
  |nil=>exact hl.elim
  |cons d y=>cases i with|zero=>obtain rfl:=aa h;exact⟨d,rfl,hl.1,hl.2.1⟩|succ i=>exact ih i hl.2.2 (by simpa using h)
theorem MX{a b c d:List Nat×List Nat}(h:ma c d=true)(a1:∀i∈a.1,i∈c.1)(a2:∀i∈a.2,i∈c.2)(b1:∀i∈b.1,i∈d.1)(b2:∀i∈b.2,i∈d.2):ma a b=true:=by simp only[ma,ai,bc,dp,lq,decide_eq_false_iff_not]at h|-;exact⟨fun i hi=>⟨fun e=>(h.1 i (a2 i hi)).1 (b1 i e),fun e=>(h.1 i (a2 i hi)).2 (b2 i e)⟩,fun i hi e=>h.2 i (b2 i hi) (a1 i e)⟩
def M5(ops:List OP)(tr:Tr):Prop:=∀(j:Nat)(o:OP)(a:List Nat×List Nat),ops[j]?=some o->tr[j]?=some a->LD o.o.k=true->a.1.length<=1
theorem Qo{c:Call}{k:K}{vs:List (Option TV)}{h:bH}{n:Nat}{x:TV}{u:fJ}{aD:List Nat}{m:Nat}(he:cQ c k vs h n=some (x,u,aD,m))(hk:LD k=true):aD.length<=1:=by
 cases k<;>simp[LD]at hk;rename_i ka ks va zero ok;unfold cQ at he;split at he<;>first|(simp at he;done)|skip
 all_goals first
  |(rename_i e;cases e;done)
  |skip
 rename_i e;cases e;split at he
 .rename_i v i hv;obtain⟨_,e⟩:=ad (aa he);obtain⟨_,e⟩:=ad e;obtain⟨rfl,_⟩:=ad e;unfold iw at hv;split at hv
  .split at hv
   .obtain ⟨_,rfl⟩:=ad (aa hv);simp
   .simp at hv
  .split at hv
   .split at hv
    .split at hv
     .split at hv
      .obtain ⟨_,rfl⟩:=ad (aa hv);simp
      .simp at hv
     .split at hv
      .obtain ⟨_,rfl⟩:=ad (aa hv);simp
      .simp at hv
     .simp at hv
    .simp at hv
   .simp at hv
  .simp at hv
 .simp at he
theorem QN{ops:List OP}{x:Tr}{y:JY}{dyn:List (Nat×Nat)}(hl:Cl x y)(hk:M5 ops x)(hd:QO ops y dyn=true):A4 x dyn=true:=by
 simp only[QO,A4,bc]at hd|-;intro p hp;have hp2:=hd p hp;obtain⟨i,j⟩:=p;have key:∀(j':Nat)a b c d,x[i]?=some a->x[j']?=some b->y[i]?=some c->y[j']?=some d->ma c d=true->ma a b=true:=by intro j' a b c d ha hb hc hd h;obtain⟨c',h1,h2,h3⟩:=hl.get i ha;obtain⟨d',h4,h5,h6⟩:=hl.get j' hb;rw[hc]at h1;rw[hd]at h4;obtain rfl:=aa h1;obtain rfl:=aa h4;exact MX h h2 h3 h5 h6
 by_cases hj:1000<=j
 .have hb:jc 1000 j=true:=Nat.ble_eq_true_of_le hj;simp only[hb,cond_true]at hp2;simp only[hj,if_true,E3];split
  .rename_i a b ha hb;obtain⟨c,hc,c1,c2⟩:=hl.get i ha;obtain⟨d,hd,_,_⟩:=hl.get (j-1000) hb;rw[hc,hd]at hp2;simp only[Bool.or_eq_true]at hp2|-;rcases hp2 with hp2|hp2
   .exact .inl (key _ a b c d ha hb hc hd hp2)
   .unfold O7 at hp2;split at hp2
    .rename_i o id ho hc2;rw[hc]at hc2;obtain rfl:=aa hc2;simp only[ai]at hp2;have hlen:=hk i o a ho ha hp2.1;obtain⟨a1,a2⟩:=a;obtain rfl:a2=[]:=List.eq_nil_iff_forall_not_mem.2 fun q hq=>by have:=c2 q hq;simp at this
     match a1,hlen,c1 with
     |[],_,_=>left;simp[ma]
     |[q],_,c1=>
      obtain rfl:q=id:=by have:=c1 q (by simp);simpa using this
      right;refine bc.2 fun z hz=>?_;obtain⟨n,hn⟩:=List.getElem?_of_mem hz;rw[bP,eF]at hn;split at hn
      .rename_i hlt;obtain⟨z2,hz2,_,z3⟩:=hl.get _ hn;have hm:z2∈(y.take (j-1000)).drop (i+1):=by refine List.mem_of_getElem? (i:=n) ?_;rw[bP,eF,if_pos hlt];exact hz2
       have:=bc.1 hp2.2 z2 hm;simp only[dp,lq,decide_eq_false_iff_not]at this|-;exact fun q=>this (z3 _ q)
      .simp at hn
    .simp at hp2
  .rfl
 .have hb:jc 1000 j=false:=by cases h:jc 1000 j with|false=>rfl|true=>exact absurd (Nat.le_of_ble_eq_true h) hj
  simp only[hb,cond_false]at hp2;simp only[hj,if_false];split
  .rename_i a b ha hb;obtain⟨c,hc,_⟩:=hl.get i ha;obtain⟨d,hd,_⟩:=hl.get j hb;rw[hc,hd]at hp2;exact key _ a b c d ha hb hc hd hp2
  .rfl
theorem WD.mono{P:Program}{aR:Nat}{ops:List nY}{i:Nat}{e:jJ}{h:bH}{tr:Tr}{Q Q':jJ->bH->Tr->Prop}(hq:∀e h tr,Q e h tr->Q' e h tr)(hw:WD P aR ops i e h tr Q):WD P aR ops i e h tr Q':=let⟨calls,h1,e',h',tr',h2,h3⟩:=hw;⟨calls,h1,e',h',tr',h2,hq _ _ _ h3⟩
theorem Lj{ops:List OP}{tr:Tr}{o:OP}{t:List Nat×List Nat}(h:M5 ops tr)(ho:ops[tr.length]?=some o)(ht:LD o.o.k=true->t.1.length<=1):M5 ops (tr++[t]):=by
 intro j o' a hj ha hl;by_cases hlt:j<tr.length
 .rw [List.getElem?_append_left hlt]at ha;exact h j o' a hj ha hl
 .rw [List.getElem?_append_right (by omega)]at ha;have:j=tr.length:=by have:=(List.getElem?_eq_some_iff.1 ha).1;simp at this;omega
  subst this;rw[ho]at hj;obtain rfl:=aa hj;simp at ha;rw[<-ha];exact ht hl
theorem IC(htb:pJ P tb)(hg:lJ){b:Nat}(ops0:List OP):∀(ops:List OP)(i:Nat)(e:jJ)(h:bH)(n:Nat)(gh:List C)(s:S2)(q:Rg)(tr:JY)(tr1:Tr),m7 tb (some b) ops i s q tr k=some z->rS ⟨e,h,n,gh⟩ s q->s.next<=b+iT*i->Cl tr1 tr->(∀j,ops[j]?=ops0[i+j]?)->tr1.length=i->M5 ops0 tr1->
  WD P b (ops.map (·.o)) i e h tr1 fun e' h' tr1'=>∃s' tr' n',R2 ⟨e',h',n',gh⟩ s'/\Fr (ops.filterMap (·.o.dst)) ⟨e,h,n,gh⟩ ⟨e',h',n',gh⟩ s s'/\s'.next<=b+iT*(i+ops.length)/\Cl tr1' tr'/\M5 ops0 tr1'/\k s' tr'=some z:=by
 intro ops;induction ops with
 |nil=>intro i e h n gh s q tr tr1 hz hr hn ht _ _ hlk;exact Sr ⟨s,tr,n,hr.r,Fr.refl,hn,ht,hlk,hz⟩
 |cons o r ih=>
  intro i e h n gh s q tr tr1 hz hr hn ht hops hlen1 hlk;have ho0:ops0[tr1.length]?=some o:=by have:=hops 0;rw[hlen1];simpa using this.symm
  have hops2:∀j,r[j]?=ops0[i+1+j]?:=fun j=>by have:=hops (j+1);rw[show i+1+j=i+(j+1)by omega,<-this];rfl
  have hr1:rS ⟨e,h,n,gh⟩ (Nc (some b) i s) q:=hr.mono hn;have hb:I5 (some b) i (Nc (some b) i s)=true:=by simpa[I5,Nc]using NK (aR:=b) (i:=i)
  obtain⟨s',q',t,h1,hb2,h2⟩:=De (dr:=some b) htb hg hr1 hb hz;have hb3:s'.next<=b+iT*(i+1):=by simpa[I5]using hb2
  have hlen:i+(o::r).length=i+1+r.length:=by simp only[List.length_cons];omega
  rw[hlen];have hfs:∀t∈o.o.dst.toList,t∈(o::r).filterMap (·.o.dst):=fun t ht=>by rw[Option.mem_toList]at ht;exact gU.2 ⟨o,by simp,ht⟩
  have hrs:∀t∈r.filterMap (·.o.dst),t∈(o::r).filterMap (·.o.dst):=fun t ht=>by obtain⟨p,hp,hpt⟩:=gU.1 ht;exact gU.2 ⟨p,by simp[hp],hpt⟩
  have f0:Fr ((o::r).filterMap (·.o.dst)) ⟨e,h,n,gh⟩ ⟨e,h,n,gh⟩ s (Nc (some b) i s):=⟨[],rfl,w_.next hn⟩
  rcases h2 with⟨hw,call,x,u,aD,m,hc,he,hi,hu,hr2,hf⟩|⟨hw,hr2,hf⟩
  .have hm:m<=b+iT*(i+1):=fF hr2.r.next hb3;refine Ms hc ?_ (WD.mono (fun e' h' tr1'⟨s3,tr3,n3,g1,g2,g3⟩=>⟨s3,tr3,n3,g1,(f0.trans (hf.mono hfs)).trans (g2.mono hrs),g3⟩) (ih (i+1) _ _ _ _ _ _ _ (tr1++[(aD,u.map (·.1))]) h1 hr2 hb3 (ht.Rw hi fun j hj=>?_) hops2 (by simp[hlen1]) (Lj hlk ho0 fun hl=>Qo he hl)))
   .simp only[CH,hw];have he':cQ call o.o.k (o.o.args.map (kO e)) h (b+iT*i)=some (x,u,aD,m):=he;rw[he'];exact Rf hm
   .obtain ⟨p,hp,rfl⟩:=ci.1 hj;exact hu p hp
  .refine Ms qC ?_ (WD.mono (fun e' h' tr1'⟨s3,tr3,n3,g1,g2,g3⟩=>⟨s3,tr3,n3,g1,(f0.trans (hf.mono hfs)).trans (g2.mono hrs),g3⟩) (ih (i+1) _ _ _ _ _ _ _ (tr1++[([],[])]) h1 hr2 hb3 (ht.Rw (fun i hi=>by simp at hi) fun i hi=>by simp at hi) hops2 (by simp[hlen1]) (Lj hlk ho0 fun _=>Nat.zero_le _)));simp only[CH,hw]
end
def nv:C2->CC
 |.skip=>.skip
 |.NO ops none _=>.region (ops.map (·.o)) []
 |.NO ops (some dyn) _=>.drawn (ops.map (·.o)) dyn []
 |.seq a b _=>.seq (nv a) (nv b)
 |.cond c a b=>.cond c (nv a) (nv b)
 |.block id a=>.block id (nv a)
 |.loop _ _ a=>.loop [] (nv a)
 |.exit id=>.exit id
 |.ret=>.ret
 |.gu=>.gu
theorem OZ{s1:St}{s s':S2}{id:Nat}(hz:Rh s id=some s')(hr:R2 s1 s):∃s1',Sub s1 s1'/\R2 s1' s'/\Fr [] s1 s1' s s':=by
 unfold Rh at hz;split at hz
 .rename_i t v m id2 ho;split at hz
  .rename_i u r ver ho2;split at hz
   .rename_i r' hr';obtain rfl:=aa hz;obtain⟨e,e2⟩:=du hr';cases e;obtain rfl:r'=r:=e2;obtain⟨_,⟨d1,d2,d3⟩,hlen,hid2,hkk⟩:=hr.hr.ob id _ ho;obtain⟨_,⟨_,_,c3⟩,_⟩:=hr.hr.ob id2 _ ho2;obtain⟨k1,k2⟩:=hkk _ _ _ (.inl ho2);have hne:id2≠id:=fun e=>by rw[e,ho]at ho2;cases ho2
    cases v with
    |nil=>simp[Sl.l]at hlen
    |mk l=>
     have hlen:m<l.length:=hlen;have d3:=d3 l rfl
     have fin:∀(u:fJ),(∀p∈u,p.1=id\/p.1=id2)->aC (u++s1.heap) id=some (.nst (bE t) ((fR t l (some (m,id2))).set m (pm t r')))->Sub s1 ⟨s1.dO,u++s1.heap,s1.next,s1.gh⟩->
       ∃s1',Sub s1 s1'/\R2 s1' (e9 (e9 s id2 none) id (some (.rw t (.mk (l.set m r')) none)))/\Fr [] s1 s1' s (e9 (e9 s id2 none) id (some (.rw t (.mk (l.set m r')) none))):=by
      intro u hu hb hsub;have d:=(yl (aD:=[]) hr.hr ho ho2 hne (by simp[GU]) hu hb (fun i hi=>by simp at hi)).nx (q:=s1.next) hr.next;exact⟨_,hsub,((rS.none hr).kF d (d:=none) (q':=⟨[],[]⟩) rfl).r,Fr.Sk d none (v':=.no)⟩
     have hl:(fR t l (some (m,id2)))[m]?=some (Iy id2 (gt l m)):=by simp only[fR];rw[List.getElem?_set_self (by rw[aN];exact hlen)]
     cases r' with
     |nil=>
      refine fin [] (fun p hp=>by simp at hp) ?_ (Sub.refl _);have:gt l m=.nil:=by have k1:true=(gt l m).fN:=k1;cases hg:gt l m with|nil=>rfl|mk=>rw[hg]at k1;cases k1
      rw[bh,d3,Kp (by rw[hl,this];rfl)]
     |mk rr=>
      have c3:=c3 rr rfl;refine fin [(id,some (.nst (bE t) ((fR t l (some (m,id2))).set m (pm t (.mk rr))))),(id2,none)] (fun p hp=>by simp at hp;rcases hp with rfl|rfl<;>simp) (by rw[aU,eM,if_pos rfl]) ?_;have:Iy id2 (gt l m)=.dV id2 (rr.map (aT t)).length:=by have k1:false=(gt l m).fN:=k1;cases hg:gt l m with|nil=>rw[hg]at k1;cases k1|mk q=>have k2:rr.length=(gt l m).l.length:=k2;rw[hg]at k2;simp only[Iy,aN];rw[show rr.length=q.length from k2]
      exact EU d3 (by rw[hl,this]) c3
   .simp at hz
  .simp at hz
 .obtain rfl:=aa hz;exact⟨s1,Sub.refl _,hr,Fr.refl⟩
theorem O0:∀(l:List Nat){s1:St}{s s':S2},Ck l s=some s'->R2 s1 s->∃s1',Sub s1 s1'/\R2 s1' s'/\Fr [] s1 s1' s s':=by
 intro l;induction l with
 |nil=>intro s1 s s' hz hr;obtain rfl:=aa hz;exact⟨s1,Sub.refl _,hr,Fr.refl⟩
 |cons id l ih=>
  intro s1 s s' hz hr;simp only[Ck]at hz;split at hz
  .rename_i s2 h2;obtain⟨t1,a1,a2,a3⟩:=OZ h2 hr;obtain⟨t2,b1,b2,b3⟩:=ih hz a2;exact⟨t2,a1.trans b1,b2,a3.trans b3⟩
  .simp at hz
theorem C1{P:Program}{β:Type}{tb:EA}(htb:pJ P tb)(hg:lJ){ops:List OP}{dr:Option (List (Nat×Nat))}{jn:Option J}{s1:St}{s:S2}{k:S2->Option β}{z:β}(hz:Hy tb ops dr s k=some z)(hr:R2 s1 s):
  W P (nv (.NO ops dr jn)) s1 fun o s1'=>o=.normal/\∃s',R2 s1' s'/\Fr (ops.filterMap (·.o.dst)) s1 s1' s s'/\k s'=some z:=by
 have fin:∀{s1':St}{s':S2},R2 s1' s'->Fr (ops.filterMap (·.o.dst)) s1 s1' s s'->(Ri s s').bind k=some z->
   wk (fun t=>rZ.normal=rZ.normal/\∃s',R2 t s'/\Fr (ops.filterMap (·.o.dst)) s1 t s s'/\k s'=some z) s1':=by
  intro s1' s' h1 h2 h3;obtain⟨s2,h4,h5⟩:=rF h3;obtain⟨t,a1,a2,a3⟩:=O0 _ h4 h1;exact⟨t,a1,rfl,s2,a2,h2.trans (a3.mono fun i hi=>by simp at hi),h5⟩
 cases dr with
 |none=>refine J2 (WO.mono (fun s1'⟨s',tr',h1,h2,h3⟩=>fin h1 h2 h3) (IB htb hg ops 0 s1 s _ [] hz (rS.none hr)))
 |some dyn=>
  refine W.sub (s':={s1 with next:=s.next}) (Sub.heap (fun _=>.inl rfl) hr.next) (Nk (WD.mono (fun e' h' tr1 hq=>?_) (IC htb hg ops ops 0 s1.dO s1.heap s1.next s1.gh s _ [] [] hz (rS.none hr) (lE _ _) trivial (fun j=>by rw[bJ]) rfl (fun j o a _ h=>by simp at h))));obtain⟨s',tr',n',h1,h2,h3,h4,hlk,h5⟩:=hq;obtain⟨h6,h7⟩:=aO h5;have hn:s'.next<=s.next+iT*ops.length:=by rw[bJ]at h3;exact h3
  have hlen:s.next+iT*(ops.map (·.o)).length=s.next+iT*ops.length:=by rw[aN]
  rw[hlen];refine⟨QN h4 hlk h6,fin ((h1.mono hn).nx (au _)) ?_ h7⟩;obtain⟨w,e1,e2⟩:=h2;refine⟨w,e1,?_⟩;have a:w_ (ops.filterMap (·.o.dst)) [] s1 ⟨s1.dO,s1.heap,s1.next,s1.gh⟩ s s:=w_.next (au _);have b:w_ (ops.filterMap (·.o.dst)) [] ⟨e',h',n',s1.gh⟩ ⟨e',h',s.next+iT*ops.length,s1.gh⟩ s' {s' with next:=s.next+iT*ops.length}:=w_.next hn;simpa using e2.trans b
theorem LJ(l:List D):eN.mJ (l.map C.d)=[]:=by induction l with|nil=>rfl|cons a l ih=>simp only[aB,eN.mJ,eN,bh];exact ih
theorem LK(a b:List C):eN.mJ (a++b)=eN.mJ a++eN.mJ b:=by induction a with|nil=>rfl|cons c a ih=>simp only[aU,eN.mJ,ih,aL]
theorem oq(c:C):eN.mJ [c]=eN c:=by simp[eN.mJ]
theorem Ej{h:H2}{n:Nat}:∀{v:V}{cs:List C},fz h v cs->fw n h v->∀i∈eN.mJ cs,i<n/\(iB h v=true->fO h i≠none):=by
 have ex:∀id,(match fO h id with|some _=>true|none=>false)=true->fO h id≠none:=by intro id ha e;rw[e]at ha;simp at ha
 intro v;induction v with
 |x t v=>rintro cs ⟨_,rfl⟩ _ i hi;rw[LJ]at hi;simp at hi
 |kb c=>rintro cs rfl _ i hi;simp[eN.mJ,eN]at hi
 |nl k=>rintro cs rfl _ i hi;simp[eN.mJ,Dt,eN]at hi
 |so id=>rintro cs ⟨c,rfl,_,hc⟩ hk i hi;rw[oq]at hi;obtain rfl:=hc i hi;refine⟨hk,fun ha e=>?_⟩;simp[iB,e]at ha
 |sr id=>rintro cs ⟨c,rfl,_,hc⟩ hk i hi;rw[oq]at hi;obtain rfl:=hc i hi;refine⟨hk,fun ha e=>?_⟩;simp[iB,e]at ha
 |sb id ver lo t r=>rintro cs ⟨c,rfl,_,hc⟩ hk i hi;rw[oq]at hi;obtain rfl:=hc i hi;refine⟨hk.1,fun ha e=>?_⟩;simp[iB,e]at ha
 |op id t p=>
  rintro cs rfl hk i hi;rw[oq]at hi;obtain rfl:i=id:=by simpa[eN]using hi
  exact⟨hk.1,ex _⟩
 |ep id m t p=>
  rintro cs rfl hk i hi;rw[oq]at hi;obtain rfl:i=id:=by simpa[eN]using hi
  exact⟨hk.1,ex _⟩
 |om id=>
  rintro cs rfl hk i hi;rw[oq]at hi;obtain rfl:i=id:=by simpa[eN]using hi
  exact⟨hk,ex _⟩
 |pt t v=>rintro cs ⟨_,rfl⟩ _ i hi;simp[eN.mJ,eN]at hi
 |fn z f l ih=>intro cs hc hk i hi;cases z with|true=>obtain⟨ds,_,rfl⟩:=hc;simp[eN.mJ,eN]at hi|false=>obtain⟨xs,h1,rfl⟩:=hc;rw[oq]at hi;exact ih h1 hk i (by simpa[eN]using hi)
 |rc l ih=>intro cs hc hk;exact ih hc hk
 |fl l=>
  rintro cs ⟨_,rfl⟩ _ i hi;have:fy l=(l.map D.lit).map C.d:=by simp[fy]
  rw[this,LJ]at hi;simp at hi
 |ni=>rintro cs rfl _ i hi;simp[eN.mJ]at hi
 |co a r iha ihr=>
  rintro cs ⟨x,y,rfl,h1,h2⟩ ⟨k1,k2⟩ i hi;rw[LK,ap]at hi;simp only[iB,ai];rcases hi with hi|hi
  .exact ⟨(iha h1 k1 i hi).1,fun ha=>(iha h1 k1 i hi).2 ha.1⟩
  .exact ⟨(ihr h2 k2 i hi).1,fun ha=>(ihr h2 k2 i hi).2 ha.2⟩
 |tp l=>intro cs hc;exact hc.elim
 |no=>intro cs hc;exact hc.elim
 |gn=>intro cs hc;exact hc.elim
theorem xQ{h:H2}{n:Nat}{v:V}{x:TV}(hx:sn h v x)(hk:fw n h v):∀i∈lY x,i<n/\(iB h v=true->fO h i≠none):=by obtain⟨cs,h1,h2,h3⟩:=hx;intro i hi;refine Ej h1 hk i ?_;cases ha:sW v with|true=>rw[h2 ha]at hi;exact hi|false=>obtain⟨c,rfl,rfl⟩:=h3 ha;rw[oq];exact hi
theorem J9{h:H2}{n:Nat}:∀{v:V}{xs:List TV},Bq h v xs->fw n h v->∀i∈lY.z6 xs,i<n/\(iB h v=true->fO h i≠none):=by
 intro v;induction v with
 |ni=>rintro xs rfl _ i hi;simp[lY.z6]at hi
 |co a r _ ihr=>
  rintro xs ⟨x,ys,rfl,h1,h2⟩ ⟨k1,k2⟩ i hi;simp only[lY.z6,ap]at hi;simp only[iB,ai];rcases hi with hi|hi
  .exact ⟨(xQ h1 k1 i hi).1,fun ha=>(xQ h1 k1 i hi).2 ha.1⟩
  .exact ⟨(ihr h2 k2 i hi).1,fun ha=>(ihr h2 k2 i hi).2 ha.2⟩
 |_=>intro xs h;exact h.elim
theorem GR{h:H2}{n:Nat}{v:V}{x:TV}(hx:gG h v x)(hk:fw n h v):∀i∈lY x,i<n/\(iB h v=true->fO h i≠none):=by cases v with|tp l=>obtain⟨xs,rfl,h2⟩:=hx;intro i hi;exact J9 (v:=l) h2 hk i hi|no=>obtain rfl:=hx;intro i hi;simp[lY,lY.z6]at hi|gn=>exact hx.elim|_=>exact xQ hx hk
mutual
def sg(M:Nat->Nat->Prop):C->C->Prop
 |.d x,y=>y=.d x
 |.fk a i b c,y=>∃j,M i j/\y=.fk a j b c
 |.ep i b c,y=>∃j,M i j/\y=.ep j b c
 |.op i b,y=>∃j,M i j/\y=.op j b
 |.om i,y=>∃j,M i j/\y=.om j
 |.oR f l,y=>∃m,oO M l m/\y=.oR f m
def oO(M:Nat->Nat->Prop):List C->List C->Prop
 |[],m=>m=[]
 |c::l,m=>∃d r,sg M c d/\oO M l r/\m=d::r
end
mutual
def Ez(M:Nat->Nat->Prop):TV->TV->Prop
 |.c x,y=>∃d,sg M x d/\y=.c d
 |.agg l,y=>∃m,oO M l m/\y=.agg m
 |.iQ l,y=>∃m,Ah M l m/\y=.iQ m
def Ah(M:Nat->Nat->Prop):List TV->List TV->Prop
 |[],m=>m=[]
 |c::l,m=>∃d r,Ez M c d/\Ah M l r/\m=d::r
end
section
variable{M:Nat->Nat->Prop}
theorem oO.d(l:List D):oO M (l.map .d) (l.map .d):=by induction l with|nil=>rfl|cons a l ih=>exact⟨_,_,rfl,ih,rfl⟩
theorem oO.Rw{a b x y:List C}(h1:oO M a x)(h2:oO M b y):oO M (a++b) (x++y):=by induction a generalizing x with|nil=>obtain rfl:=h1;exact h2|cons c a ih=>obtain⟨d,r,h3,h4,rfl⟩:=h1;exact⟨d,r++y,h3,ih h4,rfl⟩
theorem oO.one{c d:C}(h:sg M c d):oO M [c] [d]:=⟨d,[],h,rfl,rfl⟩
mutual
theorem sg.eh:∀(c:C),(∀i∈eN c,M i i)->sg M c c
 |.d x,_=>rfl
 |.fk a i b c,h=>⟨i,h i (by simp[eN]),rfl⟩
 |.ep i b c,h=>⟨i,h i (by simp[eN]),rfl⟩
 |.op i b,h=>⟨i,h i (by simp[eN]),rfl⟩
 |.om i,h=>⟨i,h i (by simp[eN]),rfl⟩
 |.oR f l,h=>⟨l,oO.eh l (fun i hi=>h i (by simpa[eN]using hi)),rfl⟩
theorem oO.eh:∀(l:List C),(∀i∈eN.mJ l,M i i)->oO M l l
 |[],_=>rfl
 |c::l,h=>⟨c,l,sg.eh c (fun i hi=>h i (by simp[eN.mJ,hi])),oO.eh l (fun i hi=>h i (by simp[eN.mJ,hi])),rfl⟩
end
mutual
theorem Ez.eh:∀(x:TV),(∀i∈lY x,M i i)->Ez M x x
 |.c x,h=>⟨x,sg.eh x h,rfl⟩
 |.agg l,h=>⟨l,oO.eh l h,rfl⟩
 |.iQ l,h=>⟨l,Ah.eh l h,rfl⟩
theorem Ah.eh:∀(l:List TV),(∀i∈lY.z6 l,M i i)->Ah M l l
 |[],_=>rfl
 |c::l,h=>⟨c,l,Ez.eh c (fun i hi=>h i (by simp[lY.z6,hi])),Ah.eh l (fun i hi=>h i (by simp[lY.z6,hi])),rfl⟩
end
mutual
theorem sg.se{i' i:Nat}(hm:M i' i):∀(c:C),(∀j∈eN c,j=i)->∃c',sg M c' c/\∀j∈eN c',j=i'
 |.d x,_=>⟨.d x,rfl,fun j hj=>by simp[eN]at hj⟩
 |.fk a j b c,h=>by obtain rfl:=h j (by simp[eN]);exact⟨.fk a i' b c,⟨_,hm,rfl⟩,fun j hj=>by simpa[eN]using hj⟩
 |.ep j b c,h=>by obtain rfl:=h j (by simp[eN]);exact⟨.ep i' b c,⟨_,hm,rfl⟩,fun j hj=>by simpa[eN]using hj⟩
 |.op j b,h=>by obtain rfl:=h j (by simp[eN]);exact⟨.op i' b,⟨_,hm,rfl⟩,fun j hj=>by simpa[eN]using hj⟩
 |.om j,h=>by obtain rfl:=h j (by simp[eN]);exact⟨.om i',⟨_,hm,rfl⟩,fun j hj=>by simpa[eN]using hj⟩
 |.oR f l,h=>by obtain⟨l',h1,h2⟩:=oO.se hm l (fun j hj=>h j (by simpa[eN]using hj));exact⟨.oR f l',⟨l,h1,rfl⟩,fun j hj=>h2 j (by simpa[eN]using hj)⟩
theorem oO.se{i' i:Nat}(hm:M i' i):∀(l:List C),(∀j∈eN.mJ l,j=i)->∃l',oO M l' l/\∀j∈eN.mJ l',j=i'
 |[],_=>⟨[],rfl,fun j hj=>by simp[eN.mJ]at hj⟩
 |c::l,h=>by obtain⟨c',h1,h2⟩:=sg.se hm c (fun j hj=>h j (by simp[eN.mJ,hj]));obtain⟨l',h3,h4⟩:=oO.se hm l (fun j hj=>h j (by simp[eN.mJ,hj]));refine⟨c'::l',⟨c,l,h1,h3,rfl⟩,fun j hj=>?_⟩;simp only[eN.mJ,ap]at hj;exact hj.elim (h2 j) (h4 j)
end
mutual
theorem sg.eq(B:Nat->Prop)(hM:∀i j,M i j->i=j\/B j):∀(c' c:C),sg M c' c->(∀i∈eN c,¬B i)->c'=c
 |.d x,c,h,_=>h.symm
 |.fk a i b e,c,h,hb=>by
  obtain⟨j,h1,rfl⟩:=h;rcases hM i j h1 with rfl|q
  .rfl
  .exact absurd q (hb j (by simp[eN]))
 |.ep i b e,c,h,hb=>by
  obtain⟨j,h1,rfl⟩:=h;rcases hM i j h1 with rfl|q
  .rfl
  .exact absurd q (hb j (by simp[eN]))
 |.op i b,c,h,hb=>by
  obtain⟨j,h1,rfl⟩:=h;rcases hM i j h1 with rfl|q
  .rfl
  .exact absurd q (hb j (by simp[eN]))
 |.om i,c,h,hb=>by
  obtain⟨j,h1,rfl⟩:=h;rcases hM i j h1 with rfl|q
  .rfl
  .exact absurd q (hb j (by simp[eN]))
 |.oR f l,c,h,hb=>by obtain⟨m,h1,rfl⟩:=h;rw[oO.eq B hM l m h1 fun i hi=>hb i (by simpa[eN]using hi)]
theorem oO.eq(B:Nat->Prop)(hM:∀i j,M i j->i=j\/B j):∀(l' l:List C),oO M l' l->(∀i∈eN.mJ l,¬B i)->l'=l
 |[],l,h,_=>h.symm
 |c::r,l,h,hb=>by obtain⟨d,m,h1,h2,rfl⟩:=h;rw[sg.eq B hM c d h1 fun i hi=>hb i (by simp[eN.mJ,hi]),oO.eq B hM r m h2 fun i hi=>hb i (by simp[eN.mJ,hi])]
end
theorem Ez.Ve(B:Nat->Prop)(hM:∀i j,M i j->i=j\/B j){x' x:TV}(h:Ez M x' x)(hn:∀l,x'≠.iQ l)(hb:∀i∈lY x,¬B i):x'=x:=by cases x' with|c a=>obtain⟨d,h1,rfl⟩:=h;rw[sg.eq B hM a d h1 hb]|agg a=>obtain⟨d,h1,rfl⟩:=h;rw[oO.eq B hM a d h1 hb]|iQ l=>exact absurd rfl (hn l)
theorem oO.len:∀{l m:List C},oO M l m->l.length=m.length
 |[],m,h=>by obtain rfl:=h;rfl
 |c::l,m,h=>by obtain⟨d,r,_,h2,rfl⟩:=h;simp[oO.len h2]
section
variable{S:Nat->Prop}{w:World}{Kn Kn':Nat->Prop}{φ φ':Nat->gN}
mutual
theorem sg.rc(hM:∀i j,M i j->Kn j->Kn' i/\φ' i=φ j):∀(c' c:C)(v:Value),sg M c' c->RC S w Kn φ c v->RC S w Kn' φ' c' v
 |.d x,c,v,h,hr=>by obtain rfl:=h;cases hr with|d hd=>exact .d hd
 |.fk a i b e,c,v,h,hr=>by obtain⟨j,h1,rfl⟩:=h;obtain⟨cap,addr,rfl,rfl,hk,hcap,haddr,hext,hcl⟩:=hr.kf;obtain⟨e2,e1⟩:=hM i j h1 hk;have:=RC.fk (S:=S) (w:=w) (Kn:=Kn') (φ:=φ') (id:=i) (off:=b) (len:=e) (cap:=cap) (addr:=addr) e2 hcap (by rw[e1];exact haddr) (by rw[e1];exact hext) (by rw[e1];exact hcl);rw[e1]at this;exact this
 |.ep i b e,c,v,h,hr=>by obtain⟨j,h1,rfl⟩:=h;cases hr with|ep hk=>obtain⟨e2,e1⟩:=hM i j h1 hk;have:=RC.ep (S:=S) (w:=w) (Kn:=Kn') (φ:=φ') (id:=i) (dj:=b) (off:=e) e2;rw[e1]at this;exact this
 |.op i b,c,v,h,hr=>by obtain⟨j,h1,rfl⟩:=h;cases hr with|op hk=>obtain⟨e2,e1⟩:=hM i j h1 hk;have:=RC.op (S:=S) (w:=w) (Kn:=Kn') (φ:=φ') (id:=i) (off:=b) e2;rw[e1]at this;exact this
 |.om i,c,v,h,hr=>by obtain⟨j,h1,rfl⟩:=h;cases hr with|om hk=>obtain⟨e2,e1⟩:=hM i j h1 hk;have:=RC.om (S:=S) (w:=w) (Kn:=Kn') (φ:=φ') (id:=i) e2;rw[e1]at this;exact this
 |.oR f l,c,v,h,hr=>by obtain⟨m,h1,rfl⟩:=h;cases hr with|oR hlen hrc=>exact .oR ((oO.len h1).trans hlen) (oO.rc hM l m _ h1 hrc)
theorem oO.rc(hM:∀i j,M i j->Kn j->Kn' i/\φ' i=φ j):∀(l' l:List C)(f:Nat->Value),oO M l' l->(∀(i:Nat)(x:C),l[i]?=some x->RC S w Kn φ x (f i))->∀(i:Nat)(x:C),l'[i]?=some x->RC S w Kn' φ' x (f i)
 |[],l,f,h,_=>fun i x hi=>by simp at hi
 |c::r,l,f,h,hr=>by
  obtain⟨d,m,h1,h2,rfl⟩:=h;intro i x hi;cases i with
  |zero=>
   obtain rfl:c=x:=by simpa using hi
   exact sg.rc hM c d _ h1 (hr 0 d rfl)
  |succ i=>exact oO.rc hM r m (fun i=>f (i+1)) h2 (fun i x hi=>hr (i+1) x (by simpa using hi)) i x (by simpa using hi)
end
mutual
theorem Ez.rc(hM:∀i j,M i j->Kn j->Kn' i/\φ' i=φ j):∀(x' x:TV)(v:Value),Ez M x' x->gm S w Kn φ x v->gm S w Kn' φ' x' v
 |.c a,x,v,h,hr=>by obtain⟨d,h1,rfl⟩:=h;cases hr with|c hr=>exact .c (sg.rc hM a d v h1 hr)
 |.agg a,x,v,h,hr=>by obtain⟨d,h1,rfl⟩:=h;cases hr with|agg hlen hr=>exact .agg ((oO.len h1).trans hlen) (oO.rc hM a d _ h1 hr)
 |.iQ a,x,v,h,hr=>by obtain⟨d,h1,rfl⟩:=h;cases hr with|iQ hlen hr=>obtain⟨e1,e2⟩:=Ah.rc hM a d _ h1 hr;exact .iQ (e1.trans hlen) e2
theorem Ah.rc(hM:∀i j,M i j->Kn j->Kn' i/\φ' i=φ j):∀(l' l:List TV)(f:Nat->Value),Ah M l' l->(∀(i:Nat)(x:TV),l[i]?=some x->gm S w Kn φ x (f i))->l'.length=l.length/\∀(i:Nat)(x:TV),l'[i]?=some x->gm S w Kn' φ' x (f i)
 |[],l,f,h,_=>by obtain rfl:=h;exact⟨rfl,fun i x hi=>by simp at hi⟩
 |c::r,l,f,h,hr=>by
  obtain⟨d,m,h1,h2,rfl⟩:=h;obtain⟨e1,e2⟩:=Ah.rc hM r m (fun i=>f (i+1)) h2 (fun i x hi=>hr (i+1) x (by simpa using hi));refine⟨by simp[e1],fun i x hi=>?_⟩;cases i with
  |zero=>
   obtain rfl:c=x:=by simpa using hi
   exact Ez.rc hM c d _ h1 (hr 0 d rfl)
  |succ i=>exact e2 i x (by simpa using hi)
end
end
end
theorem Mw{s1 s1':St}{s:S2}(hr:R2 s1 s){t id ver lo v0:Nat}{u u0:Ty}{x:Sl (El u)}{s0:Sl (El u0)}(hid:id<s.next)(he:∀t',t'≠t->cu s1'.dO t'=cu s1.dO t')(ht1:cu s1'.dO t=some (.c (mQ (bE u) (aT u) s.next x)))
  (hh:∀i,i≠id->i≠s.next->aC s1'.heap i=aC s1.heap i) (hn:∀g,yv g (.ar u x 0) (aC s1'.heap s.next)) (hnx:s1'.next<=s.next+1) (hgh:s1'.gh=s1.gh) (hte:∀x0,cu s1.dO t=some x0->id∉lY x0->cu s1'.dO t=some x0):
  R2 s1' ⟨(t,.so s.next)::s.dO,(s.next,some (.ar u x 0))::(id,none)::s.heap,s.next+1,s.next::id::s.wo,s.gh⟩/\
  Fr [] s1 s1' s ⟨(t,.so s.next)::s.dO,(s.next,some (.ar u x 0))::(id,none)::s.heap,s.next+1,s.next::id::s.wo,s.gh⟩:=by
 have hfo:∀i,fO ((s.next,some (.ar u x 0))::(id,none)::s.heap) i=if s.next=i then some (.ar u x 0)else if id=i then none else fO s.heap i:=fun i=>by rw[eD,eD]
 have eV:lN s.next s.heap ((s.next,some (.ar u x 0))::(id,none)::s.heap):=⟨fun i o' hi ho=>by
  rw[hfo,if_neg (by omega)]at ho;split at ho
  .simp at ho
  .exact .inl ⟨o',ho,Cs.refl _⟩⟩
 have hnb:∀i,i<s.next->fO s.heap i=none->fO ((s.next,some (.ar u x 0))::(id,none)::s.heap) i=none:=fun i hi h=>by
  rw[hfo,if_neg (by omega)];split
  .rfl
  .exact h
 refine⟨⟨fun t' v ht'=>?_,⟨fun i o ho=>?_⟩,hnx,?_⟩,?_⟩
 .simp only[cu]at ht';by_cases e:t=t'
  .subst e;have e':(t==t)=true:=by simp
   rw[e',cond_true]at ht';obtain rfl:=aa ht';exact⟨aZ _,fun _=>⟨_,ht1,v_⟩⟩
  .have e':(t==t')=false:=by simpa using e
   rw[e',cond_false]at ht';obtain⟨h1,h2⟩:=hr.dO t' v ht';refine⟨gR (bN _) eV h1,fun ha=>?_⟩;obtain⟨y,h3,h4⟩:=h2 (ha.imp (vA eV hnb h1) fun q=>q);exact⟨y,(he t' fun q=>e q.symm).trans h3,uP eV h1 h4⟩
 .have ho':=ho;rw[hfo]at ho;split at ho
  .rename_i e;subst e;obtain rfl:=aa ho;exact⟨aZ _,hn _,trivial⟩
  .rename_i e;split at ho
   .simp at ho
   .rename_i e2;obtain⟨h1,h2,h3⟩:=hr.hr.ob i o ho;rw[hh i (fun q=>e2 q.symm) (fun q=>e q.symm)];exact⟨Nat.lt_succ_of_lt h1,sC eV h3 h2,sB (bN _) eV h3⟩
 .rw [hgh];exact⟨DT eV hnb hr.gh.2 hr.gh.1,gR (bN _) eV hr.gh.2⟩
 .refine ⟨[s.next,id],rfl,bN _,eV,by rw[hgh],fun i hi hw=>?_,fun t' y _ hy hk=>?_⟩
  .simp only[aP,List.not_mem_nil,or_false,not_or]at hw;refine⟨?_,fun o _ g hg=>by rw[hh i hw.2 hw.1];exact hg⟩;show fO ((s.next,some (.ar u x 0))::(id,none)::s.heap) i=_;rw[hfo,if_neg fun q=>hw.1 q.symm,if_neg fun q=>hw.2 q.symm]
  .by_cases e:t'=t
   .subst e;exact hte y hy fun q=>(hk id q).2.1 (by simp)
   .rw [he t' e];exact hy
theorem OB{s1:St}{s:S2}(hr:R2 s1 s){t id ver lo v0:Nat}{u u0:Ty}{x:Sl (El u)}{s0:Sl (El u0)}(ht:cu s.dO t=some (.sb id ver lo u x))(ho:fO s.heap id=some (.ar u0 s0 v0))(hd:kV u=true)(hv:(v0==ver)=true):
  ∃s1',Sub s1 s1'/\R2 s1' ⟨(t,.so s.next)::s.dO,(s.next,some (.ar u x 0))::(id,none)::s.heap,s.next+1,s.next::id::s.wo,s.gh⟩/\
   Fr [] s1 s1' s ⟨(t,.so s.next)::s.dO,(s.next,some (.ar u x 0))::(id,none)::s.heap,s.next+1,s.next::id::s.wo,s.gh⟩:=by
 obtain⟨hk,hx⟩:=hr.dO t _ ht;have ha:iB s.heap (.sb id ver lo u x)=true:=by simp only[iB,ho,hd,hv,Bool.and_self]
 obtain⟨y,hy,hty⟩:=hx (.inl ha);obtain rfl:=qd hty ha;obtain⟨hid,hk2⟩:=hk;obtain⟨_,hcut⟩:=hk2 u0 s0 v0 (.inl ho);obtain⟨hsz,hcut⟩:=hcut (by simpa using hv);obtain⟨hd0,hs0,hlk⟩:=(hr.hr.ob id _ ho).2.1;have hne:id≠s.next:=Nat.ne_of_lt hid;cases s0 with
 |nil=>cases x with|mk l=>exact hcut.elim|nil=>refine⟨{s1 with next:=s.next},Sub.heap (fun _=>.inl rfl) hr.next,Mw (v0:=0) (ver:=0) (lo:=0) (u0:=u) (s0:=.nil) hr hid (fun _ _=>rfl) hy (fun _ _ _=>rfl) (fun g=>⟨hd,hsz▸hs0,fun l e=>by cases e⟩) (bN _) rfl fun x0 h0 _=>h0⟩
 |mk l0=>
  cases x with
  |nil=>exact hcut.elim
  |mk l=>
   obtain⟨h1,h2⟩:=hcut;have hlk:=hlk l0 rfl;have hsub:=Nv (n:=s.next) (gh:=s1.gh) (rows':=l.map (aT u)) hy hlk (by rw[aN];exact h2) (by rw[aN,aN];exact h1);refine⟨_,Sub.trans (Sub.heap (fun _=>.inl rfl) hr.next) hsub,Mw (v0:=0) (ver:=0) (lo:=0) (u0:=u) (s0:=.nil) hr hid (fun t' ht'=>?_) ?_ (fun i h3 h4=>?_) (fun g=>⟨hd,hsz▸hs0,fun l' e=>?_⟩) (au _) rfl fun x0 h0 h3=>?_⟩
   .have e':(t==t')=false:=by simpa using fun q:t=t'=>ht' q.symm
    simp only[cu,e',cond_false]
   .simp only[cu,mQ];simp
   .simp only[eM];rw[if_neg fun q=>h3 q.symm,if_neg fun q=>h4 q.symm]
   .cases e;simp only[eM];rw[if_neg hne];simp
   .rw [hy]at h0;obtain rfl:=aa h0;exact absurd (by simp[lY,zO,eN]) h3
theorem A7:∀(vs:List (Nat×JV))(s1:St)(s:S2),R2 s1 s->∃s1',Sub s1 s1'/\R2 s1' (Ad vs s)/\Fr [] s1 s1' s (Ad vs s):=by
 intro vs;induction vs with
 |nil=>intro s1 s hr;exact⟨s1,Sub.refl _,hr,Fr.refl⟩
 |cons p r ih=>
  obtain⟨t,jv⟩:=p;intro s1 s hr;cases jv with
  |so j=>
   simp only[Ad];split
   .rename_i id ver lo u x ht;split
    .rename_i u0 s0 v0 ho;cases hc:(kV u&&v0==ver)with|false=>exact ih s1 s hr|true=>simp only[ai]at hc;obtain⟨s2,h1,h2,h3⟩:=OB hr ht ho hc.1 hc.2;obtain⟨s3,h4,h5,h6⟩:=ih s2 _ h2;exact⟨s3,h1.trans h4,h5,h3.trans h6⟩
    .exact ih s1 s hr
   .exact ih s1 s hr
  |_=>exact ih s1 s hr
def Bm(m:List Bd):Prop:=∀b∈m,∀c∈m,(b.j=c.j->b=c)/\∀i,b.id=some i->c.id=some i->b=c
theorem zr:∀{m:List Bd}{j:Nat}{b:Bd},MQ m j=some b->b∈m/\b.j=j:=by
 intro m;induction m with
 |nil=>intro j b h;simp[MQ]at h
 |cons c m ih=>intro j b h;simp only[MQ]at h;cases hc:(c.j==j)with|true=>rw[hc,cond_true]at h;obtain rfl:=aa h;exact⟨by simp,by simpa using hc⟩|false=>rw[hc,cond_false]at h;exact⟨aA _ (ih h).1,(ih h).2⟩
theorem Eo:∀{m:List Bd}{j:Nat},MQ m j=none->∀b∈m,b.j≠j:=by
 intro m;induction m with
 |nil=>intro j _ b hb;simp at hb
 |cons c m ih=>
  intro j h b hb;simp only[MQ]at h;cases hc:(c.j==j)with
  |true=>rw[hc]at h;simp at h
  |false=>
   rw[hc,cond_false]at h;rcases aP.1 hb with rfl|hb
   .simpa using hc
   .exact ih h b hb
theorem mx{m m':List Bd}{b:Bd}(h:vx m b=some m'):b∈m'/\(∀c∈m,c∈m')/\(Bm m->Bm m'):=by
 unfold vx at h;split at h
 .rename_i hn;have hn:=Eo hn;have hfresh:m'=b::m/\∀c∈m,∀i,b.id=some i->c.id≠some i:=by obtain⟨hc,h⟩:=aO h;obtain rfl:=aa h;refine⟨rfl,fun c hcm i hi e=>?_⟩;rw[hi]at hc;have:=bc.1 hc c hcm;rw[e]at this;simp at this
  obtain⟨rfl,hf⟩:=hfresh;refine⟨by simp,fun c hc=>aA _ hc,fun hi x hx y hy=>?_⟩;rcases aP.1 hx with ex|hx2<;>rcases aP.1 hy with ey|hy2
  .subst ex;subst ey;exact⟨fun _=>rfl,fun _ _ _=>rfl⟩
  .subst ex;exact⟨fun e=>absurd e.symm (hn y hy2),fun i h1 h2=>absurd h2 (hf y hy2 i h1)⟩
  .subst ey;exact⟨fun e=>absurd e (hn x hx2),fun i h1 h2=>absurd h1 (hf x hx2 i h2)⟩
  .exact hi x hx2 y hy2
 .rename_i c hc;obtain⟨h1,h2⟩:=zr hc;split at h
  .rename_i i i' hi hi';obtain⟨he,h⟩:=aO h;obtain rfl:=aa h;obtain rfl:i=i':=by simpa using he
   have:b=c:=by cases b;cases c;simp only at hi hi' h2;subst hi;subst hi';subst h2;rfl
   exact⟨this▸h1,fun _ h=>h,fun h=>h⟩
  .simp at h
theorem tO:∀(jv:JV)(ln:Bool)(v:V)(m:List Bd)(l:List V)(m1:List Bd),dw jv ln v m=some (l,m1)->(∀c∈m,c∈m1)/\(Bm m->Bm m1):=by
 have b1:∀(m:List Bd)(b:Bd)(l:List V)(m1:List Bd),(match vx m b with|some m=>some (([]:List V),m)|none=>none)=some (l,m1)->(∀c∈m,c∈m1)/\(Bm m->Bm m1):=by
  intro m b l m1 h;split at h
  .rename_i m' hm;obtain⟨_,rfl⟩:=ad (aa h);exact(mx hm).2
  .simp at h
 intro jv;induction jv with
 |co a r iha ihr=>
  intro ln v m l m1 h;cases ln with
  |false=>cases v<;>simp[dw]at h
  |true=>
   cases v with
   |co x y=>
    simp only[dw]at h;split at h
    .rename_i l2 m2 h2;split at h
     .rename_i l3 m3 h3;obtain⟨_,rfl⟩:=ad (aa h);obtain⟨a1,a2⟩:=iha _ _ _ _ _ h2;obtain⟨c1,c2⟩:=ihr _ _ _ _ _ h3;exact⟨fun c hc=>c1 c (a1 c hc),fun hi=>c2 (a2 hi)⟩
     .simp at h
    .simp at h
   |_=>simp[dw]at h
 |rc a ih=>
  intro ln v m l m1 h;cases ln with
  |true=>cases v<;>simp[dw]at h
  |false=>
   cases v with
   |rc l'=>exact ih _ _ _ _ _ h
   |x t v=>cases t<;>first|exact ih _ _ _ _ _ h|simp[dw]at h
   |_=>simp[dw]at h
 |fn z f a ih=>
  intro ln v m l m1 h;cases ln with
  |true=>cases v<;>simp[dw]at h
  |false=>cases v with|fn z' f' l'=>simp only[dw]at h;obtain⟨_,h⟩:=aO h;exact ih _ _ _ _ _ h|_=>simp[dw]at h
 |so j=>
  intro ln v m l m1 h;cases ln with
  |true=>cases v<;>simp[dw]at h
  |false=>
   cases v with
   |so id=>exact b1 _ _ _ _ h
   |nl k=>cases k with|zero=>exact b1 _ _ _ _ h|succ=>simp[dw]at h
   |x t v=>cases t with|sl u=>exact b1 _ _ _ _ (aO h).2|_=>simp[dw]at h
   |_=>simp[dw]at h
 |om j=>
  intro ln v m l m1 h;cases ln with
  |true=>cases v<;>simp[dw]at h
  |false=>cases v with|om id=>exact b1 _ _ _ _ h|_=>simp[dw]at h
 |sr j=>
  intro ln v m l m1 h;cases ln with
  |true=>cases v<;>simp[dw]at h
  |false=>cases v with|sr id=>exact b1 _ _ _ _ h|_=>simp[dw]at h
 |op j t p=>
  intro ln v m l m1 h;cases ln with
  |true=>cases v<;>simp[dw]at h
  |false=>cases v with|op id u q=>simp only[dw]at h;obtain⟨_,h⟩:=aO h;exact b1 _ _ _ _ h|_=>simp[dw]at h
 |x t=>
  intro ln v m l m1 h;cases ln with
  |true=>cases v<;>simp[dw]at h
  |false=>
   simp only[dw]at h;split at h
   .obtain ⟨_,rfl⟩:=ad (aa h);exact⟨fun _ h=>h,fun h=>h⟩
   .simp at h
 |pt t=>
  intro ln v m l m1 h;cases ln with
  |true=>cases v<;>simp[dw]at h
  |false=>
   cases v with
   |pt u v=>
    simp only[dw]at h;split at h
    .obtain ⟨_,rfl⟩:=ad (aa h);exact⟨fun _ h=>h,fun h=>h⟩
    .simp at h
   |_=>simp[dw]at h
 |nl k=>
  intro ln v m l m1 h;cases ln with
  |true=>cases v<;>simp[dw]at h
  |false=>cases v with|nl k'=>simp only[dw]at h;obtain⟨_,h⟩:=aO h;obtain⟨_,rfl⟩:=ad (aa h);exact⟨fun _ h=>h,fun h=>h⟩|_=>simp[dw]at h
 |ni=>
  intro ln v m l m1 h;cases ln with
  |false=>cases v<;>simp[dw]at h
  |true=>cases v with|ni=>obtain⟨_,rfl⟩:=ad (aa h);exact⟨fun _ h=>h,fun h=>h⟩|_=>simp[dw]at h
 |sm=>intro ln v m l m1 h;cases ln<;>cases v<;>simp[dw]at h
 |gn=>intro ln v m l m1 h;cases ln<;>cases v<;>simp[dw]at h
structure Cx(h' h'':H2)(aR n'':Nat)(mf:List Bd)(M:Nat->Nat->Prop):Prop where
 m:∀b∈mf,∀i,b.id=some i->M (aR+b.j) i
 n:∀b∈mf,aR+b.j<n''
 so:∀b∈mf,∀i,b.id=some i->∀c',Au (aR+b.j) (fO h'' (aR+b.j))=some c'->∃t s,c'=mQ (bE t) (aT t) (aR+b.j) s/\Au i (fO h' i)=some (mQ (bE t) (aT t) i s)
 sr:∀b∈mf,∀i,b.id=some i->∀c',EZ (aR+b.j) (fO h'' (aR+b.j))=some c'->∃(t:Ty)(s:Sl (Sl (El t))),c'=mQ 1 (aT (.sl t)) (aR+b.j) s/\EZ i (fO h' i)=some (mQ 1 (aT (.sl t)) i s)
 nl:∀b∈mf,b.id=none->∀c',Au (aR+b.j) (fO h'' (aR+b.j))=some c'->c'=Dt 0
theorem Fv:∀{q:pR}{p:List Nat},C9 q=some p->q=p.map .fd:=by
 intro q;induction q with
 |nil=>intro p h;obtain rfl:=aa h;rfl
 |cons a q ih=>
  intro p h;cases a with
  |ix=>simp[C9]at h
  |fd i=>
   simp only[C9]at h;split at h
   .rename_i l hl;obtain rfl:=aa h;rw[ih hl];rfl
   .simp at h
theorem Kv{b:Nat}{a r:JV}{l:List V}{v0 v':V}{r':List V}(h:iS b (.co a r) true l v0=some (v',r')):∃x0 y0 v l1 w,iS b a false l x0=some (v,l1)/\iS b r true l1 y0=some (w,r')/\v'=.co v w:=by
 have key:∀(x0 y0:V),(match iS b a false l x0 with|some (v,l)=>(match iS b r true l y0 with|some (w,l)=>some (V.co v w,l)|none=>none)|none=>none)=some (v',r')->∃x0 y0 v l1 w,iS b a false l x0=some (v,l1)/\iS b r true l1 y0=some (w,r')/\v'=.co v w:=by
  intro x0 y0 h;split at h
  .rename_i v l1 h1;split at h
   .rename_i w l2 h2;obtain⟨rfl,rfl⟩:=ad (aa h);exact⟨x0,y0,v,l1,w,h1,h2,rfl⟩
   .simp at h
  .simp at h
 cases v0 with|co x y=>exact key x y h|_=>exact key .gn .ni h
theorem RK{b:Nat}{t:Ty}{y:El t}{rest:List V}{v0 v':V}{r':List V}(h:iS b (.x t) false (.x t y::rest) v0=some (v',r')):kV t=true/\v'=.x t y/\r'=rest:=by simp only[iS]at h;obtain⟨h1,h⟩:=aO h;obtain⟨rfl,rfl⟩:=ad (aa h);simp only[decide_true,Bool.true_and]at h1;exact⟨h1,rfl,rfl⟩
theorem Ku{b:Nat}{t:Ty}{y:El t}{rest:List V}{v0 v':V}{r':List V}(h:iS b (.pt t) false (.x t y::rest) v0=some (v',r')):kV t=true/\v'=.pt t y/\r'=rest:=by simp only[iS]at h;obtain⟨h1,h⟩:=aO h;obtain⟨rfl,rfl⟩:=ad (aa h);simp only[decide_true,Bool.true_and]at h1;exact⟨h1,rfl,rfl⟩
theorem JD{aR:Nat}:∀(jv:JV)(v:V)(m:List Bd)(l:List V)(m1:List Bd)(rest:List V)(v0 v':V)(r':List V)(ds:List D),dw jv true v m=some (l,m1)->qt v=some ds->iS aR jv true (l++rest) v0=some (v',r')->
  r'=rest/\qt v'=some ds/\∀n h,fw n h v':=by
 intro jv;induction jv with
 |co a r _ ihr=>
  intro v m l m1 rest v0 v' r' ds hc hd hr;cases v with
  |co x y=>
   simp only[dw]at hc;split at hc
   .rename_i l1 m2 h1;split at hc
    .rename_i l2 m3 h2;obtain⟨rfl,rfl⟩:=ad (aa hc);obtain⟨x0,y0,w1,r1,w2,e1,e2,rfl⟩:=Kv hr;simp only[qt]at hd;split at hd
     .rename_i d1 d2 hd1 hd2;obtain rfl:=aa hd;rw[aL]at e1
      have hx:∃t z,x=.pt t z/\kV t=true/\d1=[.pt (aT t z)]:=by
       cases x with
       |pt t z=>
        simp only[qt]at hd1;split at hd1
        .exact ⟨t,z,rfl,by assumption,(aa hd1).symm⟩
        .simp at hd1
       |ni=>cases a<;>simp[dw]at h1<;>simp[tL,kP,ii]at h1
       |co=>cases a<;>simp[dw]at h1<;>simp[tL,kP,ii]at h1
       |_=>simp[qt]at hd1
      obtain⟨t,z,rfl,hdt,rfl⟩:=hx
      have ha:∃u z',gM t u z=some z'/\a=.pt u/\l1=[.x u z']:=by
       cases a with
       |pt u=>
        simp only[dw]at h1;split at h1
        .rename_i z' hz';obtain⟨rfl,_⟩:=ad (aa h1);exact⟨u,z',hz',rfl,rfl⟩
        .simp at h1
       |x u=>simp only[dw]at h1;split at h1<;>rename_i hh<;>simp[tL,kP,ii]at hh;simp at h1
       |_=>simp[dw]at h1
      obtain⟨u,z',hz',rfl,rfl⟩:=ha;obtain⟨rfl,rfl⟩:=du hz';obtain⟨_,rfl,rfl⟩:=Ku e1;obtain⟨rfl,g2,g3⟩:=ihr _ _ _ _ _ _ _ _ _ h2 hd2 e2;refine⟨rfl,?_,fun n h=>⟨trivial,g3 n h⟩⟩;simp only[qt,hdt,if_true,g2]
     .simp at hd
    .simp at hc
   .simp at hc
  |_=>simp[dw]at hc
 |ni=>intro v m l m1 rest v0 v' r' ds hc hd hr;cases v with|ni=>obtain⟨rfl,_⟩:=ad (aa hc);simp only[iS]at hr;obtain⟨rfl,rfl⟩:=ad (aa hr);exact⟨rfl,hd,fun _ _=>trivial⟩|_=>simp[dw]at hc
 |_=>intro v m l m1 rest v0 v' r' ds hc hd hr;cases v<;>simp[dw]at hc
section
variable{h' h'':H2}{n' n'' aR:Nat}{mf:List Bd}{M:Nat->Nat->Prop}
theorem PW(cx:Cx h' h'' aR n'' mf M){b:Bd}(hb:b∈mf){i:Nat}(hi:b.id=some i){c:C}(hc:(∀c',Au i (fO h' i)=some c'->c=c')/\Qw i c):∃c',fz h'' (.so (aR+b.j)) [c']/\sg M c' c:=by
 obtain⟨c',h1,h2⟩:=sg.se (cx.m b hb i hi) c hc.2;refine⟨c',⟨c',rfl,fun c2 hc2=>?_,h2⟩,h1⟩;obtain⟨t,s,rfl,h4⟩:=cx.so b hb i hi c2 hc2;obtain rfl:=hc.1 _ h4;cases s with
 |nil=>cases c' with|d x=>have:mQ (bE t) (aT t) i (.nil:Sl (El t))=.d x:=h1;rw[<-this];rfl|_=>simp[mQ,sg]at h1
 |mk l=>
  cases c' with
  |fk a i2 b2 e=>obtain⟨j,_,e2⟩:=h1;have e3:=h2 i2 (by simp[eN]);simp only[mQ,C.fk.injEq]at e2|-;exact⟨e2.1.symm,e3,e2.2.2.1.symm,e2.2.2.2.symm⟩
  |d x=>simp[mQ,sg]at h1
  |_=>simp[mQ,sg]at h1
theorem PV(cx:Cx h' h'' aR n'' mf M){b:Bd}(hb:b∈mf){i:Nat}(hi:b.id=some i){c:C}(hc:(∀c',EZ i (fO h' i)=some c'->c=c')/\Qw i c):∃c',fz h'' (.sr (aR+b.j)) [c']/\sg M c' c:=by
 obtain⟨c',h1,h2⟩:=sg.se (cx.m b hb i hi) c hc.2;refine⟨c',⟨c',rfl,fun c2 hc2=>?_,h2⟩,h1⟩;obtain⟨t,s,rfl,h4⟩:=cx.sr b hb i hi c2 hc2;obtain rfl:=hc.1 _ h4;cases s with
 |nil=>cases c' with|d x=>have:mQ 1 (aT (.sl t)) i (.nil:Sl (Sl (El t)))=.d x:=h1;rw[<-this];rfl|_=>simp[mQ,sg]at h1
 |mk l=>
  cases c' with
  |fk a i2 b2 e=>obtain⟨j,_,e2⟩:=h1;have e3:=h2 i2 (by simp[eN]);simp only[mQ,C.fk.injEq]at e2|-;exact⟨e2.1.symm,e3,e2.2.2.1.symm,e2.2.2.2.symm⟩
  |d x=>simp[mQ,sg]at h1
  |_=>simp[mQ,sg]at h1
theorem tN(cx:Cx h' h'' aR n'' mf M):∀(jv:JV)(ln:Bool)(v:V)(m:List Bd)(l:List V)(m1:List Bd)(rest:List V)(v0 v':V)(r':List V)(cs:List C),dw jv ln v m=some (l,m1)->(∀b∈m1,b∈mf)->fz h' v cs->fw n' h' v->iS aR jv ln (l++rest) v0=some (v',r')->
  r'=rest/\fw n'' h'' v'/\sW v'=sW v/\(∀l,v'≠.tp l)/\∃cs',fz h'' v' cs'/\oO M cs' cs:=by
 intro jv;induction jv with
 |x t=>
  intro ln v m l m1 rest v0 v' r' cs hc hm hv hk hr;cases ln with
  |true=>cases v<;>simp[dw]at hc
  |false=>
   simp only[dw]at hc;split at hc
   .rename_i y hy;obtain⟨rfl,rfl⟩:=ad (aa hc);obtain⟨hd,rfl,rfl⟩:=RK hr;obtain rfl:=jF v false t y cs hy hv;exact⟨rfl,trivial,(wA hy).symm,by simp,_,⟨hd,rfl⟩,oO.d _⟩
   .simp at hc
 |pt t=>
  intro ln v m l m1 rest v0 v' r' cs hc hm hv hk hr;cases ln with
  |true=>cases v<;>simp[dw]at hc
  |false=>
   cases v with
   |pt u v=>
    simp only[dw]at hc;split at hc
    .rename_i y hy;obtain⟨rfl,rfl⟩:=du hy;obtain⟨rfl,rfl⟩:=ad (aa hc);obtain⟨hd,rfl,rfl⟩:=Ku hr;obtain⟨_,rfl⟩:=hv;exact⟨rfl,trivial,rfl,by simp,_,⟨hd,rfl⟩,oO.one rfl⟩
    .simp at hc
   |_=>simp[dw]at hc
 |sr j=>
  intro ln v m l m1 rest v0 v' r' cs hc hm hv hk hr;cases ln with
  |true=>cases v<;>simp[dw]at hc
  |false=>
   have hr2:∀l2:List V,iS aR (.sr j) false l2 v0=some (.sr (aR+j),l2):=fun l2=>by simp only[iS]
   cases v with
   |sr id=>
    simp only[dw]at hc;split at hc
    .rename_i m2 hb;obtain⟨rfl,rfl⟩:=ad (aa hc);rw[hr2]at hr;obtain⟨rfl,rfl⟩:=ad (aa hr);have hbm:=hm _ (mx hb).1;obtain⟨c,rfl,h1⟩:=hv;obtain⟨c',h2,h3⟩:=PV cx hbm rfl h1;exact⟨rfl,cx.n _ hbm,rfl,by simp,_,h2,oO.one h3⟩
    .simp at hc
   |_=>simp[dw]at hc
 |so j=>
  intro ln v m l m1 rest v0 v' r' cs hc hm hv hk hr;cases ln with
  |true=>cases v<;>simp[dw]at hc
  |false=>
   have hr2:∀l2:List V,iS aR (.so j) false l2 v0=some (.so (aR+j),l2):=fun l2=>by simp only[iS]
   cases v with
   |so id=>
    simp only[dw]at hc;split at hc
    .rename_i m2 hb;obtain⟨rfl,rfl⟩:=ad (aa hc);rw[hr2]at hr;obtain⟨rfl,rfl⟩:=ad (aa hr);have hbm:=hm _ (mx hb).1;obtain⟨c,rfl,h1⟩:=hv;obtain⟨c',h2,h3⟩:=PW cx hbm rfl h1;exact⟨rfl,cx.n _ hbm,rfl,by simp,_,h2,oO.one h3⟩
    .simp at hc
   |nl k=>
    cases k with
    |succ=>simp[dw]at hc
    |zero=>
     simp only[dw]at hc;split at hc
     .rename_i m2 hb;obtain⟨rfl,rfl⟩:=ad (aa hc);rw[hr2]at hr;obtain⟨rfl,rfl⟩:=ad (aa hr);have hbm:=hm _ (mx hb).1;obtain rfl:=hv;exact⟨rfl,cx.n _ hbm,rfl,by simp,_,⟨Dt 0,rfl,fun c' hc'=>(cx.nl _ hbm rfl c' hc').symm,fun i hi=>by simp[Dt,eN]at hi⟩,oO.one rfl⟩
     .simp at hc
   |x t v=>
    cases t with
    |sl u=>
     simp only[dw]at hc;obtain⟨hnil,hc⟩:=aO hc;split at hc
     .rename_i m2 hb;obtain⟨rfl,rfl⟩:=ad (aa hc);rw[hr2]at hr;obtain⟨rfl,rfl⟩:=ad (aa hr);have hbm:=hm _ (mx hb).1;obtain⟨_,rfl⟩:=hv;have hv:v=Sl.nil:=by cases v with|nil=>rfl|mk l=>simp[Sl.fN]at hnil
      subst hv;exact⟨rfl,cx.n _ hbm,rfl,by simp,_,⟨Dt 0,rfl,fun c' hc'=>(cx.nl _ hbm rfl c' hc').symm,fun i hi=>by simp[Dt,eN]at hi⟩,oO.one rfl⟩
     .simp at hc
    |_=>simp[dw]at hc
   |_=>simp[dw]at hc
 |om j=>
  intro ln v m l m1 rest v0 v' r' cs hc hm hv hk hr;cases ln with
  |true=>cases v<;>simp[dw]at hc
  |false=>
   have hr2:∀l2:List V,iS aR (.om j) false l2 v0=some (.om (aR+j),l2):=fun l2=>by simp only[iS]
   cases v with
   |om id=>
    simp only[dw]at hc;split at hc
    .rename_i m2 hb;obtain⟨rfl,rfl⟩:=ad (aa hc);rw[hr2]at hr;obtain⟨rfl,rfl⟩:=ad (aa hr);have hbm:=hm _ (mx hb).1;obtain rfl:=hv;exact⟨rfl,cx.n _ hbm,rfl,by simp,_,rfl,oO.one ⟨id,cx.m _ hbm id rfl,rfl⟩⟩
    .simp at hc
   |_=>simp[dw]at hc
 |op j t p=>
  intro ln v m l m1 rest v0 v' r' cs hc hm hv hk hr;cases ln with
  |true=>cases v<;>simp[dw]at hc
  |false=>
   have hr2:∀l2:List V,iS aR (.op j t p) false l2 v0=some (.op (aR+j) t (p.map .fd),l2):=fun l2=>by simp only[iS]
   cases v with
   |op id u q=>
    simp only[dw]at hc;obtain⟨hq,hc2⟩:=aO hc;clear hc;have hc:=hc2;clear hc2;simp only[ai,decide_eq_true_eq]at hq;obtain⟨rfl,hq⟩:=hq;obtain rfl:=Fv hq;split at hc
    .rename_i m2 hb;obtain⟨rfl,rfl⟩:=ad (aa hc);rw[hr2]at hr;obtain⟨rfl,rfl⟩:=ad (aa hr);have hbm:=hm _ (mx hb).1;obtain rfl:=hv;exact⟨rfl,⟨cx.n _ hbm,hk.2⟩,rfl,by simp,_,rfl,oO.one ⟨id,cx.m _ hbm id rfl,rfl⟩⟩
    .simp at hc
   |_=>simp[dw]at hc
 |nl k=>
  intro ln v m l m1 rest v0 v' r' cs hc hm hv hk hr;cases ln with
  |true=>cases v<;>simp[dw]at hc
  |false=>
   cases v with
   |nl k'=>
    simp only[dw]at hc;obtain⟨hq,hc2⟩:=aO hc;clear hc;have hc:=hc2;clear hc2;obtain rfl:k=k':=by simpa using hq
    obtain⟨rfl,rfl⟩:=ad (aa hc);have hr2:∀l2:List V,iS aR (.nl k) false l2 v0=some (.nl k,l2):=fun l2=>by simp only[iS]
    rw[hr2]at hr;obtain⟨rfl,rfl⟩:=ad (aa hr);obtain rfl:=hv;exact⟨rfl,trivial,rfl,by simp,_,rfl,oO.one rfl⟩
   |_=>simp[dw]at hc
 |fn z f a ih=>
  intro ln v m l m1 rest v0 v' r' cs hc hm hv hk hr;cases ln with
  |true=>cases v<;>simp[dw]at hc
  |false=>
   cases v with
   |fn z' f' l'=>
    simp only[dw]at hc;obtain⟨hq,hc2⟩:=aO hc;clear hc;have hc:=hc2;clear hc2;simp only[ai,beq_iff_eq]at hq;obtain⟨rfl,rfl⟩:=hq;simp only[iS]at hr;split at hr
    .rename_i w l2 hw;obtain⟨rfl,rfl⟩:=ad (aa hr);cases z with|true=>obtain⟨ds,hd,rfl⟩:=hv;obtain⟨rfl,g1,g2⟩:=JD a l' m l m1 rest .ni w l2 ds hc hd hw;exact⟨rfl,g2 _ _,rfl,by simp,_,⟨ds,g1,rfl⟩,oO.one rfl⟩|false=>obtain⟨xs,hx,rfl⟩:=hv;obtain⟨rfl,g1,_,_,cs',g2,g3⟩:=ih true l' m l m1 rest .ni w l2 xs hc hm hx hk hw;exact⟨rfl,g1,rfl,by simp,_,⟨cs',g2,rfl⟩,oO.one ⟨xs,g3,rfl⟩⟩
    .simp at hr
   |_=>simp[dw]at hc
 |rc a ih=>
  intro ln v m l m1 rest v0 v' r' cs hc hm hv hk hr;cases ln with
  |true=>cases v<;>simp[dw]at hc
  |false=>
   simp only[iS]at hr;split at hr
   .rename_i w l2 hw;obtain⟨rfl,rfl⟩:=ad (aa hr);cases v with
    |rc l'=>obtain⟨rfl,g1,_,_,cs',g2,g3⟩:=ih true l' m l m1 rest .ni w l2 cs hc hm hv hk hw;exact⟨rfl,g1,rfl,by simp,cs',g2,g3⟩
    |x t v=>cases t with|st t=>obtain⟨hd,rfl⟩:=hv;obtain⟨rfl,g1,_,_,cs',g2,g3⟩:=ih true (HX t v) m l m1 rest .ni w l2 _ hc hm (Bt t v hd) (ES t v) hw;exact⟨rfl,g1,rfl,by simp,cs',g2,g3⟩|_=>simp[dw]at hc
    |_=>simp[dw]at hc
   .simp at hr
 |ni=>
  intro ln v m l m1 rest v0 v' r' cs hc hm hv hk hr;cases ln with
  |false=>cases v<;>simp[dw]at hc
  |true=>cases v with|ni=>obtain⟨rfl,_⟩:=ad (aa hc);simp only[iS]at hr;obtain⟨rfl,rfl⟩:=ad (aa hr);exact⟨rfl,trivial,rfl,by simp,cs,hv,by obtain rfl:=hv;rfl⟩|_=>simp[dw]at hc
 |co a r iha ihr=>
  intro ln v m l m1 rest v0 v' r' cs hc hm hv hk hr;cases ln with
  |false=>cases v<;>simp[dw]at hc
  |true=>
   cases v with
   |co x y=>
    simp only[dw]at hc;split at hc
    .rename_i l1 m2 h1;split at hc
     .rename_i l2 m3 h2;obtain⟨rfl,rfl⟩:=ad (aa hc);obtain⟨x0,y0,w1,r1,w2,e1,e2,rfl⟩:=Kv hr;rw[aL]at e1;obtain⟨cx1,cy,rfl,hx,hy⟩:=hv;obtain⟨rfl,g1,_,_,cs1,g2,g3⟩:=iha _ _ _ _ _ _ _ _ _ _ h1 (fun b hb=>hm b ((tO _ _ _ _ _ _ h2).1 b hb)) hx hk.1 e1;obtain⟨rfl,k1,_,_,cs2,k2,k3⟩:=ihr _ _ _ _ _ _ _ _ _ _ h2 hm hy hk.2 e2;exact⟨rfl,⟨g1,k1⟩,rfl,by simp,_,⟨cs1,cs2,rfl,g2,k2⟩,g3.Rw k3⟩
     .simp at hc
    .simp at hc
   |_=>simp[dw]at hc
 |_=>intro ln v m l m1 rest v0 v' r' cs hc;cases ln<;>cases v<;>simp[dw]at hc
theorem OJ(cx:Cx h' h'' aR n'' mf M){jv:JV}{v:V}{m:List Bd}{l:List V}{m1:List Bd}{rest:List V}{v0 v':V}{r':List V}{x:TV}(hc:dw jv false v m=some (l,m1))(hm:∀b∈m1,b∈mf)(hv:gG h' v x)(hk:fw n' h' v)(hr:iS aR jv false (l++rest) v0=some (v',r')):
  r'=rest/\fw n'' h'' v'/\∃x',gG h'' v' x'/\Ez M x' x/\∀l,x'≠.iQ l:=by
 have h1:sn h' v x:=by cases v with|tp l=>cases jv<;>simp[dw]at hc;split at hc<;>rename_i hh<;>simp[tL,kP,ii]at hh;simp at hc|no=>cases jv<;>simp[dw]at hc;split at hc<;>rename_i hh<;>simp[tL,kP,ii]at hh;simp at hc|gn=>exact hv.elim|_=>exact hv
 obtain⟨cs,h2,h3,h4⟩:=h1;obtain⟨rfl,g1,g2,g3,cs',g4,g5⟩:=tN cx jv false v m l m1 rest v0 v' r' cs hc hm h2 hk hr;refine⟨rfl,g1,?_⟩;cases ha:sW v with
 |true=>obtain rfl:=h3 ha;exact⟨.agg cs',cz ⟨cs',g4,fun _=>rfl,fun e=>by rw[g2,ha]at e;cases e⟩,⟨cs,g5,rfl⟩,by simp⟩
 |false=>
  obtain⟨c,rfl,rfl⟩:=h4 ha
  match cs',g5 with
  |[],g5=>exact absurd (show[c]=[]from g5) (by simp)
  |c'::r,g5=>obtain⟨d,r2,e1,e2,e3⟩:=g5;obtain⟨rfl,rfl⟩:=ct e3;cases r with|nil=>exact⟨.c c',cz ⟨[c'],g4,fun e=>(by rw[g2,ha]at e;cases e),fun _=>⟨c',rfl,rfl⟩⟩,⟨c,e1,rfl⟩,by simp⟩|cons=>obtain⟨_,_,_,_,e⟩:=e2;simp at e
end
theorem Ka{α:Type}(G:Nat->Option α)(ks:List Nat)(hk:∀t,G t≠none->t∈ks):∃e:List (Nat×α),∀t,cu e t=G t:=by
 have key:∀ks:List Nat,∃e:List (Nat×α),∀t,cu e t=if t∈ks then G t else none:=by
  intro ks;induction ks with
  |nil=>exact⟨[],fun t=>by simp[cu]⟩
  |cons k ks ih=>
   obtain⟨e,he⟩:=ih;cases hg:G k with
   |none=>
    refine⟨e,fun t=>?_⟩;rw[he];by_cases h:t=k
    .subst h;simp[hg]
    .simp [h]
   |some x=>
    refine⟨(k,x)::e,fun t=>?_⟩;simp only[cu];by_cases h:k=t
    .subst h;simp[hg]
    .have h':(k==t)=false:=by simpa using h
     rw[h',cond_false,he];have:t≠k:=fun q=>h q.symm;simp[this]
 obtain⟨e,he⟩:=key ks;refine⟨e,fun t=>?_⟩;rw[he];split
 .rfl
 .rename_i h;cases hg:G t with|none=>rfl|some x=>exact absurd (hk t (by simp[hg])) h
theorem Oi(F:Nat->Option Ob)(ks:List Nat)(hk:∀t,F t≠none->t∈ks):∃h:bH,∀t,aC h t=F t:=by obtain⟨e,he⟩:=Ka (fun t=>(F t).map some) ks fun t ht=>hk t fun e=>ht (by simp[e]);refine⟨e,fun t=>?_⟩;simp only[aC,he];cases F t<;>rfl
theorem xE{α:Type}:∀{l:List (Nat×α)}{t:Nat},cu l t≠none->t∈l.map (·.1):=by intro l t h;cases hx:cu l t with|none=>exact absurd hx h|some x=>exact ci.2 ⟨_,xD hx,rfl⟩
theorem Lh{h:bH}{t:Nat}(hl:aC h t≠none):t∈h.map (·.1):=xE fun e=>hl (by simp[aC,e])
theorem K7{α β:Type}{ka va:Bool}{k:α->List Value}{v:β->List D}{m:Mp α β}{cs:List C}(h:some (Ob.box cs)=EH ka va k v m):False:=by cases m<;>simp[EH]at h
section
variable{h' h'':H2}{n' n'' aR:Nat}{mf:List Bd}{M:Nat->Nat->Prop}
theorem UY(hj:∀b∈mf,aR+b.j<n''):Cx h' [] aR n'' mf (fun _ _=>True):=⟨fun _ _ _ _=>trivial,hj,fun b _ i _ c' hc=>by simp[fO,cu,Au]at hc,fun b _ i _ c' hc=>by simp[fO,cu,EZ]at hc,fun b _ _ c' hc=>by simp[fO,cu,Au]at hc⟩
theorem Ba{j:Nat}{o:JO}{m:List Bd}{l:List V}{m1:List Bd}(h:ML h' j o m=some (l,m1)):(∀c∈m,c∈m1)/\(Bm m->Bm m1):=by
 have id1:∀{a:List V},some (a,m)=some (l,m1)->(∀c∈m,c∈m1)/\(Bm m->Bm m1):=fun e=>by obtain⟨_,rfl⟩:=ad (aa e);exact⟨fun _ h=>h,fun h=>h⟩
 unfold ML at h;split at h
 .split at h
  .exact id1 (aO h).2
  .split at h
   .split at h
    .exact id1 h
    .simp at h
   .simp at h
  .split at h
   .split at h
    .exact id1 h
    .simp at h
   .simp at h
  .split at h
   .exact tO _ _ _ _ _ _ (aO h).2
   .simp at h
  .split at h
   .split at h
    .exact id1 h
    .simp at h
   .simp at h
  .simp at h
 .simp at h
def AP(h':H2)(aR:Nat)(m1:List Bd)(b:Bd):O->Prop
 |.ar t s v=>v=0/\((b.id=none/\s=.nil/\Cq t=true)\/∃id ver,b.id=some id/\fO h' id=some (.ar t s ver))
 |.bx t w=>∃id v c m0 l0 m2 rest r0,b.id=some id/\fO h' id=some (.bx t v)/\dw c false v m0=some (l0,m2)/\(∀b∈m2,b∈m1)/\iS aR c false (l0++rest) .gn=some (w,r0)/\eC w false t=true
 |.mp k v y=>∃id,b.id=some id/\fO h' id=some (.mp k v y)
 |.rw t s ln=>ln=none/\∃id,b.id=some id/\fO h' id=some (.rw t s none)
 |_=>False
theorem JC{H1:bH}(hr:HR n' H1 h')(hj:∀b∈mf,aR+b.j<n''){j:Nat}{o:JO}{m:List Bd}{l:List V}{m1:List Bd}{rest:List V}{o':O}{r':List V}(hc:ML h' j o m=some (l,m1))(hm:∀b∈m1,b∈mf)(hs:Fe aR o (l++rest)=some (o',r')):
  r'=rest/\∃b∈mf,b.j=j/\AP h' aR mf b o':=by
 have hmm:=(Ba hc).1;unfold ML at hc;split at hc
 .rename_i b hb;obtain⟨hb1,hb2⟩:=zr hb;have hbm:=hm _ (hmm _ hb1);split at hc
  .rename_i t hid;obtain⟨hok,hc⟩:=aO hc;obtain⟨rfl,_⟩:=ad (aa hc);simp only[aU,bh,Fe]at hs;obtain⟨_,hs⟩:=aO hs;obtain⟨rfl,rfl⟩:=ad (aa hs);exact⟨rfl,b,hbm,hb2,rfl,.inl ⟨hid,rfl,hok⟩⟩
  .rename_i t id hid;split at hc
   .rename_i u s ver ho;split at hc
    .rename_i s2 hs2;obtain⟨rfl,_⟩:=ad (aa hc);obtain⟨e,rfl⟩:=du hs2;cases e;simp only[aU,bh,Fe]at hs;obtain⟨_,hs⟩:=aO hs;obtain⟨rfl,rfl⟩:=ad (aa hs);exact⟨rfl,b,hbm,hb2,rfl,.inr ⟨id,ver,hid,ho⟩⟩
    .simp at hc
   .simp at hc
  .rename_i t id hid;split at hc
   .rename_i u s ho;split at hc
    .rename_i s2 hs2;obtain⟨rfl,_⟩:=ad (aa hc);obtain⟨e,rfl⟩:=du hs2;cases e;simp only[aU,bh,Fe]at hs;obtain⟨_,hs⟩:=aO hs;obtain⟨rfl,rfl⟩:=ad (aa hs);exact⟨rfl,b,hbm,hb2,rfl,id,hid,ho⟩
    .simp at hc
   .simp at hc
  .rename_i t c id hid;split at hc
   .rename_i u v ho;obtain⟨hu,hc2⟩:=aO hc;clear hc;have hc:=hc2;clear hc2;obtain rfl:u=t:=by simpa using hu
    simp only[Fe]at hs;split at hs
    .rename_i w l2 hw;obtain⟨hf,hs⟩:=aO hs;obtain⟨rfl,rfl⟩:=ad (aa hs);obtain⟨_,hob,hko⟩:=hr.ob id _ ho;obtain⟨cs,_,hcs,_⟩:=hob;obtain⟨rfl,_⟩:=tN (UY (h':=h') hj) c false v m l m1 rest .gn w l2 cs hc hm hcs hko hw;exact⟨rfl,b,hbm,hb2,id,v,c,m,l,m1,_,_,hid,ho,hc,hm,hw,hf⟩
    .simp at hs
   .simp at hc
  .rename_i k v id hid;split at hc
   .rename_i k' v' y ho;split at hc
    .rename_i y2 hy2;obtain⟨rfl,_⟩:=ad (aa hc);obtain⟨e,rfl⟩:=du hy2;cases e;simp only[aU,bh,Fe]at hs;obtain⟨_,hs⟩:=aO hs;obtain⟨rfl,rfl⟩:=ad (aa hs);exact⟨rfl,b,hbm,hb2,id,hid,ho⟩
    .simp at hc
   .simp at hc
  .simp at hc
 .simp at hc
theorem uH:∀(os:List JO)(j:Nat)(m:List Bd)(l:List V)(m1:List Bd),A_ h' os j m=some (l,m1)->(∀c∈m,c∈m1)/\(Bm m->Bm m1):=by
 intro os;induction os with
 |nil=>intro j m l m1 h;obtain⟨_,rfl⟩:=ad (aa h);exact⟨fun _ h=>h,fun h=>h⟩
 |cons o os ih=>
  intro j m l m1 h;simp only[A_]at h;split at h
  .rename_i l1 m2 h1;split at h
   .rename_i l2 m3 h2;obtain⟨_,rfl⟩:=ad (aa h);obtain⟨a1,a2⟩:=Ba h1;obtain⟨c1,c2⟩:=ih _ _ _ _ h2;exact⟨fun c hc=>c1 c (a1 c hc),fun hi=>c2 (a2 hi)⟩
   .simp at h
  .simp at h
theorem Gx{H1:bH}(hr:HR n' H1 h')(hj:∀b∈mf,aR+b.j<n''):∀(os:List JO)(j:Nat)(m:List Bd)(l:List V)(m1:List Bd)(rest:List V)(hl:H2)(r':List V),A_ h' os j m=some (l,m1)->(∀b∈m1,b∈mf)->CT aR os j (l++rest)=some (hl,r')->
  (∀i o',cu hl i=some o'->∃o,o'=some o/\∃b∈mf,i=aR+b.j/\AP h' aR mf b o)/\(∀p∈hl,aR<=p.1):=by
 intro os;induction os with
 |nil=>intro j m l m1 rest hl r' hc hm hs;obtain⟨rfl,_⟩:=ad (aa hc);simp only[CT]at hs;obtain⟨rfl,_⟩:=ad (aa hs);exact⟨fun i o' h=>by simp[cu]at h,fun p hp=>by simp at hp⟩
 |cons o os ih=>
  intro j m l m1 rest hl r' hc hm hs;simp only[A_]at hc;split at hc
  .rename_i l1 m2 h1;split at hc
   .rename_i l2 m3 h2;obtain⟨rfl,rfl⟩:=ad (aa hc);simp only[CT,aL]at hs;split at hs
    .rename_i o1 r1 ho1;split at hs
     .rename_i hl1 r2 hhl;obtain⟨rfl,rfl⟩:=ad (aa hs);obtain⟨rfl,b,hb,hbj,hap⟩:=JC hr hj h1 (fun b hb=>hm b ((uH _ _ _ _ _ h2).1 b hb)) ho1;obtain⟨g1,g2⟩:=ih _ _ _ _ _ _ _ h2 hm hhl;refine⟨fun i o' h=>?_,fun p hp=>?_⟩
      .simp only[cu]at h;by_cases e:aR+j=i
       .have e':(aR+j==i)=true:=by simpa using e
        rw[e',cond_true]at h;exact⟨o1,(aa h).symm,b,hb,by rw[hbj,e],hap⟩
       .have e':(aR+j==i)=false:=by simpa using e
        rw[e',cond_false]at h;exact g1 i o' h
      .rcases aP.1 hp with rfl|hp
       .exact lE _ _
       .exact g2 p hp
     .simp at hs
    .simp at hs
   .simp at hc
  .simp at hc
def TQ(M:Nat->Nat->Prop):Ob->Prop
 |.nst _ sl=>∀(k id len:Nat),sl[k]?=some (kW.dV id len)->M id id
 |_=>True
theorem xZ{t:Ty}{l:List (Sl (El t))}{ln:Option (Nat×Nat)}{k i len:Nat}(h:(fR t l ln)[k]?=some (.dV i len)):∃m,ln=some (m,i):=by
 have no:¬(l.map (pm t))[k]?=some (.dV i len):=fun h=>by
  rw[List.getElem?_map]at h;cases hx:l[k]?with
  |none=>rw[hx]at h;cases h
  |some s=>rw[hx]at h;cases s<;>cases h
 cases ln with
 |none=>exact absurd h no
 |some q=>
  obtain⟨m,j⟩:=q;simp only[fR]at h;rw[List.getElem?_set]at h;split at h
  .split at h
   .cases hg:gt l m<;>rw[hg]at h<;>cases h;exact⟨m,rfl⟩
   .cases h
  .exact absurd h no
def O1(M:Nat->Nat->Prop)(o1 o0:Ob):Prop:=(o1=o0/\(∀cs,o0≠.box cs)/\TQ M o0)\/∃a c,o1=.box a/\o0=.box c/\oO M a c
theorem SA{H1:bH}(hr:HR n' H1 h')(cx:Cx h' h'' aR n'' mf M){b:Bd}{o:O}(ha:AP h' aR mf b o):
  ∃ob,yv h'' o ob/\Ha n'' h'' o/\∀o1,ob=some o1->∃id o0,b.id=some id/\aC H1 id=some o0/\O1 M o1 o0:=by
 cases o with
 |ar t s v=>
  obtain⟨_,⟨_,rfl,hok⟩|⟨id,ver,hid,ho⟩⟩:=ha
  .obtain ⟨h1,h2⟩:=qa hok;exact⟨none,⟨h1,h2,fun l e=>by cases e⟩,trivial,fun o1 e=>by cases e⟩
  .obtain ⟨_,⟨h1,h2,h3⟩,_⟩:=hr.ob id _ ho;cases s with|nil=>exact⟨none,⟨h1,h2,fun l e=>by cases e⟩,trivial,fun o1 e=>by cases e⟩|mk l=>refine⟨_,⟨h1,h2,fun l' e=>by cases e;rfl⟩,trivial,fun o1 e=>⟨id,_,hid,h3 l rfl,.inl ⟨(aa e).symm,by simp,trivial⟩⟩⟩
 |rw t s ln=>obtain⟨rfl,id,hid,ho⟩:=ha;obtain⟨_,⟨h1,h2,h3⟩,_⟩:=hr.ob id _ ho;cases s with|nil=>exact⟨none,⟨h1,h2,fun l e=>by cases e⟩,trivial,fun o1 e=>by cases e⟩|mk l=>refine⟨_,⟨h1,h2,fun l' e=>by cases e;rfl⟩,trivial,fun o1 e=>⟨id,_,hid,h3 l rfl,.inl ⟨(aa e).symm,by simp,fun k i len hk=>?_⟩⟩⟩;obtain⟨m,e2⟩:=xZ hk;cases e2
 |bx t w=>obtain⟨id,v,c,m0,l0,m2,rest,r0,hid,ho,hc,hm,hs,hf⟩:=ha;obtain⟨_,⟨cs,h1,h2,h3⟩,hk⟩:=hr.ob id _ ho;obtain⟨rfl,g1,_,_,cs',g2,g3⟩:=tN cx c false v m0 l0 m2 rest .gn w r0 cs hc hm h2 hk hs;exact⟨some (.box cs'),⟨cs',rfl,g2,hf⟩,g1,fun o1 e=>⟨id,_,hid,h1,.inr ⟨cs',cs,(aa e).symm,rfl,g3⟩⟩⟩
 |mp k v y=>
  obtain⟨id,hid,ho⟩:=ha;obtain⟨_,⟨h1,h2,h3⟩,_⟩:=hr.ob id _ ho;refine⟨aC H1 id,⟨h1,h2,h3⟩,trivial,fun o1 e=>⟨id,o1,hid,e,.inl ⟨rfl,fun cs e2=>?_,?_⟩⟩⟩
  .rw [e2]at e;rw[e]at h3;exact K7 h3
  .rw [e]at h3;simp only[EH,bl]at h3;rw[h3];trivial
 |_=>exact ha.elim
theorem zp{s:S2}:∀(vs:List (Nat×JV))(m:List Bd)(l:List V)(m1:List Bd),A9 s vs m=some (l,m1)->(∀c∈m,c∈m1)/\(Bm m->Bm m1):=by
 intro vs;induction vs with
 |nil=>intro m l m1 h;obtain⟨_,rfl⟩:=ad (aa h);exact⟨fun _ h=>h,fun h=>h⟩
 |cons p vs ih=>
  obtain⟨t,a⟩:=p;intro m l m1 h;simp only[A9]at h;split at h
  .split at h
   .rename_i l1 m2 h1;split at h
    .rename_i l2 m3 h2;obtain⟨_,rfl⟩:=ad (aa h);obtain⟨a1,a2⟩:=tO _ _ _ _ _ _ h1;obtain⟨c1,c2⟩:=ih _ _ _ h2;exact⟨fun c hc=>c1 c (a1 c hc),fun hi=>c2 (a2 hi)⟩
    .simp at h
   .simp at h
  .simp at h
theorem zo{s1:St}{s:S2}(hr:R2 s1 s)(cx:Cx s.heap h'' aR n'' mf M):∀(vs:List (Nat×JV))(m:List Bd)(l:List V)(m1:List Bd)(rest:List V)(e:List (Nat×V))(r':List V),A9 s vs m=some (l,m1)->(∀b∈m1,b∈mf)->GZ aR vs (l++rest)=some (e,r')->
  r'=rest/\∀t v,cu e t=some v->fw n'' h'' v/\∃x x',cu s1.dO t=some x/\gG h'' v x'/\Ez M x' x/\∀l,x'≠.iQ l:=by
 intro vs;induction vs with
 |nil=>intro m l m1 rest e r' hc hm hs;obtain⟨rfl,_⟩:=ad (aa hc);obtain⟨rfl,rfl⟩:=ad (aa hs);exact⟨rfl,fun t v h=>by simp[cu]at h⟩
 |cons p vs ih=>
  obtain⟨t,a⟩:=p;intro m l m1 rest e r' hc hm hs;simp only[A9]at hc;split at hc
  .rename_i v hv;split at hc
   .rename_i l1 m2 h1;split at hc
    .rename_i l2 m3 h2;obtain⟨rfl,rfl⟩:=ad (aa hc);simp only[GZ,aL]at hs;split at hs
     .rename_i w r1 hw;split at hs
      .rename_i e1 r2 he1;obtain⟨rfl,rfl⟩:=ad (aa hs);simp only[JT]at hv;split at hv
       .rename_i v2 hv2;obtain⟨hal,hv⟩:=aO hv;obtain rfl:=aa hv;obtain⟨hk,hx⟩:=hr.dO t _ hv2;obtain⟨x,hx1,hx2⟩:=hx (.inl hal);obtain⟨rfl,g1,x',g2,g3,g4⟩:=OJ cx h1 (fun b hb=>hm b ((zp _ _ _ _ h2).1 b hb)) hx2 hk hw;obtain⟨rfl,k1⟩:=ih _ _ _ _ _ _ h2 hm he1;refine⟨rfl,fun t' v' h=>?_⟩;simp only[cu]at h;by_cases e:t=t'
        .subst e;have e':(t==t)=true:=by simp
         rw[e',cond_true]at h;obtain rfl:=aa h;exact⟨g1,x,x',hx1,g2,g3,g4⟩
        .have e':(t==t')=false:=by simpa using e
         rw[e',cond_false]at h;exact k1 t' v' h
       .simp at hv
      .simp at hs
     .simp at hs
    .simp at hc
   .simp at hc
  .simp at hc
theorem wF{h:H2}:∀(gs:JV)(g0 g:V)(m:List Bd)(l:List V)(m1:List Bd),pQ h gs g0 g m=some (l,m1)->(∀c∈m,c∈m1)/\(Bm m->Bm m1):=by
 intro gs;induction gs with
 |sm=>intro g0 g m l m1 h;simp only[pQ]at h;obtain⟨_,h⟩:=aO h;obtain⟨_,rfl⟩:=ad (aa h);exact⟨fun _ h=>h,fun h=>h⟩
 |ni=>intro g0 g m l m1 h;cases g0<;>cases g<;>simp[pQ]at h;obtain⟨_,rfl⟩:=h;exact⟨fun _ h=>h,fun h=>h⟩
 |co a r _ ih=>
  intro g0 g m l m1 hc;cases g0 with
  |co x0 y0=>
   cases g with
   |co x y=>
    have EI:(bif iB h x then(match dw a false x m with|some (l,m)=>(match pQ h r y0 y m with|some (l',m)=>some (l++l',m)|none=>none)|none=>none)else none)=some (l,m1)->(∀c∈m,c∈m1)/\(Bm m->Bm m1):=by
     intro hc;obtain⟨_,hc⟩:=aO hc;split at hc
     .rename_i l1 m2 h1;split at hc
      .rename_i l2 m3 h2;obtain⟨_,rfl⟩:=ad (aa hc);obtain⟨a1,a2⟩:=tO _ _ _ _ _ _ h1;obtain⟨c1,c2⟩:=ih _ _ _ _ _ h2;exact⟨fun c hc=>c1 c (a1 c hc),fun hi=>c2 (a2 hi)⟩
      .simp at hc
     .simp at hc
    cases a with|sm=>exact ih _ _ _ _ _ (aO (show(bif rL x0 x then pQ h r y0 y m else none)=_ from hc)).2|gn=>exact ih _ _ _ _ _ (show pQ h r y0 y m=_ from hc)|_=>exact EI hc
   |_=>simp[pQ]at hc
  |_=>simp[pQ]at hc
 |_=>intro g0 g m l m1 h;simp[pQ]at h
def M1(M:Nat->Nat->Prop):List C->List C->Prop
 |[],m=>m=[]
 |c::l,m=>∃d r,(c=rP\/sg M c d)/\M1 M l r/\m=d::r
theorem M1.len:∀{l m:List C},M1 M l m->l.length=m.length
 |[],m,h=>by obtain rfl:=h;rfl
 |c::l,m,h=>by obtain⟨d,r,_,h2,rfl⟩:=h;simp[M1.len h2]
theorem M1.get:∀{l m:List C},M1 M l m->∀(i:Nat)(c:C),l[i]?=some c->c=rP\/∃d,m[i]?=some d/\sg M c d
 |[],m,h,i,c,hi=>by simp at hi
 |c::l,m,h,i,c',hi=>by
  obtain⟨d,r,h1,h2,rfl⟩:=h;cases i with
  |zero=>
   obtain rfl:c=c':=by simpa using hi
   exact h1.imp id fun h=>⟨d,rfl,h⟩
  |succ i=>exact(M1.get h2 i c' (by simpa using hi)).imp id fun⟨d,h3,h4⟩=>⟨d,by simpa using h3,h4⟩
theorem CN(hlow:∀i,i<aR->fO h'' i≠none->fO h'' i=fO h' i)(hM:∀i,i<aR->M i i){x0 x:V}{c:C}{hz:H2}(hs:rL x0 x=true)(hok:fw aR hz x0)(hx:iB h' x=true->fz h' x [c]):
  ∃c',(iB h'' x0=true->fz h'' x0 [c'])/\(c'=rP\/sg M c' c):=by
 by_cases ha:iB h'' x0=true
 case neg=>exact⟨rP,fun h=>absurd h ha,.inl rfl⟩
 cases x0<;>cases x<;>first|(simp[rL]at hs;done)|skip
 case nl.nl k k'=>
  obtain rfl:k=k':=by simpa[rL]using hs
  have:fz h' (.nl k) [c]:=hx rfl;obtain rfl:=fq.1 (show[c]=[Dt k]from this);exact⟨Dt k,fun _=>rfl,.inr rfl⟩
 case so.so i i'=>
  obtain rfl:i=i':=by simpa[rL]using hs
  have hi:i<aR:=hok;have hne:fO h'' i≠none:=fun e=>by simp[iB,e]at ha
  have e:=hlow i hi hne;have ha':iB h' (.so i)=true:=by simp only[iB]at ha|-;rw[<-e];exact ha
  obtain⟨c2,e2,h2,h3⟩:=hx ha';refine⟨c,fun _=>⟨c2,e2,fun c' hc'=>h2 c' (by rw[<-e];exact hc'),h3⟩,.inr (sg.eh _ fun j hj=>?_)⟩;obtain rfl:=fq.1 e2;rw[h3 j hj];exact hM i hi
 case sr.sr i i'=>
  obtain rfl:i=i':=by simpa[rL]using hs
  have hi:i<aR:=hok;have hne:fO h'' i≠none:=fun e=>by simp[iB,e]at ha
  have e:=hlow i hi hne;have ha':iB h' (.sr i)=true:=by simp only[iB]at ha|-;rw[<-e];exact ha
  obtain⟨c2,e2,h2,h3⟩:=hx ha';refine⟨c,fun _=>⟨c2,e2,fun c' hc'=>h2 c' (by rw[<-e];exact hc'),h3⟩,.inr (sg.eh _ fun j hj=>?_)⟩;obtain rfl:=fq.1 e2;rw[h3 j hj];exact hM i hi
 case op.op i t p i' t' p'=>
  have hp:i=i'/\t=t'/\p=[]/\p'=[]:=by
   cases p with
   |cons=>cases p'<;>simp[rL]at hs
   |nil=>cases p' with|cons=>simp[rL]at hs|nil=>simpa[rL]using hs
  obtain⟨rfl,rfl,rfl,rfl⟩:=hp;have hi:i<aR:=hok.1;have hne:fO h'' i≠none:=fun e=>by simp[iB,e]at ha
  have e:=hlow i hi hne;have ha':iB h' (.op i t [])=true:=by simp only[iB]at ha|-;rw[<-e];exact ha
  have h2:=hx ha';obtain rfl:=fq.1 (show[c]=[C.op i (mM t [])]from h2);exact⟨_,fun _=>rfl,.inr ⟨i,hM i hi,rfl⟩⟩
 case gn.gn=>simp[iB]at ha
theorem E_(hlow:∀i,i<aR->fO h'' i≠none->fO h'' i=fO h' i)(hM:∀i,i<aR->M i i){hz:H2}:∀(g0 g:V)(cs:List C),x9 g0 g=true->fw aR hz g0->JX h' g cs->∃cs',JX h'' g0 cs'/\M1 M cs' cs:=by
 intro g0;induction g0 with
 |ni=>intro g cs hs _ hg;cases g<;>simp[x9]at hs;obtain rfl:=hg;exact⟨[],rfl,rfl⟩
 |co x0 y0 _ ih=>intro g cs hs hk hg;cases g with|co x y=>simp only[x9,ai]at hs;obtain⟨c,m,rfl,h1,h2⟩:=hg;obtain⟨c',h3,h4⟩:=CN (M:=M) hlow hM hs.1 hk.1 h1;obtain⟨cs',h5,h6⟩:=ih y m hs.2 hk.2 h2;exact⟨c'::cs',⟨c',cs',rfl,h3,h5⟩,c,m,h4,h6,rfl⟩|_=>simp[x9]at hs
 |_=>intro g cs hs;cases g<;>simp[x9]at hs
theorem RL{b:Nat}{a r:JV}{l:List V}{x0 y0 v':V}{r':List V}(h:iS b (.co a r) true l (.co x0 y0)=some (v',r')):∃v l1 w,iS b a false l x0=some (v,l1)/\iS b r true l1 y0=some (w,r')/\v'=.co v w:=by
 simp only[iS]at h;split at h
 .rename_i v l1 h1;split at h
  .rename_i w l2 h2;obtain⟨rfl,rfl⟩:=ad (aa h);exact⟨v,l1,w,h1,h2,rfl⟩
  .simp at h
 .simp at h
theorem Bc(cx:Cx h' h'' aR n'' mf M)(hlow:∀i,i<aR->fO h'' i≠none->fO h'' i=fO h' i)(hM:∀i,i<aR->M i i){hz:H2}(eV:∀v,fw aR hz v->fw n'' h'' v):∀(gs:JV)(g0 g:V)(m:List Bd)(l:List V)(m1:List Bd)(rest:List V)(g':V)(r':List V)(cs:List C),
  pQ h' gs g0 g m=some (l,m1)->(∀b∈m1,b∈mf)->fw aR hz g0->JX h' g cs->fw n' h' g->iS aR gs true (l++rest) g0=some (g',r')->r'=rest/\fw n'' h'' g'/\∃cs',JX h'' g' cs'/\M1 M cs' cs:=by
 intro gs;induction gs with
 |sm=>intro g0 g m l m1 rest g' r' cs hc hm hk0 hg hk hs;simp only[pQ]at hc;obtain⟨hsm,hc⟩:=aO hc;obtain⟨rfl,_⟩:=ad (aa hc);simp only[iS,bh]at hs;obtain⟨rfl,rfl⟩:=ad (aa hs);exact⟨rfl,eV _ hk0,E_ hlow hM g0 g cs hsm hk0 hg⟩
 |ni=>intro g0 g m l m1 rest g' r' cs hc hm hk0 hg hk hs;cases g0<;>cases g<;>simp[pQ]at hc;obtain⟨rfl,_⟩:=hc;simp only[iS,bh]at hs;obtain⟨rfl,rfl⟩:=ad (aa hs);obtain rfl:=hg;exact⟨rfl,trivial,[],rfl,rfl⟩
 |co a r _ ih=>
  intro g0 g m l m1 rest g' r' cs hc hm hk0 hg hk hs;cases g0 with
  |co x0 y0=>
   cases g with
   |co x y=>
    obtain⟨c,cs,rfl,hx,hg⟩:=hg;obtain⟨v,l1,w,e1,e2,rfl⟩:=RL hs
    have EI:(bif iB h' x then(match dw a false x m with|some (l,m)=>(match pQ h' r y0 y m with|some (l',m)=>some (l++l',m)|none=>none)|none=>none)else none)=some (l,m1)->r'=rest/\fw n'' h'' (.co v w)/\∃cs',JX h'' (.co v w) cs'/\M1 M cs' (c::cs):=by
     intro hc;obtain⟨ha,hc⟩:=aO hc;split at hc
     .rename_i l2 m2 h1;split at hc
      .rename_i l3 m3 h2;obtain⟨rfl,rfl⟩:=ad (aa hc);rw[aL]at e1;obtain⟨rfl,g1,_,_,cs1,g2,g3⟩:=tN cx a false x m l2 m2 _ x0 v l1 [c] h1 (fun b hb=>hm b ((wF _ _ _ _ _ _ h2).1 b hb)) (hx ha) hk.1 e1;obtain⟨rfl,k1,cs2,k2,k3⟩:=ih _ _ _ _ _ _ _ _ _ h2 hm hk0.2 hg hk.2 e2
       match cs1,g3 with
       |[],g3=>exact absurd (show[c]=[]from g3) (by simp)
       |c1::t,g3=>obtain⟨d,r2,q1,q2,q3⟩:=g3;obtain⟨rfl,rfl⟩:=ct q3;cases t with|nil=>exact⟨rfl,⟨g1,k1⟩,c1::cs2,⟨c1,cs2,rfl,fun _=>g2,k2⟩,c,cs,.inr q1,k3,rfl⟩|cons=>obtain⟨_,_,_,_,e⟩:=q2;simp at e
      .simp at hc
     .simp at hc
    cases a with|sm=>obtain⟨hsm,hc⟩:=aO (show(bif rL x0 x then pQ h' r y0 y m else none)=_ from hc);simp only[iS]at e1;obtain⟨rfl,rfl⟩:=ad (aa e1);obtain⟨rfl,k1,cs2,k2,k3⟩:=ih _ _ _ _ _ _ _ _ _ hc hm hk0.2 hg hk.2 e2;obtain⟨c',h3,h4⟩:=CN (M:=M) hlow hM hsm hk0.1 hx;exact⟨rfl,⟨eV _ hk0.1,k1⟩,c'::cs2,⟨c',cs2,rfl,h3,k2⟩,c,cs,h4,k3,rfl⟩|gn=>have hc:pQ h' r y0 y m=some (l,m1):=hc;simp only[iS]at e1;obtain⟨rfl,rfl⟩:=ad (aa e1);obtain⟨rfl,k1,cs2,k2,k3⟩:=ih _ _ _ _ _ _ _ _ _ hc hm hk0.2 hg hk.2 e2;exact⟨rfl,⟨trivial,k1⟩,rP::cs2,⟨rP,cs2,rfl,fun h=>by simp[iB]at h,k2⟩,c,cs,.inl rfl,k3,rfl⟩|_=>exact EI hc
   |_=>simp[pQ]at hc
  |_=>simp[pQ]at hc
 |_=>intro g0 g m l m1 rest g' r' cs hc;simp[pQ]at hc
end
def Hi(aR:Nat):Ob->Prop
 |.box cs=>∀i∈eN.mJ cs,i<aR
 |.nst _ sl=>∀(k i len:Nat),sl[k]?=some (kW.dV i len)->i<aR
 |_=>True
theorem N2{h:H2}{o:O}{aR:Nat}{b:Option Ob}{F:Option Ob}(ho:yv h o b)(hk:Ha aR h o)(hF:(∀x,b=some x->Hi aR x->F=b)/\(b=none->F=none)):∀g,yv g o b->yv g o F:=by
 intro g hg
 have eh:(b=none\/∃x,b=some x/\Hi aR x)->yv g o F:=by
  rintro(e|⟨x,e,hx⟩)
  .rw [hF.2 e,<-e];exact hg
  .rw [hF.1 x e hx];exact hg
 cases o with
 |ar t s v=>cases s with|nil=>exact⟨hg.1,hg.2.1,fun l e=>by cases e⟩|mk l=>exact eh (.inr ⟨_,ho.2.2 l rfl,trivial⟩)
 |im t s v=>cases s with|nil=>exact⟨hg.1,hg.2.1,fun l e=>by cases e⟩|mk l=>exact eh (.inr ⟨_,ho.2.2 l rfl,trivial⟩)
 |bx t c=>obtain⟨cs,h1,h2,_⟩:=ho;exact eh (.inr ⟨_,h1,fun i hi=>(Ej h2 hk i hi).1⟩)
 |ib t v=>exact eh (.inr ⟨_,ho.2,trivial⟩)
 |rw t s ln=>cases s with|nil=>exact⟨hg.1,hg.2.1,fun l e=>by cases e⟩|mk l=>refine eh (.inr ⟨_,ho.2.2 l rfl,fun k i len h=>?_⟩);obtain⟨m,rfl⟩:=xZ h;exact hk.2.1
 |mp k v m=>exact eh (.inr ⟨_,ho.2.2,trivial⟩)
open Classical in
theorem NN{s1:St}{aR n'':Nat}{mf:List Bd}{e':jJ}{h':bH}{g':List C}(hi:Bm mf)(hn:∀b∈mf,aR+b.j<n'')(hbn:aR<=n'')
  (he:∀t x',cu e' t=some x'->∃x,cu s1.dO t=some x/\Ez (fun i j=>(i=j/\j<aR)\/∃b∈mf,b.id=some j/\i=aR+b.j) x' x)
  (hh:∀i o',aC h' i=some o'->∃j o,((i=j/\j<aR)\/∃b∈mf,b.id=some j/\i=aR+b.j)/\aC s1.heap j=some o/\O1 (fun i j=>(i=j/\j<aR)\/∃b∈mf,b.id=some j/\i=aR+b.j) o' o/\∀b∈mf,b.id=some j->i=aR+b.j)
  (hg:M1 (fun i j=>(i=j/\j<aR)\/∃b∈mf,b.id=some j/\i=aR+b.j) g' s1.gh):Sub s1 ⟨e',h',n'',g'⟩:=by
 intro S K w0 Kn φ gv nt a w hR;let Kn':Nat->Prop:=fun i=>(i<aR/\Kn i)\/∃b∈mf,i=aR+b.j/\∃id,b.id=some id/\Kn id;let φ':Nat->gN:=fun i=>if i<aR then φ i else match MQ mf (i-aR)with|some ⟨_,some id⟩=>φ id|_=>default
 have hbd:∀b∈mf,MQ mf (aR+b.j-aR)=some b:=by intro b hb;rw[Nat.add_sub_cancel_left];cases h:MQ mf b.j with|none=>exact absurd rfl (Eo h b hb)|some c=>obtain⟨h1,h2⟩:=zr h;rw[(hi c h1 b hb).1 h2]
 have hM:∀i j,((i=j/\j<aR)\/∃b∈mf,b.id=some j/\i=aR+b.j)->Kn j->Kn' i/\φ' i=φ j:=by
  rintro i j (⟨rfl,hlt⟩|⟨b,hb,hid,rfl⟩) hk
  .exact ⟨.inl ⟨hlt,hk⟩,if_pos hlt⟩
  .refine ⟨.inr ⟨b,hb,rfl,j,hid,hk⟩,?_⟩;show(if aR+b.j<aR then _ else _)=_;rw[if_neg (by omega),hbd b hb];obtain⟨bj,bid⟩:=b;simp only at hid;subst hid;rfl
 have hun:∀i j i0,((i=i0/\i0<aR)\/∃b∈mf,b.id=some i0/\i=aR+b.j)->(∀b∈mf,b.id=some i0->i=aR+b.j)->((j=i0/\i0<aR)\/∃b∈mf,b.id=some i0/\j=aR+b.j)->(∀b∈mf,b.id=some i0->j=aR+b.j)->i=j:=by
  rintro i j i0 (⟨rfl,_⟩|⟨b,hb,hid,rfl⟩) hu1 h2 hu2
  .rcases h2 with⟨rfl,_⟩|⟨b,hb,hid,rfl⟩
   .rfl
   .exact hu1 b hb hid
  .exact (hu2 b hb hid).symm
 refine⟨S,Kn',φ',gY.refl S w,⟨hR.inv.uM,hR.inv.sk,hR.inv.nr,fun i o ho=>?_,fun i j x y hx hy ox oy hne=>?_,hR.inv.BW,?_⟩,fun t x hx=>?_,hR.size,hR.defers,fun j hj hk=>?_,fun i c v hc hv=>?_⟩
 .obtain ⟨j,o0,hij,ho0,htr,_⟩:=hh i o ho;obtain⟨hk,hro⟩:=hR.inv.iO j o0 ho0;obtain⟨hk',e⟩:=hM i j hij hk;refine⟨hk',?_⟩;rw[e];rcases htr with⟨rfl,hnb⟩|⟨a',c',rfl,rfl,htl⟩
  .cases hro with
   |nst hsz hl hS hK hown hext hfit hr hv=>
    refine .nst hsz hl hS hK hown hext hfit (fun q s hs=>?_) hv;obtain⟨v,h1,h2⟩:=hr q s hs;refine⟨v,h1,?_⟩;cases h2 with
    |nil=>exact .nil
    |bt h3 h4 h5=>exact .bt h3 h4 h5
    |dV h3=>exact .dV (sg.rc hM _ _ v (sg.eh _ fun q' hq'=>by
      obtain rfl:q'=_:=by simpa[eN]using hq'
      exact hnb.2 _ _ _ hs) h3)
   |aM hsz hl hS hK hown hext hfit hr hv=>exact .aM hsz hl hS hK hown hext hfit hr hv
   |qH hsz hl hS hr=>exact .qH hsz hl hS hr
   |o5 hb hS hr=>exact .o5 hb hS hr
   |box=>exact absurd rfl (hnb.1 _)
   |map hS hK hmp hlen hr=>exact .map hS hK hmp hlen hr
   |cap hsz hl hS hK hown hext hfit hr hv hc=>exact .cap hsz hl hS hK hown hext hfit hr hv hc
  .cases hro with|box hb hS hK hown hlen hr=>exact .box hb hS hK hown ((oO.len htl).trans hlen) (oO.rc hM a' c' _ htl hr)
 .obtain ⟨i0,x0,hi0,hx0,htx,huq⟩:=hh i x hx;obtain⟨j0,y0,hj0,hy0,hty,huq2⟩:=hh j y hy
  have hox:cW x0=true:=by
   rcases htx with⟨rfl,_⟩|⟨a',c',rfl,rfl,_⟩
   .exact ox
   .rfl
  have hoy:cW y0=true:=by
   rcases hty with⟨rfl,_⟩|⟨a',c',rfl,rfl,_⟩
   .exact oy
   .rfl
  rw[(hM i i0 hi0 (hR.inv.iO i0 x0 hx0).1).2,(hM j j0 hj0 (hR.inv.iO j0 y0 hy0).1).2];refine hR.inv.eH i0 j0 x0 y0 hx0 hy0 hox hoy fun e=>hne ?_;subst e;exact hun i j i0 hi0 huq hj0 huq2
 .intro i sz sl k x hi hp;obtain⟨i0,x0,hi0,hx0,htx,huq⟩:=hh i _ hi;rcases htx with⟨rfl,_⟩|⟨a',c',e,_⟩
  case inr=>cases e
  rw[(hM i i0 hi0 (hR.inv.iO i0 _ hx0).1).2]at hp;obtain⟨p1,p2⟩:=hR.inv.wT i0 sz sl k x hx0 hp;refine⟨fun j b hj hb=>?_,fun j sz' sl' k' hj hp'=>?_⟩
  .obtain ⟨j0,y0,hj0,hy0,hty,_⟩:=hh j b hj
   have hoy:cW y0=true:=by
    rcases hty with⟨rfl,_⟩|⟨a',c',rfl,rfl,_⟩
    .exact hb
    .rfl
   rw[(hM j j0 hj0 (hR.inv.iO j0 y0 hy0).1).2];exact p1 j0 y0 hy0 hoy
  .obtain ⟨j0,y0,hj0,hy0,hty,huq2⟩:=hh j _ hj;rcases hty with⟨rfl,_⟩|⟨a',c',e,_⟩
   case inr=>cases e
   rw[(hM j j0 hj0 (hR.inv.iO j0 _ hy0).1).2]at hp';obtain⟨e1,e2⟩:=p2 j0 sz' sl' k' hy0 hp';subst e1;exact⟨hun j i j0 hj0 huq2 hi0 huq,e2⟩
 .obtain ⟨x0,h1,h2⟩:=he t x hx;exact Ez.rc hM x x0 _ h2 (hR.dO t x0 h1)
 .have hj:n''<=j:=hj;rcases hk with⟨hlt,_⟩|⟨b,hb,rfl,_⟩
  .omega
  .have:=hn b hb;omega
 .rcases hg.get i c hc with e|⟨d,h1,h2⟩
  .exact .inl e
  .rcases hR.gh i d v h1 hv with rfl|hr
   .left;cases c with
    |oR f l=>obtain⟨m,h3,h4⟩:=h2;simp only[rP,C.oR.injEq]at h4;obtain⟨rfl,rfl⟩:=h4;cases l with|nil=>rfl|cons x l=>obtain⟨_,_,_,_,e⟩:=h3;simp at e
    |d x=>exact absurd (show rP=C.d x from h2) (by simp[rP])
    |_=>obtain⟨_,_,e⟩:=h2;simp[rP]at e
   .exact .inr (sg.rc hM c d v h2 hr)
theorem DX{α:Type}{l:List (Nat×α)}{t:Nat}(h:∀p∈l,p.1≠t):cu l t=none:=by cases hx:cu l t with|none=>rfl|some x=>exact absurd rfl (h _ (xD hx))
theorem QB{ds:List Nat}{t:Nat}:cu (ds.map fun t=>(t,V.gn)) t=if t∈ds then some .gn else none:=by
 induction ds with
 |nil=>rfl
 |cons d ds ih=>
  simp only[aB,cu,ih];by_cases e:d=t
  .subst e;simp
  .have e':(d==t)=false:=by simpa using e
   have:t≠d:=fun q=>e q.symm;simp[e',this]
theorem Sd{kl:List Nat}{h:H2}{i:Nat}:fO (kl.map (fun i=>(i,none))++h) i=if i∈kl then none else fO h i:=by
 induction kl with
 |nil=>rfl
 |cons k kl ih=>
  rw[aB,aU,eD,ih];by_cases e:k=i
  .subst e;simp
  .have:i≠k:=fun q=>e q.symm;simp[e,this]
open Classical in
theorem Q0{j:J}{ds w:List Nat}{s1 s1':St}{s0 s' s'':S2}{l:List V}(hr0:R2 s1 s0)(hr:R2 s1' s')(hf:w_ ds w s1 s1' s0 s')(hw:∀i∈w,s0.next<=i\/i∈j.kl)(hc:Bb j s0 s'=some l)(hs:ur j ds s0 l=some s''):
  ∃s1'' w',Sub s1' s1''/\R2 s1'' s''/\s''.wo=w'++s0.wo/\w_ ds w' s1 s1'' s0 s''/\∀i∈w',s0.next<=i\/i∈j.kl:=by
 unfold Bb at hc;split at hc
 case h_2=>simp at hc
 rename_i l1 m1 hvs;split at hc
 case h_2=>simp at hc
 rename_i l2 m2 hgs;split at hc
 case h_2=>simp at hc
 rename_i l3 mf hos;obtain⟨hchk,hc⟩:=aO hc;obtain rfl:=aa hc;simp only[ai,bc]at hchk;obtain⟨_,hbm⟩:=hchk;unfold ur at hs;split at hs
 case h_2=>simp at hs
 rename_i e r1 hev;split at hs
 case h_2=>simp at hs
 rename_i g' r2 hgv;split at hs
 case h_2=>simp at hs
 rename_i hl r3 hov;obtain rfl:=aa hs
 -- the bindings
 have hm12:=(wF _ _ _ _ _ _ hgs).1;have hm2f:=(uH _ _ _ _ _ hos).1;have hinj:Bm mf:=(uH _ _ _ _ _ hos).2 ((wF _ _ _ _ _ _ hgs).2 ((zp _ _ _ _ hvs).2 (fun b hb=>by simp at hb)))
 have hbj:∀b∈mf,s0.next+b.j<s0.next+j.os.length:=fun b hb=>by
  have:=(hbm b hb).1;have:b.j<j.os.length:=by simpa[Nat.blt_eq]using this
  omega
 have hbid:∀b∈mf,∀i,b.id=some i->s0.next<=i\/i∈j.kl:=fun b hb i hid=>by have:=(hbm b hb).2;rw[hid]at this;simpa[Nat.ble_eq]using this
 -- what is left of the ao
 have hx0:=UY (h':=s'.heap) hbj;obtain⟨rfl,_⟩:=zo hr hx0 j.vs [] l1 m1 (l2++l3) e r1 hvs (fun b hb=>hm2f b (hm12 b hb)) hev;have hle:s0.next<=s0.next+j.os.length:=lE _ _;have hst0:lN s0.next s0.heap []:=⟨fun i o _ ho=>by simp[fO,cu]at ho⟩
 have hrg:r2=l3:=(Bc (n':=s'.next) (hz:=s0.heap) hx0 (fun i _ h=>absurd rfl h) (fun _ _=>trivial) (fun v hv=>gR hle hst0 hv) j.gs s0.gh s'.gh m1 l2 m2 l3 g' r2 s1'.gh hgs hm2f hr0.gh.2 hr.gh.1 hr.gh.2 hgv).1;subst hrg;obtain⟨hap,hge⟩:=Gx hr.hr hbj j.os 0 m2 r2 mf [] hl r3 hos (fun b hb=>hb) (by rw[List.append_nil];exact hov);clear hx0
 -- the heap
 generalize hh2:hl++j.kl.map (fun i=>(i,none))++s0.heap=h''
 have hfo:∀i,fO h'' i=match cu hl i with|some o=>o|none=>if i∈j.kl then none else fO s0.heap i:=fun i=>by
  rw[<-hh2,aL];have:fO (hl++(j.kl.map (fun i=>(i,none))++s0.heap)) i=match cu hl i with|some o=>o|none=>fO (j.kl.map (fun i=>(i,none))++s0.heap) i:=by simp only[fO,iW hl];cases cu hl i<;>rfl
  rw[this,Sd]
 have hhl:∀i,i<s0.next->cu hl i=none:=fun i hi=>DX fun p hp e=>by have:=hge p hp;omega
 have hfl:∀i,i<s0.next->fO h'' i=if i∈j.kl then none else fO s0.heap i:=fun i hi=>by rw[hfo,hhl i hi]
 have hwk:∀i,i<s0.next->i∉j.kl->i∉w:=fun i hi hk hm=>by
  rcases hw i hm with h|h
  .omega
  .exact hk h
 have eV:lN s0.next s0.heap h'':=⟨fun i o hi ho=>by
  rw[hfl i hi]at ho;split at ho
  .simp at ho
  .exact .inl ⟨o,ho,Cs.refl _⟩⟩
 have hnb:∀i,i<s0.next->fO s0.heap i=none->fO h'' i=none:=fun i hi h=>by
  rw[hfl i hi];split
  .rfl
  .exact h
 have hlow:∀i,i<s0.next->fO h'' i≠none->fO h'' i=fO s'.heap i:=fun i hi h=>by
  rw[hfl i hi]at h|-;split at h
  .exact absurd rfl h
  .rename_i hk;rw[if_neg hk,(hf.ob i hi (hwk i hi hk)).1]
 generalize hMd:(fun(i j:Nat)=>(i=j/\j<s0.next)\/∃b∈mf,b.id=some j/\i=s0.next+b.j)=M;have hM1:∀i,i<s0.next->M i i:=fun i hi=>by rw[<-hMd];exact .inl ⟨rfl,hi⟩
 have hnew:∀b∈mf,∀o,fO h'' (s0.next+b.j)=some o->AP s'.heap s0.next mf b o:=fun b hb o ho=>by
  rw[hfo]at ho;split at ho
  .rename_i o' hx;obtain⟨o2,rfl,b2,hb2,e2,ha⟩:=hap _ _ hx;obtain rfl:=aa ho;rw[(hinj b hb b2 hb2).1 (by omega)];exact ha
  .split at ho
   .simp at ho
   .have:=(hr0.hr.ob _ _ ho).1;omega
 have cx:Cx s'.heap h'' s0.next (s0.next+j.os.length) mf M:=by
  refine⟨fun b hb i hid=>by rw[<-hMd];exact .inr ⟨b,hb,hid,rfl⟩,hbj,fun b hb i hid c' hc'=>?_,fun b hb i hid c' hc'=>?_,fun b hb hid c' hc'=>?_⟩
  .cases ho:fO h'' (s0.next+b.j)with
   |none=>rw[ho]at hc';simp[Au]at hc'
   |some o=>
    rw[ho]at hc';have ha:=hnew b hb o ho;cases o with
    |ar t s v=>
     obtain⟨_,⟨h1,_⟩|⟨id,ver,h1,h2⟩⟩:=ha
     .rw [hid]at h1;cases h1
     .rw [hid]at h1;obtain rfl:=aa h1;exact⟨t,s,(aa hc').symm,mO (.inl h2)⟩
    |im=>exact ha.elim
    |_=>simp[Au]at hc'
  .cases ho:fO h'' (s0.next+b.j)with
   |none=>rw[ho]at hc';simp[EZ]at hc'
   |some o=>rw[ho]at hc';have ha:=hnew b hb o ho;cases o with|rw t s ln=>obtain⟨_,id,h1,h2⟩:=ha;rw[hid]at h1;obtain rfl:=aa h1;exact⟨t,s,(aa hc').symm,ss h2⟩|_=>simp[EZ]at hc'
  .cases ho:fO h'' (s0.next+b.j)with
   |none=>rw[ho]at hc';simp[Au]at hc'
   |some o=>
    rw[ho]at hc';have ha:=hnew b hb o ho;cases o with
    |ar t s v=>
     obtain⟨_,⟨_,rfl,_⟩|⟨id,ver,h1,_⟩⟩:=ha
     .rw [<-aa hc'];rfl
     .rw [hid]at h1;cases h1
    |im=>exact ha.elim
    |_=>simp[Au]at hc'
 have hkv:∀v,fw s0.next s0.heap v->fw (s0.next+j.os.length) h'' v:=fun v hv=>gR hle eV hv;obtain⟨_,hE0⟩:=zo hr cx j.vs [] l1 m1 (l2++r2) e (l2++r2) hvs (fun b hb=>hm2f b (hm12 b hb)) hev;obtain⟨_,hgk,cs',hgR,hgT⟩:=Bc (n':=s'.next) cx hlow hM1 hkv j.gs s0.gh s'.gh m1 l2 m2 r2 g' r2 s1'.gh hgs hm2f hr0.gh.2 hr.gh.1 hr.gh.2 hgv
 -- the abstract machine's objects
 have hob0:∀i,∃ob,∀o,cu hl i=some (some o)->yv h'' o ob/\Ha (s0.next+j.os.length) h'' o/\∀o1,ob=some o1->∃b∈mf,i=s0.next+b.j/\∃id o0,b.id=some id/\aC s1'.heap id=some o0/\O1 M o1 o0:=by intro i;cases hx:cu hl i with|none=>exact⟨none,fun o h=>by cases h⟩|some o'=>obtain⟨o,rfl,b,hb,e2,ha⟩:=hap i o' hx;obtain⟨ob,g1,g2,g3⟩:=SA hr.hr cx ha;refine⟨ob,fun o2 h=>?_⟩;obtain rfl:=aa (aa h);exact⟨g1,g2,fun o1 h1=>⟨b,hb,e2,g3 o1 h1⟩⟩
 obtain⟨fob,hfob⟩:∃f:Nat->Option Ob,∀i o,cu hl i=some (some o)->yv h'' o (f i)/\Ha (s0.next+j.os.length) h'' o/\∀o1,f i=some o1->∃b∈mf,i=s0.next+b.j/\∃id o0,b.id=some id/\aC s1'.heap id=some o0/\O1 M o1 o0:=⟨fun i=>gi (hob0 i),fun i=>df (hob0 i)⟩
 have hF:∃H:bH,∀i,aC H i=match cu hl i with
   |some _=>fob i
   |none=>if i<s0.next/\i∉j.kl then(match aC s1'.heap i with|some o=>if Hi s0.next o then some o else none|none=>none)else none:=by
  refine Oi _ (hl.map (·.1)++s1'.heap.map (·.1)) fun i hi=>?_;cases hx:cu hl i with|some o=>exact aF _ (xE (by rw[hx];simp))|none=>rw[hx]at hi;refine aH _ (Lh fun e=>hi ?_);simp only[e,ite_self]
 obtain⟨H,hH⟩:=hF;have hHn:∀i o,cu hl i=some (some o)->aC H i=fob i:=fun i o h=>by rw[hH i,h]
 have hHl:∀i,i<s0.next->i∉j.kl->(∀x,aC s1'.heap i=some x->Hi s0.next x->aC H i=aC s1'.heap i)/\(aC s1'.heap i=none->aC H i=none):=fun i hi hk=>by rw[hH i,hhl i hi];simp only[hi,hk,not_false_eq_true,and_self,if_true];refine⟨fun x hx hlo=>by rw[hx];simp only[hlo,if_true],fun hx=>by rw[hx]⟩
 have hHR:∀i,i<s0.next->i∉j.kl->∀o,fO s0.heap i=some o->∀g,yv g o (aC s1.heap i)->yv g o (aC H i):=fun i hi hk o ho g hg=>by have h1:=(hf.ob i hi (hwk i hi hk)).2 o ho;obtain⟨_,h2,h3⟩:=hr0.hr.ob i o ho;exact N2 (h1 _ h2) h3 (hHl i hi hk) g (h1 g hg)
 -- its temporaries
 have hE1:∀t,∃x',∀v,cu e t=some v->fw (s0.next+j.os.length) h'' v/\gG h'' v x'/\∃x,cu s1'.dO t=some x/\Ez M x' x/\∀l,x'≠.iQ l:=by intro t;cases hx:cu e t with|none=>exact⟨.iQ [],fun v h=>by cases h⟩|some v=>obtain⟨h1,x,x',h2,h3,h4,h5⟩:=hE0 t v hx;refine⟨x',fun v2 h=>?_⟩;obtain rfl:=aa h;exact⟨h1,h3,x,h2,h4,h5⟩
 obtain⟨fe,hfe⟩:∃f:Nat->TV,∀t v,cu e t=some v->fw (s0.next+j.os.length) h'' v/\gG h'' v (f t)/\∃x,cu s1'.dO t=some x/\Ez M (f t) x/\∀l,f t≠.iQ l:=⟨fun t=>gi (hE1 t),fun t=>df (hE1 t)⟩
 have hG:∃E:jJ,∀t,cu E t=match cu e t with
   |some _=>some (fe t)
   |none=>(match cu s1'.dO t with|some x=>if∀i∈lY x,i<s0.next then some x else none|none=>none):=by
  refine Ka _ (e.map (·.1)++s1'.dO.map (·.1)) fun t ht=>?_;cases hx:cu e t with|some o=>exact aF _ (xE (by rw[hx];simp))|none=>rw[hx]at ht;refine aH _ (xE fun e=>ht ?_);simp only[e]
 obtain⟨E,hE⟩:=hG;have hEn:∀t v,cu e t=some v->cu E t=some (fe t):=fun t v h=>by rw[hE t,h]
 have hEl:∀t x,cu e t=none->cu s1'.dO t=some x->(∀i∈lY x,i<s0.next)->cu E t=some x:=fun t x h1 h2 h3=>by rw[hE t,h1,h2];exact if_pos h3
 have hsub:Sub s1' ⟨E,H,s0.next+j.os.length,cs'⟩:=by
  refine NN (aR:=s0.next) hinj hbj hle (fun t x' hx=>?_) (fun i o' ho=>?_) (by rw[hMd];exact hgT)
  .rw [hMd];rw[hE t]at hx;split at hx
   .rename_i v hv;obtain⟨_,_,x,h3,h4,_⟩:=hfe t v hv;rw[<-aa hx];exact⟨x,h3,h4⟩
   .split at hx
    .rename_i x hx1;split at hx
     .rename_i hlo;obtain rfl:=aa hx;exact⟨x,hx1,Ez.eh x fun i hi=>hM1 i (hlo i hi)⟩
     .simp at hx
    .simp at hx
  .rw [hMd];cases hx:cu hl i with
   |some o2=>obtain⟨o,rfl,_⟩:=hap i o2 hx;rw[hHn i o hx]at ho;obtain⟨_,_,h3⟩:=hfob i o hx;obtain⟨b,hb,e2,id,o0,hid,h4,h5⟩:=h3 o' ho;refine⟨id,o0,.inr ⟨b,hb,hid,e2⟩,h4,h5,fun b2 hb2 hid2=>?_⟩;rw[(hinj b2 hb2 b hb).2 id hid2 hid];exact e2
   |none=>
    rw[hH i,hx]at ho;simp only at ho;split at ho
    .rename_i hik;split at ho
     .rename_i o hlo;split at ho
      .rename_i hlow1;obtain rfl:=aa ho;refine⟨i,o,.inl ⟨rfl,hik.1⟩,hlo,?_,fun b hb hid=>?_⟩
       .cases o with|box cs=>exact .inr ⟨cs,cs,rfl,rfl,oO.eh cs fun i hi=>hM1 i (hlow1 i hi)⟩|nst sz sl=>exact .inl ⟨rfl,by simp,fun k q len hk=>hM1 q (hlow1 k q len hk)⟩|_=>exact .inl ⟨rfl,by simp,trivial⟩
       .rcases hbid b hb i hid with h|h
        .have:=hik.1;omega
        .exact absurd h hik.2
      .simp at ho
     .simp at ho
    .simp at ho
 refine⟨⟨E,H,s0.next+j.os.length,cs'⟩,hl.map (·.1)++j.kl,hsub,⟨fun t v ht=>?_,⟨fun i o ho=>?_⟩,au _,hgR,hgk⟩,rfl,⟨hle,eV,?_,fun i hi hi2=>?_,fun t x ht hx hk=>?_⟩,fun i hi=>?_⟩
 .have ht:cu (e++ds.map (fun t=>(t,V.gn))++s0.dO) t=some v:=ht;rw[aL,iW]at ht;cases hx:cu e t with
  |some v2=>rw[hx]at ht;obtain rfl:=aa ht;obtain⟨h1,h2,_⟩:=hfe t v2 hx;exact⟨h1,fun _=>⟨_,hEn t v2 hx,h2⟩⟩
  |none=>
   rw[hx]at ht;simp only at ht;rw[iW,QB]at ht;by_cases hds:t∈ds
   .rw [if_pos hds]at ht;obtain rfl:=aa ht;exact⟨trivial,fun h=>by rcases h with h|h<;>simp[iB]at h⟩
   .rw [if_neg hds]at ht;obtain⟨h1,h2⟩:=hr0.dO t v ht;refine⟨hkv v h1,fun ha=>?_⟩;obtain⟨x,h3,h4⟩:=h2 (ha.imp (vA eV hnb h1) fun q=>q);have h5:=uP eV h1 h4
    have hids:∀i∈lY x,i<s0.next/\i∉j.kl/\fO s0.heap i≠none:=fun i hi=>by
     rcases ha with ha|rfl
     .have i1:=(GR h4 h1 i hi).1;have i2:=(GR h5 (hkv v h1) i hi).2 ha;rw[hfl i i1]at i2;split at i2
      .exact absurd rfl i2
      .exact ⟨i1,by assumption,i2⟩
     .obtain rfl:x=.iQ []:=h4;simp[lY,lY.z6]at hi
    have h6:=hf.dO t x hds h3 fun i hi=>⟨(hids i hi).1,hwk i (hids i hi).1 (hids i hi).2.1,(hids i hi).2.2⟩;exact⟨x,hEl t x hx h6 fun i hi=>(hids i hi).1,h5⟩
 .have ho:fO h'' i=some o:=ho;show i<s0.next+j.os.length/\yv h'' o (aC H i)/\Ha (s0.next+j.os.length) h'' o;have ho2:=ho;rw[hfo i]at ho;split at ho
  .rename_i o2 hx;subst ho;obtain⟨h1,h2,_⟩:=hfob i o hx;obtain⟨_,_,b,hb,e2,_⟩:=hap i _ hx;rw[hHn i o hx];exact⟨by have:=hbj b hb;omega,h1,h2⟩
  .split at ho
   .simp at ho
   .rename_i hk;obtain⟨h1,h2,h3⟩:=hr0.hr.ob i o ho;exact⟨by omega,hHR i h1 hk o ho _ (sC eV h3 h2),sB hle eV h3⟩
 .show cs'.length=_;rw[hgT.len];exact hf.gl
 .simp only[ap,not_or]at hi2;refine⟨?_,hHR i hi hi2.2⟩;show fO h'' i=_;rw[hfl i hi,if_neg hi2.2]
 .have h6:=hf.dO t x ht hx fun i hi=>by obtain⟨i1,i2,i3⟩:=hk i hi;simp only[ap,not_or]at i2;exact⟨i1,hwk i i1 i2.2,i3⟩
  cases he:cu e t with
  |none=>exact hEl t x he h6 fun i hi=>(hk i hi).1
  |some v=>
   show cu E t=some x;rw[hEn t v he];obtain⟨_,_,x0,h3,h4,h5⟩:=hfe t v he;rw[h6]at h3;obtain rfl:=aa h3;refine congrArg some (Ez.Ve (fun i=>s0.next<=i\/i∈j.kl) (fun a b hab=>?_) h4 h5 fun i hi hB=>?_)
   .rw [<-hMd]at hab;rcases hab with⟨rfl,_⟩|⟨bb,hb,hid,_⟩
    .exact .inl rfl
    .exact .inr (hbid bb hb b hid)
   .obtain ⟨i1,i2,_⟩:=hk i hi;simp only[ap,not_or]at i2;rcases hB with h|h
    .omega
    .exact i2.2 h
 .rcases ap.1 hi with hi|hi
  .obtain ⟨p,hp,rfl⟩:=ci.1 hi;exact .inl (hge p hp)
  .exact .inr hi
end Go.Ev
