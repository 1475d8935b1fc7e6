/- Regions: what an operation leaves. Conditions: as stated. -/
import Derived.Test.YtpnnnoagjcpmhaaDoorFz
open Bool renaming and_eq_true->af,not_eq_true'->eF
open Classical renaming choose->fo,choose_spec->cQ
open List renaming all_eq_true->aV,append_assoc->aP,cons_append->aO,contains_eq_mem->jX,getElem?_drop->bJ,getElem?_take->dY,length_map->aI,map_cons->aq,mem_append->ak,mem_append_left->aE,mem_append_right->aC,mem_cons->aF,mem_cons_of_mem->aA,mem_filterMap->fR,mem_map->cz,nil_append->bo,singleton_inj->eL
open List.cons renaming inj->bW
open Nat renaming ble->gm,le_add_right->j_,le_refl->ao,le_succ->bk,le_trans->dD,lt_of_lt_of_le->ci,lt_succ_self->aT,zero_add->bG
open Option.some renaming inj->aa,injEq->bl
open Prod.mk renaming inj->ad
namespace Go.Ev
theorem R2.mono{s1:St}{s:S2}(hr:R2 s1 s){n:Nat}(hn:s.next<=n):R2 s1 {s with next:=n}:=⟨fun t v ht=>(hr.db t v ht).imp (fN hn (ik.refl _ _)) id,hr.hr.mono hn,dD hr.next hn,hr.gh.1,fN hn (ik.refl _ _) hr.gh.2⟩
theorem R2.nx{s1:St}{s:S2}(hr:R2 s1 s){n:Nat}(hn:n<=s.next):R2 {s1 with next:=n} s:=⟨hr.db,hr.hr,hn,hr.gh⟩
theorem R2.wo{s1:St}{s:S2}(hr:R2 s1 s)(w:List Nat):R2 s1 {s with wo:=w}:=⟨hr.db,hr.hr,hr.next,hr.gh⟩
theorem qk.mono{s1:St}{s:S2}{q:Rg}(hr:qk s1 s q){n:Nat}(hn:s.next<=n):qk s1 {s with next:=n} q:=⟨hr.r.mono hn,hr.kn,fun t g b v h=>let⟨c,h1,h2⟩:=hr.cd t g b v h;⟨c,h1,fun e=>let⟨x,h3,h4,h5⟩:=h2 e;⟨x,h3,h4,fN hn (ik.refl _ _) h5⟩⟩⟩
theorem qk.nx{s1:St}{s:S2}{q:Rg}(hr:qk s1 s q){n:Nat}(hn:n<=s.next):qk {s1 with next:=n} s q:=⟨hr.r.nx hn,hr.kn,hr.cd⟩
theorem qk.none{s1:St}{s:S2}(hr:R2 s1 s):qk s1 s ⟨[],[]⟩:=⟨hr,fun g b h=>by simp[N9,bX]at h,fun t g b v h=>by simp[bX]at h⟩
theorem qk.Ru{s1:St}{s:S2}{q:Rg}(hr:qk s1 s q){g:Nat}{c:Bool}(hg:bX s1.db g=some (tB c)):qk s1 s ⟨(g,c)::q.kn,q.cd⟩:=by
 refine⟨hr.r,fun g' b h=>?_,hr.cd⟩;simp only[N9,bX]at h;by_cases e:g=g'
 .subst e;have:c=b:=by simpa using h
  rw[<-this];exact hg
 .have e':(g==g')=false:=by simpa using e
  rw[e',cond_false]at h;exact hr.kn g' b h
theorem DY{α:Type}{d:Nat}:∀{l:List (Nat×α)}{t:Nat}{x:α},bX (l.filter fun e=>!(e.1==d)) t=some x->t≠d/\bX l t=some x:=by
 intro l;induction l with
 |nil=>intro t x h;simp[bX]at h
 |cons p l ih=>
  obtain⟨a,y⟩:=p;intro t x h;by_cases e:a=d
  .rw [List.filter_cons,if_neg (by simp[e])]at h;obtain⟨h1,h2⟩:=ih h;refine⟨h1,?_⟩;simp only[bX];have e':(a==t)=false:=by simpa using fun q=>h1 (q.symm.trans e)
   rw[e',cond_false];exact h2
  .rw [List.filter_cons,if_pos (by simp[e])]at h;simp only[bX]at h|-;by_cases e2:a=t
   .subst e2;have e':(a==a)=true:=by simp
    rw[e',cond_true]at h|-;exact⟨e,h⟩
   .have e':(a==t)=false:=by simpa using e2
    rw[e',cond_false]at h|-;exact ih h
theorem vz{α:Type}:∀{l:List (Nat×α)}{t:Nat}{x:α},bX l t=some x->(t,x)∈l:=by
 intro l;induction l with
 |nil=>intro t x h;simp[bX]at h
 |cons p l ih=>
  obtain⟨a,y⟩:=p;intro t x h;simp only[bX]at h;by_cases e2:a=t
  .subst e2;have:y=x:=by simpa using h
   subst this;exact List.mem_cons_self
  .have e':(a==t)=false:=by simpa using e2
   rw[e',cond_false]at h;exact aA _ (ih h)
theorem Ci{q q':Rg}{d:Option Nat}(h:Mq q d=some q'):q'.kn=q.kn/\(∀t y,bX q'.cd t=some y->d≠some t/\bX q.cd t=some y/\d≠some y.1)/\∀g b,N9 q.kn g=some b->d≠some g:=by
 cases d with
 |none=>obtain rfl:=aa h;exact⟨rfl,fun t y hy=>⟨by simp,hy,by simp⟩,fun _ _ _=>by simp⟩
 |some d=>
  simp only[Mq]at h;cases hc:(q.cd.any (fun e=>e.2.1==d)||q.kn.any (fun e=>e.1==d))with
  |true=>rw[hc]at h;simp at h
  |false=>
   rw[hc,cond_false]at h;obtain rfl:=aa h;simp only[Bool.or_eq_false_iff,List.any_eq_false,beq_iff_eq]at hc;refine⟨rfl,fun t y hy=>?_,fun g b hg e=>?_⟩
   .obtain ⟨h1,h2⟩:=DY hy;exact⟨fun e=>h1 (aa e).symm,h2,fun e=>hc.1 _ (vz h2) (aa e).symm⟩
   .exact hc.2 _ (vz hg) (aa e).symm
theorem B0{s:S2}{d:Option Nat}{v:V}(t:Nat):bX (rA s d v).db t=if d=some t then some v else bX s.db t:=by
 cases d with
 |none=>simp[rA]
 |some d=>
  simp only[rA,bX];by_cases h:d=t
  .simp [h]
  .have h':(d==t)=false:=by simpa using h
   simp[h,h']
theorem o8{s:S2}{d:Option Nat}{v:V}:(rA s d v).heap=s.heap/\(rA s d v).next=s.next/\(rA s d v).gh=s.gh/\(rA s d v).wo=s.wo:=by cases d<;>exact⟨rfl,rfl,rfl,rfl⟩
theorem qk.iD{s1:St}{s s':S2}{q q':Rg}(hr:qk s1 s q){x:TV}{u:eG}{aw:List Nat}{m:Nat}{v:V}{l:List Nat}(hd:oX s s' s1.heap x u aw m v l){d:Option Nat}(hq:Mq q d=some q'):
  qk ⟨put s1.db d x,u++s1.heap,m,s1.gh⟩ (rA s' d v) q':=by
 obtain⟨c1,c2,c3⟩:=Ci hq;obtain⟨p1,p2,p3,p4⟩:=o8 (s:=s') (d:=d) (v:=v);refine⟨⟨fun t w ht=>?_,by rw[p1,p2];exact hd.hr,by rw[p2];exact hd.m,?_⟩,fun g b hg=>?_,fun t g b w ht=>?_⟩
 .rw [B0]at ht;rw[p1,p2];show _/\(_->∃y,bX (put s1.db d x) t=some y/\_);rw[j6];split at ht
  .rename_i e;obtain rfl:=aa ht;rw[if_pos e];exact⟨hd.R0,fun _=>⟨x,rfl,hd.val⟩⟩
  .rename_i e;rw[if_neg e];rw[hd.db]at ht;obtain⟨h1,h2⟩:=hr.r.db t w ht;refine⟨fN hd.le hd.dA h1,fun ha=>?_⟩;obtain⟨y,h3,h4⟩:=h2 (ha.imp (tF hd.dA hd.nb h1) id);exact⟨y,h3,sH hd.dA h1 h4⟩
 .rw [p3,p1,p2,hd.gh];exact⟨BW hd.dA hd.nb hr.r.gh.2 hr.r.gh.1,fN hd.le hd.dA hr.r.gh.2⟩
 .rw [c1]at hg;show bX (put s1.db d x) g=_;rw[j6,if_neg (c3 g b hg)];exact hr.kn g b hg
 .obtain ⟨e1,e2,e3⟩:=c2 t _ ht;obtain⟨c,h1,h2⟩:=hr.cd t g b w e2;show∃c,bX (put s1.db d x) g=_/\(c=b->∃y,bX (put s1.db d x) t=some y/\_);rw[j6,j6,if_neg e3,if_neg e1,p1,p2];refine⟨c,h1,fun e=>?_⟩;obtain⟨y,h3,h4,h5⟩:=h2 e;exact⟨y,h3,sH hd.dA h5 h4,fN hd.le hd.dA h5⟩
theorem D6{s1:St}{s:S2}{q:Rg}(hr:qk s1 s q):oX s s s1.heap (.gR []) [] [] s.next .no []:=oX.pure hr.r.hr rfl trivial fun i hi=>by simp at hi
theorem qk.O7{s1:St}{s:S2}{q q':Rg}(hr:qk s1 s q){d g:Nat}{b c:Bool}{v:V}{x:TV}{m:Nat}(hm:m<=s.next)(hq:Mq q (some d)=some q')(hg:bX s1.db g=some (tB c))(hgd:g≠d)
  (hx:c=b->eW s.heap v x/\eA s.next s.heap v):qk ⟨put s1.db (some d) x,s1.heap,m,s1.gh⟩ (rA s (some d) .gn) ⟨q'.kn,(d,g,b,v)::q'.cd⟩:=by
 obtain⟨c1,c2,c3⟩:=Ci hq;refine⟨⟨fun t w ht=>?_,hr.r.hr,hm,hr.r.gh⟩,fun g' b' hg'=>?_,fun t g' b' w ht=>?_⟩
 .rw [B0]at ht;show _/\(_->∃y,bX (put s1.db (some d) x) t=some y/\_);rw[j6];split at ht
  .obtain rfl:=aa ht;exact⟨trivial,fun h=>by rcases h with h|h<;>simp[gu,rA]at h⟩
  .rename_i e;rw[if_neg e];exact hr.r.db t w ht
 .rw [show(⟨q'.kn,(d,g,b,v)::q'.cd⟩:Rg).kn=q.kn from c1]at hg';show bX (put s1.db (some d) x) g'=_;rw[j6,if_neg (c3 g' b' hg')];exact hr.kn g' b' hg'
 .show ∃c,bX (put s1.db (some d) x) g'=_/\(c=b'->∃y,bX (put s1.db (some d) x) t=some y/\_);simp only[bX]at ht;rw[j6,j6];by_cases e:d=t
  .subst e;obtain⟨rfl,rfl,rfl⟩:g=g'/\b=b'/\v=w:=by simpa using ht
   rw[if_pos rfl,if_neg (by simpa using Ne.symm hgd)];exact⟨c,hg,fun e=>⟨x,rfl,hx e⟩⟩
  .have e':(d==t)=false:=by simpa using e
   rw[e',cond_false]at ht;obtain⟨_,e2,e3⟩:=c2 t _ ht;obtain⟨c',h1,h2⟩:=hr.cd t g' b' w e2;rw[if_neg e3,if_neg (by simpa using e)];exact⟨c',h1,h2⟩
def R7(e:iE)(gd:Option (Nat×Bool)):GV->Prop
 |.run=>ja e gd=some true/\∀g b,gd=some (g,b)->bX e g=some (tB b)
 |.skip=>ja e gd=some false
 |.O7 g b c=>gd=some (g,b)/\bX e g=some (tB c)
theorem nu{e:iE}{g:Nat}{b c:Bool}(h:bX e g=some (tB c)):ja e (some (g,b))=some (c==b):=by simp only[ja,h,tB]
theorem Jw{e:iE}{g:Nat}{b c:Bool}(h:bX e g=some (tB c)):R7 e (some (g,b)) (bif c==b then .run else .skip):=by
 have hw:=nu (b:=b) h;cases hc:(c==b)with
 |true=>
  rw[hc]at hw;refine⟨hw,fun g' b' e'=>?_⟩;obtain⟨rfl,rfl⟩:=ad (aa e');obtain rfl:c=b:=by simpa using hc
  exact h
 |false=>rw[hc]at hw;exact hw
theorem wS{s1:St}{s:S2}{q:Rg}(hr:qk s1 s q){gd:Option (Nat×Bool)}{r:GV}(h:Rw s.db q.kn gd=some r):R7 s1.db gd r:=by
 unfold Rw at h;split at h
 .obtain rfl:=aa h;exact⟨rfl,fun _ _ e=>by simp at e⟩
 .rename_i g b;split at h
  .rename_i c hk;obtain rfl:=aa h;exact Jw (hr.kn g c hk)
  .split at h
   .rename_i c he;obtain rfl:=aa h;obtain⟨x,h1,h2⟩:=(hr.r.db g _ he).2 (.inl rfl);rw[tR h2]at h1;exact Jw h1
   .rename_i c he;obtain rfl:=aa h;obtain⟨x,h1,h2⟩:=(hr.r.db g _ he).2 (.inl rfl);rw[EF h2]at h1;exact⟨rfl,h1⟩
   .rename_i he;obtain rfl:=aa h;obtain⟨x,h1,h2⟩:=(hr.r.db g _ he).2 (.inr rfl);rw[show x=.gR []from h2]at h1;show ja s1.db _=_;simp only[ja,h1]
   .simp at h
structure u5(ds w:List Nat)(s1 s1':St)(s s':S2):Prop where
 le:s.next<=s'.next
 dA:ik s.next s.heap s'.heap
 gl:s1'.gh.length=s1.gh.length
 ob:∀i,i<s.next->i∉w->fO s'.heap i=fO s.heap i/\∀o,fO s.heap i=some o->∀g,sX g o (av s1.heap i)->sX g o (av s1'.heap i)
 db:∀t x,t∉ds->bX s1.db t=some x->(∀i∈kA x,i<s.next/\i∉w/\fO s.heap i≠none)->bX s1'.db t=some x
def Fr(ds:List Nat)(s1 s1':St)(s s':S2):Prop:=∃w,s'.wo=w++s.wo/\u5 ds w s1 s1' s s'
theorem u5.next{ds w:List Nat}{s1:St}{s:S2}{n m:Nat}(hn:s.next<=n):u5 ds w s1 {s1 with next:=m} s {s with next:=n}:=⟨hn,ik.refl _ _,rfl,fun _ _ _=>⟨rfl,fun _ _ _ h=>h⟩,fun _ _ _ h _=>h⟩
theorem u5.trans{ds w w':List Nat}{s1 s2 s3:St}{s s' s'':S2}(a:u5 ds w s1 s2 s s')(b:u5 ds w' s2 s3 s' s''):u5 ds (w'++w) s1 s3 s s'':=by
 refine⟨dD a.le b.le,a.dA.trans a.le b.dA,b.gl.trans a.gl,fun i hi hw=>?_,fun t x ht hx hc=>?_⟩
 .simp only[ak,not_or]at hw;obtain⟨h1,h2⟩:=a.ob i hi hw.2;obtain⟨h3,h4⟩:=b.ob i (ci hi a.le) hw.1;exact⟨h3.trans h1,fun o ho g hg=>h4 o (h1.trans ho) g (h2 o ho g hg)⟩
 .refine b.db t x ht (a.db t x ht hx fun i hi=>?_) fun i hi=>?_
  .obtain ⟨h1,h2,h3⟩:=hc i hi;simp only[ak,not_or]at h2;exact⟨h1,h2.2,h3⟩
  .obtain ⟨h1,h2,h3⟩:=hc i hi;simp only[ak,not_or]at h2;exact⟨ci h1 a.le,h2.1,by rw[(a.ob i h1 h2.2).1];exact h3⟩
theorem u5.mono{ds ds' w w':List Nat}{s1 s2:St}{s s':S2}(a:u5 ds w s1 s2 s s')(hd:∀t∈ds,t∈ds')(hw:∀i∈w,i∈w'):u5 ds' w' s1 s2 s s':=⟨a.le,a.dA,a.gl,fun i hi h=>a.ob i hi fun q=>h (hw i q),fun t x ht hx hc=>a.db t x (fun q=>ht (hd t q)) hx fun i hi=>⟨(hc i hi).1,fun q=>(hc i hi).2.1 (hw i q),(hc i hi).2.2⟩⟩
theorem Fr.refl{ds:List Nat}{s1:St}{s:S2}:Fr ds s1 s1 s s:=⟨[],rfl,u5.next (ao _)⟩
theorem Fr.trans{ds:List Nat}{s1 s2 s3:St}{s s' s'':S2}(a:Fr ds s1 s2 s s')(b:Fr ds s2 s3 s' s''):Fr ds s1 s3 s s'':=by obtain⟨w,h1,h2⟩:=a;obtain⟨w',h3,h4⟩:=b;exact⟨w'++w,by rw[h3,h1,aP],h2.trans h4⟩
theorem Fr.mono{ds ds':List Nat}{s1 s2:St}{s s':S2}(a:Fr ds s1 s2 s s')(hd:∀t∈ds,t∈ds'):Fr ds' s1 s2 s s':=let⟨w,h1,h2⟩:=a;⟨w,h1,h2.mono hd fun _ h=>h⟩
theorem Fr.PS{s1:St}{s s':S2}{x:TV}{u:eG}{aw:List Nat}{m:Nat}{v v':V}{l:List Nat}(hd:oX s s' s1.heap x u aw m v l)(d:Option Nat):Fr d.toList s1 ⟨put s1.db d x,u++s1.heap,m,s1.gh⟩ s (rA s' d v'):=by
 obtain⟨w,h1,h2,h3⟩:=hd.wo;obtain⟨p1,p2,p3,p4⟩:=o8 (s:=s') (d:=d) (v:=v');refine⟨w,p4.trans h1,by rw[p2];exact hd.le,by rw[p1];exact hd.dA,rfl,fun i hi hw=>⟨by rw[p1];exact h3 i hw,fun o ho g hg=>?_⟩,fun t y ht hy _=>?_⟩
 .show sX g o (av (u++s1.heap) i);rw[uf (u:=u) (i:=i) fun p hp e=>hw (e▸h2 p hp)];exact hg
 .show bX (put s1.db d x) t=_;rw[j6,if_neg fun e=>ht (by simp[e])];exact hy
def KH(P:Program)(o:mj)(s1:St)(s s':S2)(q':Rg)(t:List Nat×List Nat):Prop:=
 (ja s1.db o.guard=some true/\∃call x u aw m,lE P call/\cm call o.k (o.args.map (jq s1.db)) s1.heap s.next=some (x,u,aw,m)/\(∀i∈aw,i∈t.1)/\(∀p∈u,p.1∈t.2)/\
  qk ⟨put s1.db o.dst x,u++s1.heap,m,s1.gh⟩ s' q'/\Fr o.dst.toList s1 ⟨put s1.db o.dst x,u++s1.heap,m,s1.gh⟩ s s')\/
 (ja s1.db o.guard=some false/\qk ⟨drop s1.db o.dst,s1.heap,s.next,s1.gh⟩ s' q'/\Fr o.dst.toList s1 ⟨drop s1.db o.dst,s1.heap,s.next,s1.gh⟩ s s')
section
variable{P:Program}{β:Type}{tb:Cz}{dr:Option Nat}{o:OP}{r:List OP}{i:Nat}{s1:St}{s s0:S2}{q:Rg}{tr:HC}{k:S2->HC->Option β}{z:β}
theorem zX(htb:nV P tb)(hg:kg)(hr:qk s1 s q)(hw:ja s1.db o.o.guard=some true)(hgc:∀g b,o.o.guard=some (g,b)->bX s1.db g=some (tB b))
  (hz:(Qe tb o s q o.o.guard fun v s1 l=>
   bif GM dr i s1 then(match Mq q o.o.dst with
    |some q=>ly tb dr r (i+1) (rA s1 o.o.dst v) q (tr++[(l,s1.wo.take (s1.wo.length-s.wo.length))]) k
    |none=>none)else none)=some z):
  ∃s' q' t,ly tb dr r (i+1) s' q' (tr++[t]) k=some z/\GM dr i s'=true/\KH P o.o s1 s s' q' t:=by
 obtain⟨v,s',l,h1,call,hc,x,u,aw,m,h2,hd⟩:=JP htb hg hr hgc hz;obtain⟨hb,h1⟩:=aK h1;split at h1
 .rename_i q' hq;refine⟨_,_,_,h1,?_,.inl ⟨hw,call,x,u,aw,m,hc,h2,hd.aw,fun p hp=>?_,hr.iD hd hq,Fr.PS hd _⟩⟩
  .unfold GM at hb|-;rw[o8.2.1];exact hb
  .obtain ⟨w,h3,h4,_⟩:=hd.wo;have:=h4 p hp;show p.1∈s'.wo.take (s'.wo.length-s.wo.length);rw[h3];simpa using this
 .simp at h1
theorem zJ(hr:qk s1 s q)(hb:GM dr i s=true)(hw:ja s1.db o.o.guard=some false)
  (hz:(match Mq q o.o.dst with|some q=>ly tb dr r (i+1) (rA s o.o.dst .no) q (tr++[([],[])]) k|none=>none)=some z):
  ∃s' q' t,ly tb dr r (i+1) s' q' (tr++[t]) k=some z/\GM dr i s'=true/\KH P o.o s1 s s' q' t:=by
 split at hz
 .rename_i q' hq;refine⟨_,_,_,hz,?_,.inr ⟨hw,?_⟩⟩
  .unfold GM at hb|-;rw[o8.2.1];exact hb
  .exact ⟨hr.iD (D6 hr) hq,Fr.PS (D6 hr) _⟩
 .simp at hz
theorem Kp{α:Type}{c:Bool}{x:Option α}{y:α}(h:(bif c then none else x)=some y):x=some y:=by cases c with|true=>simp at h|false=>exact h
theorem Bj(htb:nV P tb)(hg:kg)(hr:qk s1 (KT dr i s0) q)(hb:GM dr i (KT dr i s0)=true)(hz:ly tb dr (o::r) i s0 q tr k=some z):
  ∃s' q' t,ly tb dr r (i+1) s' q' (tr++[t]) k=some z/\GM dr i s'=true/\KH P o.o s1 (KT dr i s0) s' q' t:=by
 simp only[ly]at hz;split at hz
 .simp at hz
 .rename_i hgd;obtain⟨h1,h2⟩:=wS hr hgd;exact zX htb hg hr h1 h2 hz
 .rename_i hgd;exact zJ hr hb (wS hr hgd) hz
 .rename_i g b c hgd;obtain⟨h1,h2⟩:=wS hr hgd;split at hz
  .rename_i v l ht;have ht:=Kp ht;split at hz
   .rename_i q' d hq hd;cases hgd2:Nat.beq g d with
    |true=>rw[hgd2]at hz;simp at hz
    |false=>
     rw[hgd2,cond_false]at hz;have hne:g≠d:=fun e=>by rw[e]at hgd2;simp at hgd2
     rw[hd]at hq;refine⟨_,_,_,hz,?_,?_⟩
     .unfold GM at hb|-;rw[o8.2.1];exact hb
     .by_cases hcb:c=b
      .subst hcb;obtain⟨x,aw,e1,e2,e3,e4⟩:=yh hg hr (gc:=some (g,c)) (fun g' b' e=>by obtain⟨rfl,rfl⟩:=ad (aa e);exact h2) ht oN (KT dr i s0).next
       refine .inl ⟨by rw[h1,nu h2];simp,oN,x,[],aw,_,pd,e1,e4,fun p hp=>by simp at hp,?_⟩;rw[hd];exact⟨hr.O7 (ao _) hq h2 hne fun _=>⟨e2,e3⟩,Fr.PS (oX.pure hr.r.hr e2 e3 e4) _⟩
      .refine .inr ⟨by rw[h1,nu h2];simpa using hcb,?_⟩;rw[hd];exact⟨hr.O7 (ao _) hq h2 hne fun e=>absurd e hcb,Fr.PS (D6 hr) _⟩
   .simp at hz
  .have hkn:=hr.Ru h2;cases b with
   |true=>cases c with|true=>exact zX htb hg hkn (by rw[h1,nu h2];rfl) (fun g' b' e=>by rw[h1]at e;obtain⟨rfl,rfl⟩:=ad (aa e);exact h2) hz|false=>exact zJ hkn hb (by rw[h1,nu h2];rfl) hz
   |false=>cases c with|true=>exact zJ hkn hb (by rw[h1,nu h2];rfl) hz|false=>exact zX htb hg hkn (by rw[h1,nu h2];rfl) (fun g' b' e=>by rw[h1]at e;obtain⟨rfl,rfl⟩:=ad (aa e);exact h2) hz
theorem Gi(htb:nV P tb)(hg:kg):∀(ops:List OP)(i:Nat)(s1:St)(s:S2)(q:Rg)(tr:HC),ly tb none ops i s q tr k=some z->qk s1 s q->
  WO P (ops.map (·.o)) s1 fun s1'=>∃s' tr',R2 s1' s'/\Fr (ops.filterMap (·.o.dst)) s1 s1' s s'/\k s' tr'=some z:=by
 intro ops;induction ops with
 |nil=>intro i s1 s q tr hz hr;exact wk.of ⟨s,tr,hr.r,Fr.refl,hz⟩
 |cons o r ih=>
  intro i s1 s q tr hz hr;have hsub:Sub s1 {s1 with next:=s.next}:=Sub.heap (fun _=>.inl rfl) hr.r.next;have hr1:qk {s1 with next:=s.next} s q:=hr.nx (ao _);obtain⟨s',q',t,h1,_,h2⟩:=Bj (dr:=none) (i:=i) htb hg (show qk {s1 with next:=s.next} (KT none i s) q from hr1) rfl hz;simp only[aq,WO];have hfs:∀t∈o.o.dst.toList,t∈(o::r).filterMap (·.o.dst):=fun t ht=>by rw[Option.mem_toList]at ht;exact fR.2 ⟨o,by simp,ht⟩
  have hrs:∀t∈r.filterMap (·.o.dst),t∈(o::r).filterMap (·.o.dst):=fun t ht=>by obtain⟨p,hp,hpt⟩:=fR.1 ht;exact fR.2 ⟨p,by simp[hp],hpt⟩
  have key:∀s2,Fr o.o.dst.toList {s1 with next:=s.next} s2 s s'->qk s2 s' q'->WO P (r.map (·.o)) s2 fun s1'=>∃s' tr',R2 s1' s'/\Fr ((o::r).filterMap (·.o.dst)) s1 s1' s s'/\k s' tr'=some z:=by
   intro s2 hf hr2;refine WO.mono (fun s1'⟨s3,tr3,g1,g2,g3⟩=>⟨s3,tr3,g1,?_,g3⟩) (ih _ _ _ _ _ h1 hr2);have f0:Fr ((o::r).filterMap (·.o.dst)) s1 {s1 with next:=s.next} s s:=⟨[],rfl,u5.next (ao _)⟩
   exact(f0.trans (hf.mono hfs)).trans (g2.mono hrs)
  refine⟨_,hsub,?_⟩;rcases h2 with⟨hw,call,x,u,aw,m,hc,he,_,_,hr2,hf⟩|⟨hw,hr2,hf⟩
  .exact .inl ⟨hw,call,x,u,aw,m,hc,he,key _ hf hr2⟩
  .exact .inr ⟨hw,key _ hf hr2⟩
def Av:Tr->HC->Prop
 |[],[]=>True
 |a::x,b::y=>(∀i∈a.1,i∈b.1)/\(∀i∈a.2,i∈b.2)/\Av x y
 |_,_=>False
theorem Av.Pc:∀{x:Tr}{y:HC}{a b:List Nat×List Nat},Av x y->(∀i∈a.1,i∈b.1)->(∀i∈a.2,i∈b.2)->Av (x++[a]) (y++[b]):=by
 intro x;induction x with
 |nil=>intro y a b h h1 h2;cases y with|nil=>exact⟨h1,h2,trivial⟩|cons=>exact h.elim
 |cons c x ih=>intro y a b h h1 h2;cases y with|nil=>exact h.elim|cons d y=>exact⟨h.1,h.2.1,ih h.2.2 h1 h2⟩
theorem Av.get:∀{x:Tr}{y:HC}(i:Nat){a:List Nat×List Nat},Av x y->x[i]?=some a->∃b,y[i]?=some b/\(∀i∈a.1,i∈b.1)/\(∀i∈a.2,i∈b.2):=by
 intro x;induction x with
 |nil=>intro y i a _ h;simp at h
 |cons c x ih=>
  intro y i a hl h;cases y with
  |nil=>exact hl.elim
  |cons d y=>cases i with|zero=>obtain rfl:=aa h;exact⟨d,rfl,hl.1,hl.2.1⟩|succ i=>exact ih i hl.2.2 (by simpa using h)
theorem Kz{a b c d:List Nat×List Nat}(h:kC c d=true)(a1:∀i∈a.1,i∈c.1)(a2:∀i∈a.2,i∈c.2)(b1:∀i∈b.1,i∈d.1)(b2:∀i∈b.2,i∈d.2):kC a b=true:=by simp only[kC,af,aV,eF,jX,decide_eq_false_iff_not]at h|-;exact⟨fun i hi=>⟨fun e=>(h.1 i (a2 i hi)).1 (b1 i e),fun e=>(h.1 i (a2 i hi)).2 (b2 i e)⟩,fun i hi e=>h.2 i (b2 i hi) (a1 i e)⟩
def KK(ops:List OP)(tr:Tr):Prop:=∀(j:Nat)(o:OP)(a:List Nat×List Nat),ops[j]?=some o->tr[j]?=some a->Ji o.o.k=true->a.1.length<=1
theorem N0{c:Call}{k:K}{vs:List (Option TV)}{h:bz}{n:Nat}{x:TV}{u:eG}{aw:List Nat}{m:Nat}(he:cm c k vs h n=some (x,u,aw,m))(hk:Ji k=true):aw.length<=1:=by
 cases k<;>simp[Ji]at hk;rename_i ka ks va zero ok;unfold cm at he;split at he<;>first|(simp at he;done)|skip
 all_goals first
  |(rename_i e;cases e;done)
  |skip
 rename_i e;cases e;split at he
 .rename_i v i hv;obtain⟨_,e⟩:=ad (aa he);obtain⟨_,e⟩:=ad e;obtain⟨rfl,_⟩:=ad e;unfold gx at hv;split at hv
  .split at hv
   .obtain ⟨_,rfl⟩:=ad (aa hv);simp
   .simp at hv
  .split at hv
   .split at hv
    .split at hv
     .split at hv
      .obtain ⟨_,rfl⟩:=ad (aa hv);simp
      .simp at hv
     .split at hv
      .obtain ⟨_,rfl⟩:=ad (aa hv);simp
      .simp at hv
     .simp at hv
    .simp at hv
   .simp at hv
  .simp at hv
 .simp at he
theorem Oy{ops:List OP}{x:Tr}{y:HC}{dyn:List (Nat×Nat)}(hl:Av x y)(hk:KK ops x)(hd:Oz ops y dyn=true):yU x dyn=true:=by
 simp only[Oz,yU,aV]at hd|-;intro p hp;have hp2:=hd p hp;obtain⟨i,j⟩:=p;have key:∀(j':Nat)a b c d,x[i]?=some a->x[j']?=some b->y[i]?=some c->y[j']?=some d->kC c d=true->kC a b=true:=by intro j' a b c d ha hb hc hd h;obtain⟨c',h1,h2,h3⟩:=hl.get i ha;obtain⟨d',h4,h5,h6⟩:=hl.get j' hb;rw[hc]at h1;rw[hd]at h4;obtain rfl:=aa h1;obtain rfl:=aa h4;exact Kz h h2 h3 h5 h6
 by_cases hj:1000<=j
 .have hb:gm 1000 j=true:=Nat.ble_eq_true_of_le hj;simp only[hb,cond_true]at hp2;simp only[hj,if_true,C4];split
  .rename_i a b ha hb;obtain⟨c,hc,c1,c2⟩:=hl.get i ha;obtain⟨d,hd,_,_⟩:=hl.get (j-1000) hb;rw[hc,hd]at hp2;simp only[Bool.or_eq_true]at hp2|-;rcases hp2 with hp2|hp2
   .exact .inl (key _ a b c d ha hb hc hd hp2)
   .unfold MM at hp2;split at hp2
    .rename_i o id ho hc2;rw[hc]at hc2;obtain rfl:=aa hc2;simp only[af]at hp2;have hlen:=hk i o a ho ha hp2.1;obtain⟨a1,a2⟩:=a;obtain rfl:a2=[]:=List.eq_nil_iff_forall_not_mem.2 fun q hq=>by have:=c2 q hq;simp at this
     match a1,hlen,c1 with
     |[],_,_=>left;simp[kC]
     |[q],_,c1=>
      obtain rfl:q=id:=by have:=c1 q (by simp);simpa using this
      right;refine aV.2 fun z hz=>?_;obtain⟨n,hn⟩:=List.getElem?_of_mem hz;rw[bJ,dY]at hn;split at hn
      .rename_i hlt;obtain⟨z2,hz2,_,z3⟩:=hl.get _ hn;have hm:z2∈(y.take (j-1000)).drop (i+1):=by refine List.mem_of_getElem? (i:=n) ?_;rw[bJ,dY,if_pos hlt];exact hz2
       have:=aV.1 hp2.2 z2 hm;simp only[eF,jX,decide_eq_false_iff_not]at this|-;exact fun q=>this (z3 _ q)
      .simp at hn
    .simp at hp2
  .rfl
 .have hb:gm 1000 j=false:=by cases h:gm 1000 j with|false=>rfl|true=>exact absurd (Nat.le_of_ble_eq_true h) hj
  simp only[hb,cond_false]at hp2;simp only[hj,if_false];split
  .rename_i a b ha hb;obtain⟨c,hc,_⟩:=hl.get i ha;obtain⟨d,hd,_⟩:=hl.get j hb;rw[hc,hd]at hp2;exact key _ a b c d ha hb hc hd hp2
  .rfl
theorem WD.mono{P:Program}{aL:Nat}{ops:List mj}{i:Nat}{e:iE}{h:bz}{tr:Tr}{Q Q':iE->bz->Tr->Prop}(hq:∀e h tr,Q e h tr->Q' e h tr)(hw:WD P aL ops i e h tr Q):WD P aL ops i e h tr Q':=let⟨calls,h1,e',h',tr',h2,h3⟩:=hw;⟨calls,h1,e',h',tr',h2,hq _ _ _ h3⟩
theorem I1{ops:List OP}{tr:Tr}{o:OP}{t:List Nat×List Nat}(h:KK ops tr)(ho:ops[tr.length]?=some o)(ht:Ji o.o.k=true->t.1.length<=1):KK ops (tr++[t]):=by
 intro j o' a hj ha hl;by_cases hlt:j<tr.length
 .rw [List.getElem?_append_left hlt]at ha;exact h j o' a hj ha hl
 .rw [List.getElem?_append_right (by omega)]at ha;have:j=tr.length:=by have:=(List.getElem?_eq_some_iff.1 ha).1;simp at this;omega
  subst this;rw[ho]at hj;obtain rfl:=aa hj;simp at ha;rw[<-ha];exact ht hl
theorem Gj(htb:nV P tb)(hg:kg){b:Nat}(ops0:List OP):∀(ops:List OP)(i:Nat)(e:iE)(h:bz)(n:Nat)(gh:List C)(s:S2)(q:Rg)(tr:HC)(tr1:Tr),ly tb (some b) ops i s q tr k=some z->qk ⟨e,h,n,gh⟩ s q->s.next<=b+gO*i->Av tr1 tr->(∀j,ops[j]?=ops0[i+j]?)->tr1.length=i->KK ops0 tr1->
  WD P b (ops.map (·.o)) i e h tr1 fun e' h' tr1'=>∃s' tr' n',R2 ⟨e',h',n',gh⟩ s'/\Fr (ops.filterMap (·.o.dst)) ⟨e,h,n,gh⟩ ⟨e',h',n',gh⟩ s s'/\s'.next<=b+gO*(i+ops.length)/\Av tr1' tr'/\KK ops0 tr1'/\k s' tr'=some z:=by
 intro ops;induction ops with
 |nil=>intro i e h n gh s q tr tr1 hz hr hn ht _ _ hlk;exact PY ⟨s,tr,n,hr.r,Fr.refl,hn,ht,hlk,hz⟩
 |cons o r ih=>
  intro i e h n gh s q tr tr1 hz hr hn ht hops hlen1 hlk;have ho0:ops0[tr1.length]?=some o:=by have:=hops 0;rw[hlen1];simpa using this.symm
  have hops2:∀j,r[j]?=ops0[i+1+j]?:=fun j=>by have:=hops (j+1);rw[show i+1+j=i+(j+1)by omega,<-this];rfl
  have hr1:qk ⟨e,h,n,gh⟩ (KT (some b) i s) q:=hr.mono hn;have hb:GM (some b) i (KT (some b) i s)=true:=by simpa[GM,KT]using Lp (aL:=b) (i:=i)
  obtain⟨s',q',t,h1,hb2,h2⟩:=Bj (dr:=some b) htb hg hr1 hb hz;have hb3:s'.next<=b+gO*(i+1):=by simpa[GM]using hb2
  have hlen:i+(o::r).length=i+1+r.length:=by simp only[List.length_cons];omega
  rw[hlen];have hfs:∀t∈o.o.dst.toList,t∈(o::r).filterMap (·.o.dst):=fun t ht=>by rw[Option.mem_toList]at ht;exact fR.2 ⟨o,by simp,ht⟩
  have hrs:∀t∈r.filterMap (·.o.dst),t∈(o::r).filterMap (·.o.dst):=fun t ht=>by obtain⟨p,hp,hpt⟩:=fR.1 ht;exact fR.2 ⟨p,by simp[hp],hpt⟩
  have f0:Fr ((o::r).filterMap (·.o.dst)) ⟨e,h,n,gh⟩ ⟨e,h,n,gh⟩ s (KT (some b) i s):=⟨[],rfl,u5.next hn⟩
  rcases h2 with⟨hw,call,x,u,aw,m,hc,he,hi,hu,hr2,hf⟩|⟨hw,hr2,hf⟩
  .have hm:m<=b+gO*(i+1):=dD hr2.r.next hb3;refine J1 hc ?_ (WD.mono (fun e' h' tr1'⟨s3,tr3,n3,g1,g2,g3⟩=>⟨s3,tr3,n3,g1,(f0.trans (hf.mono hfs)).trans (g2.mono hrs),g3⟩) (ih (i+1) _ _ _ _ _ _ _ (tr1++[(aw,u.map (·.1))]) h1 hr2 hb3 (ht.Pc hi fun j hj=>?_) hops2 (by simp[hlen1]) (I1 hlk ho0 fun hl=>N0 he hl)))
   .simp only[AQ,hw];have he':cm call o.o.k (o.o.args.map (jq e)) h (b+gO*i)=some (x,u,aw,m):=he;rw[he'];exact OX hm
   .obtain ⟨p,hp,rfl⟩:=cz.1 hj;exact hu p hp
  .refine J1 pd ?_ (WD.mono (fun e' h' tr1'⟨s3,tr3,n3,g1,g2,g3⟩=>⟨s3,tr3,n3,g1,(f0.trans (hf.mono hfs)).trans (g2.mono hrs),g3⟩) (ih (i+1) _ _ _ _ _ _ _ (tr1++[([],[])]) h1 hr2 hb3 (ht.Pc (fun i hi=>by simp at hi) fun i hi=>by simp at hi) hops2 (by simp[hlen1]) (I1 hlk ho0 fun _=>Nat.zero_le _)));simp only[AQ,hw]
end
def lM:C2->CC
 |.skip=>.skip
 |.Lt ops none _=>.region (ops.map (·.o)) []
 |.Lt ops (some dyn) _=>.drawn (ops.map (·.o)) dyn []
 |.seq a b _=>.seq (lM a) (lM b)
 |.cond c a b=>.cond c (lM a) (lM b)
 |.block id a=>.block id (lM a)
 |.loop _ _ a=>.loop [] (lM a)
 |.exit id=>.exit id
 |.ret=>.ret
 |.fr=>.fr
theorem MD{s1:St}{s s':S2}{id:Nat}(hz:OY s id=some s')(hr:R2 s1 s):∃s1',Sub s1 s1'/\R2 s1' s'/\Fr [] s1 s1' s s':=by
 unfold OY at hz;split at hz
 .rename_i t v m id2 ho;split at hz
  .rename_i u r ver ho2;split at hz
   .rename_i r' hr';obtain rfl:=aa hz;obtain⟨e,e2⟩:=cR hr';cases e;obtain rfl:r'=r:=e2;obtain⟨_,⟨d1,d2,d3⟩,hlen,hid2,hkk⟩:=hr.hr.ob id _ ho;obtain⟨_,⟨_,_,c3⟩,_⟩:=hr.hr.ob id2 _ ho2;obtain⟨k1,k2⟩:=hkk _ _ _ (.inl ho2);have hne:id2≠id:=fun e=>by rw[e,ho]at ho2;cases ho2
    cases v with
    |nil=>simp[Sl.l]at hlen
    |mk l=>
     have hlen:m<l.length:=hlen;have d3:=d3 l rfl
     have fin:∀(u:eG),(∀p∈u,p.1=id\/p.1=id2)->av (u++s1.heap) id=some (.nst (bm t) ((di t l (some (m,id2))).set m (lK t r')))->Sub s1 ⟨s1.db,u++s1.heap,s1.next,s1.gh⟩->
       ∃s1',Sub s1 s1'/\R2 s1' (cX (cX s id2 none) id (some (.rw t (.mk (l.set m r')) none)))/\Fr [] s1 s1' s (cX (cX s id2 none) id (some (.rw t (.mk (l.set m r')) none))):=by
      intro u hu hb hsub;have d:=(wl (aw:=[]) hr.hr ho ho2 hne (by simp[EI]) hu hb (fun i hi=>by simp at hi)).nx (q:=s1.next) hr.next;exact⟨_,hsub,((qk.none hr).iD d (d:=none) (q':=⟨[],[]⟩) rfl).r,Fr.PS d none (v':=.no)⟩
     have hl:(di t l (some (m,id2)))[m]?=some (xT id2 (gt l m)):=by simp only[di];rw[List.getElem?_set_self (by rw[aI];exact hlen)]
     cases r' with
     |nil=>
      refine fin [] (fun p hp=>by simp at hp) ?_ (Sub.refl _);have:gt l m=.nil:=by have k1:true=(gt l m).eC:=k1;cases hg:gt l m with|nil=>rfl|mk=>rw[hg]at k1;cases k1
      rw[bo,d3,H7 (by rw[hl,this];rfl)]
     |mk rr=>
      have c3:=c3 rr rfl;refine fin [(id,some (.nst (bm t) ((di t l (some (m,id2))).set m (lK t (.mk rr))))),(id2,none)] (fun p hp=>by simp at hp;rcases hp with rfl|rfl<;>simp) (by rw[aO,bZ,if_pos rfl]) ?_;have:xT id2 (gt l m)=.jZ id2 (rr.map (aM t)).length:=by have k1:false=(gt l m).eC:=k1;cases hg:gt l m with|nil=>rw[hg]at k1;cases k1|mk q=>have k2:rr.length=(gt l m).l.length:=k2;rw[hg]at k2;simp only[xT,aI];rw[show rr.length=q.length from k2]
      exact CU d3 (by rw[hl,this]) c3
   .simp at hz
  .simp at hz
 .obtain rfl:=aa hz;exact⟨s1,Sub.refl _,hr,Fr.refl⟩
theorem ME:∀(l:List Nat){s1:St}{s s':S2},Au l s=some s'->R2 s1 s->∃s1',Sub s1 s1'/\R2 s1' s'/\Fr [] s1 s1' s s':=by
 intro l;induction l with
 |nil=>intro s1 s s' hz hr;obtain rfl:=aa hz;exact⟨s1,Sub.refl _,hr,Fr.refl⟩
 |cons id l ih=>
  intro s1 s s' hz hr;simp only[Au]at hz;split at hz
  .rename_i s2 h2;obtain⟨t1,a1,a2,a3⟩:=MD h2 hr;obtain⟨t2,b1,b2,b3⟩:=ih hz a2;exact⟨t2,a1.trans b1,b2,a3.trans b3⟩
  .simp at hz
theorem A_{P:Program}{β:Type}{tb:Cz}(htb:nV P tb)(hg:kg){ops:List OP}{dr:Option (List (Nat×Nat))}{jn:Option J}{s1:St}{s:S2}{k:S2->Option β}{z:β}(hz:Fl tb ops dr s k=some z)(hr:R2 s1 s):
  W P (lM (.Lt ops dr jn)) s1 fun o s1'=>o=.normal/\∃s',R2 s1' s'/\Fr (ops.filterMap (·.o.dst)) s1 s1' s s'/\k s'=some z:=by
 have fin:∀{s1':St}{s':S2},R2 s1' s'->Fr (ops.filterMap (·.o.dst)) s1 s1' s s'->(OZ s s').bind k=some z->
   wk (fun t=>qo.normal=qo.normal/\∃s',R2 t s'/\Fr (ops.filterMap (·.o.dst)) s1 t s s'/\k s'=some z) s1':=by
  intro s1' s' h1 h2 h3;obtain⟨s2,h4,h5⟩:=oZ h3;obtain⟨t,a1,a2,a3⟩:=ME _ h4 h1;exact⟨t,a1,rfl,s2,a2,h2.trans (a3.mono fun i hi=>by simp at hi),h5⟩
 cases dr with
 |none=>refine HG (WO.mono (fun s1'⟨s',tr',h1,h2,h3⟩=>fin h1 h2 h3) (Gi htb hg ops 0 s1 s _ [] hz (qk.none hr)))
 |some dyn=>
  refine W.sub (s':={s1 with next:=s.next}) (Sub.heap (fun _=>.inl rfl) hr.next) (KZ (WD.mono (fun e' h' tr1 hq=>?_) (Gj htb hg ops ops 0 s1.db s1.heap s1.next s1.gh s _ [] [] hz (qk.none hr) (j_ _ _) trivial (fun j=>by rw[bG]) rfl (fun j o a _ h=>by simp at h))));obtain⟨s',tr',n',h1,h2,h3,h4,hlk,h5⟩:=hq;obtain⟨h6,h7⟩:=aK h5;have hn:s'.next<=s.next+gO*ops.length:=by rw[bG]at h3;exact h3
  have hlen:s.next+gO*(ops.map (·.o)).length=s.next+gO*ops.length:=by rw[aI]
  rw[hlen];refine⟨Oy h4 hlk h6,fin ((h1.mono hn).nx (ao _)) ?_ h7⟩;obtain⟨w,e1,e2⟩:=h2;refine⟨w,e1,?_⟩;have a:u5 (ops.filterMap (·.o.dst)) [] s1 ⟨s1.db,s1.heap,s1.next,s1.gh⟩ s s:=u5.next (ao _);have b:u5 (ops.filterMap (·.o.dst)) [] ⟨e',h',n',s1.gh⟩ ⟨e',h',s.next+gO*ops.length,s1.gh⟩ s' {s' with next:=s.next+gO*ops.length}:=u5.next hn;simpa using e2.trans b
theorem Jn(l:List D):d_.k8 (l.map C.d)=[]:=by induction l with|nil=>rfl|cons a l ih=>simp only[aq,d_.k8,d_,bo];exact ih
theorem Jo(a b:List C):d_.k8 (a++b)=d_.k8 a++d_.k8 b:=by induction a with|nil=>rfl|cons c a ih=>simp only[aO,d_.k8,ih,aP]
theorem mx(c:C):d_.k8 [c]=d_ c:=by simp[d_.k8]
theorem Cl{h:H2}{n:Nat}:∀{v:V}{cs:List C},eD h v cs->eA n h v->∀i∈d_.k8 cs,i<n/\(gu h v=true->fO h i≠none):=by
 have ex:∀id,(match fO h id with|some _=>true|none=>false)=true->fO h id≠none:=by intro id ha e;rw[e]at ha;simp at ha
 intro v;induction v with
 |x t v=>rintro cs ⟨_,rfl⟩ _ i hi;rw[Jn]at hi;simp at hi
 |kb c=>rintro cs rfl _ i hi;simp[d_.k8,d_]at hi
 |nl k=>rintro cs rfl _ i hi;simp[d_.k8,yD,d_]at hi
 |so id=>rintro cs ⟨c,rfl,_,hc⟩ hk i hi;rw[mx]at hi;obtain rfl:=hc i hi;refine⟨hk,fun ha e=>?_⟩;simp[gu,e]at ha
 |sr id=>rintro cs ⟨c,rfl,_,hc⟩ hk i hi;rw[mx]at hi;obtain rfl:=hc i hi;refine⟨hk,fun ha e=>?_⟩;simp[gu,e]at ha
 |sb id ver lo t r=>rintro cs ⟨c,rfl,_,hc⟩ hk i hi;rw[mx]at hi;obtain rfl:=hc i hi;refine⟨hk.1,fun ha e=>?_⟩;simp[gu,e]at ha
 |op id t p=>
  rintro cs rfl hk i hi;rw[mx]at hi;obtain rfl:i=id:=by simpa[d_]using hi
  exact⟨hk.1,ex _⟩
 |ep id m t p=>
  rintro cs rfl hk i hi;rw[mx]at hi;obtain rfl:i=id:=by simpa[d_]using hi
  exact⟨hk.1,ex _⟩
 |om id=>
  rintro cs rfl hk i hi;rw[mx]at hi;obtain rfl:i=id:=by simpa[d_]using hi
  exact⟨hk,ex _⟩
 |pt t v=>rintro cs ⟨_,rfl⟩ _ i hi;simp[d_.k8,d_]at hi
 |fn z f l ih=>intro cs hc hk i hi;cases z with|true=>obtain⟨ds,_,rfl⟩:=hc;simp[d_.k8,d_]at hi|false=>obtain⟨xs,h1,rfl⟩:=hc;rw[mx]at hi;exact ih h1 hk i (by simpa[d_]using hi)
 |rc l ih=>intro cs hc hk;exact ih hc hk
 |fl l=>
  rintro cs ⟨_,rfl⟩ _ i hi;have:eJ l=(l.map D.lit).map C.d:=by simp[eJ]
  rw[this,Jn]at hi;simp at hi
 |ni=>rintro cs rfl _ i hi;simp[d_.k8]at hi
 |co a r iha ihr=>
  rintro cs ⟨x,y,rfl,h1,h2⟩ ⟨k1,k2⟩ i hi;rw[Jo,ak]at hi;simp only[gu,af];rcases hi with hi|hi
  .exact ⟨(iha h1 k1 i hi).1,fun ha=>(iha h1 k1 i hi).2 ha.1⟩
  .exact ⟨(ihr h2 k2 i hi).1,fun ha=>(ihr h2 k2 i hi).2 ha.2⟩
 |tp l=>intro cs hc;exact hc.elim
 |no=>intro cs hc;exact hc.elim
 |gn=>intro cs hc;exact hc.elim
theorem vL{h:H2}{n:Nat}{v:V}{x:TV}(hx:qv h v x)(hk:eA n h v):∀i∈kA x,i<n/\(gu h v=true->fO h i≠none):=by obtain⟨cs,h1,h2,h3⟩:=hx;intro i hi;refine Cl h1 hk i ?_;cases ha:qS v with|true=>rw[h2 ha]at hi;exact hi|false=>obtain⟨c,rfl,rfl⟩:=h3 ha;rw[mx];exact hi
theorem HL{h:H2}{n:Nat}:∀{v:V}{xs:List TV},zk h v xs->eA n h v->∀i∈kA.xY xs,i<n/\(gu h v=true->fO h i≠none):=by
 intro v;induction v with
 |ni=>rintro xs rfl _ i hi;simp[kA.xY]at hi
 |co a r _ ihr=>
  rintro xs ⟨x,ys,rfl,h1,h2⟩ ⟨k1,k2⟩ i hi;simp only[kA.xY,ak]at hi;simp only[gu,af];rcases hi with hi|hi
  .exact ⟨(vL h1 k1 i hi).1,fun ha=>(vL h1 k1 i hi).2 ha.1⟩
  .exact ⟨(ihr h2 k2 i hi).1,fun ha=>(ihr h2 k2 i hi).2 ha.2⟩
 |_=>intro xs h;exact h.elim
theorem EE{h:H2}{n:Nat}{v:V}{x:TV}(hx:eW h v x)(hk:eA n h v):∀i∈kA x,i<n/\(gu h v=true->fO h i≠none):=by cases v with|tp l=>obtain⟨xs,rfl,h2⟩:=hx;intro i hi;exact HL (v:=l) h2 hk i hi|no=>obtain rfl:=hx;intro i hi;simp[kA,kA.xY]at hi|gn=>exact hx.elim|_=>exact vL hx hk
mutual
def qs(M:Nat->Nat->Prop):C->C->Prop
 |.d x,y=>y=.d x
 |.dz a i b c,y=>∃j,M i j/\y=.dz a j b c
 |.ep i b c,y=>∃j,M i j/\y=.ep j b c
 |.op i b,y=>∃j,M i j/\y=.op j b
 |.om i,y=>∃j,M i j/\y=.om j
 |.mP f l,y=>∃m,mF M l m/\y=.mP f m
def mF(M:Nat->Nat->Prop):List C->List C->Prop
 |[],m=>m=[]
 |c::l,m=>∃d r,qs M c d/\mF M l r/\m=d::r
end
mutual
def Cy(M:Nat->Nat->Prop):TV->TV->Prop
 |.c x,y=>∃d,qs M x d/\y=.c d
 |.agg l,y=>∃m,mF M l m/\y=.agg m
 |.gR l,y=>∃m,x_ M l m/\y=.gR m
def x_(M:Nat->Nat->Prop):List TV->List TV->Prop
 |[],m=>m=[]
 |c::l,m=>∃d r,Cy M c d/\x_ M l r/\m=d::r
end
section
variable{M:Nat->Nat->Prop}
theorem mF.d(l:List D):mF M (l.map .d) (l.map .d):=by induction l with|nil=>rfl|cons a l ih=>exact⟨_,_,rfl,ih,rfl⟩
theorem mF.Pc{a b x y:List C}(h1:mF M a x)(h2:mF M b y):mF M (a++b) (x++y):=by induction a generalizing x with|nil=>obtain rfl:=h1;exact h2|cons c a ih=>obtain⟨d,r,h3,h4,rfl⟩:=h1;exact⟨d,r++y,h3,ih h4,rfl⟩
theorem mF.one{c d:C}(h:qs M c d):mF M [c] [d]:=⟨d,[],h,rfl,rfl⟩
mutual
theorem qs.dw:∀(c:C),(∀i∈d_ c,M i i)->qs M c c
 |.d x,_=>rfl
 |.dz a i b c,h=>⟨i,h i (by simp[d_]),rfl⟩
 |.ep i b c,h=>⟨i,h i (by simp[d_]),rfl⟩
 |.op i b,h=>⟨i,h i (by simp[d_]),rfl⟩
 |.om i,h=>⟨i,h i (by simp[d_]),rfl⟩
 |.mP f l,h=>⟨l,mF.dw l (fun i hi=>h i (by simpa[d_]using hi)),rfl⟩
theorem mF.dw:∀(l:List C),(∀i∈d_.k8 l,M i i)->mF M l l
 |[],_=>rfl
 |c::l,h=>⟨c,l,qs.dw c (fun i hi=>h i (by simp[d_.k8,hi])),mF.dw l (fun i hi=>h i (by simp[d_.k8,hi])),rfl⟩
end
mutual
theorem Cy.dw:∀(x:TV),(∀i∈kA x,M i i)->Cy M x x
 |.c x,h=>⟨x,qs.dw x h,rfl⟩
 |.agg l,h=>⟨l,mF.dw l h,rfl⟩
 |.gR l,h=>⟨l,x_.dw l h,rfl⟩
theorem x_.dw:∀(l:List TV),(∀i∈kA.xY l,M i i)->x_ M l l
 |[],_=>rfl
 |c::l,h=>⟨c,l,Cy.dw c (fun i hi=>h i (by simp[kA.xY,hi])),x_.dw l (fun i hi=>h i (by simp[kA.xY,hi])),rfl⟩
end
mutual
theorem qs.qB{i' i:Nat}(hm:M i' i):∀(c:C),(∀j∈d_ c,j=i)->∃c',qs M c' c/\∀j∈d_ c',j=i'
 |.d x,_=>⟨.d x,rfl,fun j hj=>by simp[d_]at hj⟩
 |.dz a j b c,h=>by obtain rfl:=h j (by simp[d_]);exact⟨.dz a i' b c,⟨_,hm,rfl⟩,fun j hj=>by simpa[d_]using hj⟩
 |.ep j b c,h=>by obtain rfl:=h j (by simp[d_]);exact⟨.ep i' b c,⟨_,hm,rfl⟩,fun j hj=>by simpa[d_]using hj⟩
 |.op j b,h=>by obtain rfl:=h j (by simp[d_]);exact⟨.op i' b,⟨_,hm,rfl⟩,fun j hj=>by simpa[d_]using hj⟩
 |.om j,h=>by obtain rfl:=h j (by simp[d_]);exact⟨.om i',⟨_,hm,rfl⟩,fun j hj=>by simpa[d_]using hj⟩
 |.mP f l,h=>by obtain⟨l',h1,h2⟩:=mF.qB hm l (fun j hj=>h j (by simpa[d_]using hj));exact⟨.mP f l',⟨l,h1,rfl⟩,fun j hj=>h2 j (by simpa[d_]using hj)⟩
theorem mF.qB{i' i:Nat}(hm:M i' i):∀(l:List C),(∀j∈d_.k8 l,j=i)->∃l',mF M l' l/\∀j∈d_.k8 l',j=i'
 |[],_=>⟨[],rfl,fun j hj=>by simp[d_.k8]at hj⟩
 |c::l,h=>by obtain⟨c',h1,h2⟩:=qs.qB hm c (fun j hj=>h j (by simp[d_.k8,hj]));obtain⟨l',h3,h4⟩:=mF.qB hm l (fun j hj=>h j (by simp[d_.k8,hj]));refine⟨c'::l',⟨c,l,h1,h3,rfl⟩,fun j hj=>?_⟩;simp only[d_.k8,ak]at hj;exact hj.elim (h2 j) (h4 j)
end
mutual
theorem qs.eq(B:Nat->Prop)(hM:∀i j,M i j->i=j\/B j):∀(c' c:C),qs M c' c->(∀i∈d_ c,¬B i)->c'=c
 |.d x,c,h,_=>h.symm
 |.dz a i b e,c,h,hb=>by
  obtain⟨j,h1,rfl⟩:=h;rcases hM i j h1 with rfl|q
  .rfl
  .exact absurd q (hb j (by simp[d_]))
 |.ep i b e,c,h,hb=>by
  obtain⟨j,h1,rfl⟩:=h;rcases hM i j h1 with rfl|q
  .rfl
  .exact absurd q (hb j (by simp[d_]))
 |.op i b,c,h,hb=>by
  obtain⟨j,h1,rfl⟩:=h;rcases hM i j h1 with rfl|q
  .rfl
  .exact absurd q (hb j (by simp[d_]))
 |.om i,c,h,hb=>by
  obtain⟨j,h1,rfl⟩:=h;rcases hM i j h1 with rfl|q
  .rfl
  .exact absurd q (hb j (by simp[d_]))
 |.mP f l,c,h,hb=>by obtain⟨m,h1,rfl⟩:=h;rw[mF.eq B hM l m h1 fun i hi=>hb i (by simpa[d_]using hi)]
theorem mF.eq(B:Nat->Prop)(hM:∀i j,M i j->i=j\/B j):∀(l' l:List C),mF M l' l->(∀i∈d_.k8 l,¬B i)->l'=l
 |[],l,h,_=>h.symm
 |c::r,l,h,hb=>by obtain⟨d,m,h1,h2,rfl⟩:=h;rw[qs.eq B hM c d h1 fun i hi=>hb i (by simp[d_.k8,hi]),mF.eq B hM r m h2 fun i hi=>hb i (by simp[d_.k8,hi])]
end
theorem Cy.Sk(B:Nat->Prop)(hM:∀i j,M i j->i=j\/B j){x' x:TV}(h:Cy M x' x)(hn:∀l,x'≠.gR l)(hb:∀i∈kA x,¬B i):x'=x:=by cases x' with|c a=>obtain⟨d,h1,rfl⟩:=h;rw[qs.eq B hM a d h1 hb]|agg a=>obtain⟨d,h1,rfl⟩:=h;rw[mF.eq B hM a d h1 hb]|gR l=>exact absurd rfl (hn l)
theorem mF.len:∀{l m:List C},mF M l m->l.length=m.length
 |[],m,h=>by obtain rfl:=h;rfl
 |c::l,m,h=>by obtain⟨d,r,_,h2,rfl⟩:=h;simp[mF.len h2]
section
variable{S:Nat->Prop}{w:World}{Kn Kn':Nat->Prop}{φ φ':Nat->fE}
mutual
theorem qs.rc(hM:∀i j,M i j->Kn j->Kn' i/\φ' i=φ j):∀(c' c:C)(v:Value),qs M c' c->RC S w Kn φ c v->RC S w Kn' φ' c' v
 |.d x,c,v,h,hr=>by obtain rfl:=h;cases hr with|d hd=>exact .d hd
 |.dz a i b e,c,v,h,hr=>by obtain⟨j,h1,rfl⟩:=h;obtain⟨cap,addr,rfl,rfl,hk,hcap,haddr,hext,hcl⟩:=hr.gE;obtain⟨e2,e1⟩:=hM i j h1 hk;have:=RC.dz (S:=S) (w:=w) (Kn:=Kn') (φ:=φ') (id:=i) (off:=b) (len:=e) (cap:=cap) (addr:=addr) e2 hcap (by rw[e1];exact haddr) (by rw[e1];exact hext) (by rw[e1];exact hcl);rw[e1]at this;exact this
 |.ep i b e,c,v,h,hr=>by obtain⟨j,h1,rfl⟩:=h;cases hr with|ep hk=>obtain⟨e2,e1⟩:=hM i j h1 hk;have:=RC.ep (S:=S) (w:=w) (Kn:=Kn') (φ:=φ') (id:=i) (cC:=b) (off:=e) e2;rw[e1]at this;exact this
 |.op i b,c,v,h,hr=>by obtain⟨j,h1,rfl⟩:=h;cases hr with|op hk=>obtain⟨e2,e1⟩:=hM i j h1 hk;have:=RC.op (S:=S) (w:=w) (Kn:=Kn') (φ:=φ') (id:=i) (off:=b) e2;rw[e1]at this;exact this
 |.om i,c,v,h,hr=>by obtain⟨j,h1,rfl⟩:=h;cases hr with|om hk=>obtain⟨e2,e1⟩:=hM i j h1 hk;have:=RC.om (S:=S) (w:=w) (Kn:=Kn') (φ:=φ') (id:=i) e2;rw[e1]at this;exact this
 |.mP f l,c,v,h,hr=>by obtain⟨m,h1,rfl⟩:=h;cases hr with|mP hlen hrc=>exact .mP ((mF.len h1).trans hlen) (mF.rc hM l m _ h1 hrc)
theorem mF.rc(hM:∀i j,M i j->Kn j->Kn' i/\φ' i=φ j):∀(l' l:List C)(f:Nat->Value),mF M l' l->(∀(i:Nat)(x:C),l[i]?=some x->RC S w Kn φ x (f i))->∀(i:Nat)(x:C),l'[i]?=some x->RC S w Kn' φ' x (f i)
 |[],l,f,h,_=>fun i x hi=>by simp at hi
 |c::r,l,f,h,hr=>by
  obtain⟨d,m,h1,h2,rfl⟩:=h;intro i x hi;cases i with
  |zero=>
   obtain rfl:c=x:=by simpa using hi
   exact qs.rc hM c d _ h1 (hr 0 d rfl)
  |succ i=>exact mF.rc hM r m (fun i=>f (i+1)) h2 (fun i x hi=>hr (i+1) x (by simpa using hi)) i x (by simpa using hi)
end
mutual
theorem Cy.rc(hM:∀i j,M i j->Kn j->Kn' i/\φ' i=φ j):∀(x' x:TV)(v:Value),Cy M x' x->eU S w Kn φ x v->eU S w Kn' φ' x' v
 |.c a,x,v,h,hr=>by obtain⟨d,h1,rfl⟩:=h;cases hr with|c hr=>exact .c (qs.rc hM a d v h1 hr)
 |.agg a,x,v,h,hr=>by obtain⟨d,h1,rfl⟩:=h;cases hr with|agg hlen hr=>exact .agg ((mF.len h1).trans hlen) (mF.rc hM a d _ h1 hr)
 |.gR a,x,v,h,hr=>by obtain⟨d,h1,rfl⟩:=h;cases hr with|gR hlen hr=>obtain⟨e1,e2⟩:=x_.rc hM a d _ h1 hr;exact .gR (e1.trans hlen) e2
theorem x_.rc(hM:∀i j,M i j->Kn j->Kn' i/\φ' i=φ j):∀(l' l:List TV)(f:Nat->Value),x_ M l' l->(∀(i:Nat)(x:TV),l[i]?=some x->eU S w Kn φ x (f i))->l'.length=l.length/\∀(i:Nat)(x:TV),l'[i]?=some x->eU S w Kn' φ' x (f i)
 |[],l,f,h,_=>by obtain rfl:=h;exact⟨rfl,fun i x hi=>by simp at hi⟩
 |c::r,l,f,h,hr=>by
  obtain⟨d,m,h1,h2,rfl⟩:=h;obtain⟨e1,e2⟩:=x_.rc hM r m (fun i=>f (i+1)) h2 (fun i x hi=>hr (i+1) x (by simpa using hi));refine⟨by simp[e1],fun i x hi=>?_⟩;cases i with
  |zero=>
   obtain rfl:c=x:=by simpa using hi
   exact Cy.rc hM c d _ h1 (hr 0 d rfl)
  |succ i=>exact e2 i x (by simpa using hi)
end
end
end
theorem J5{s1 s1':St}{s:S2}(hr:R2 s1 s){t id ver lo v0:Nat}{u u0:Ty}{x:Sl (El u)}{s0:Sl (El u0)}(hid:id<s.next)(he:∀t',t'≠t->bX s1'.db t'=bX s1.db t')(ht1:bX s1'.db t=some (.c (jm (bm u) (aM u) s.next x)))
  (hh:∀i,i≠id->i≠s.next->av s1'.heap i=av s1.heap i) (hn:∀g,sX g (.ar u x 0) (av s1'.heap s.next)) (hnx:s1'.next<=s.next+1) (hgh:s1'.gh=s1.gh) (hte:∀x0,bX s1.db t=some x0->id∉kA x0->bX s1'.db t=some x0):
  R2 s1' ⟨(t,.so s.next)::s.db,(s.next,some (.ar u x 0))::(id,none)::s.heap,s.next+1,s.next::id::s.wo,s.gh⟩/\
  Fr [] s1 s1' s ⟨(t,.so s.next)::s.db,(s.next,some (.ar u x 0))::(id,none)::s.heap,s.next+1,s.next::id::s.wo,s.gh⟩:=by
 have hfo:∀i,fO ((s.next,some (.ar u x 0))::(id,none)::s.heap) i=if s.next=i then some (.ar u x 0)else if id=i then none else fO s.heap i:=fun i=>by rw[cB,cB]
 have dA:ik s.next s.heap ((s.next,some (.ar u x 0))::(id,none)::s.heap):=⟨fun i o' hi ho=>by
  rw[hfo,if_neg (by omega)]at ho;split at ho
  .simp at ho
  .exact .inl ⟨o',ho,qp.refl _⟩⟩
 have hnb:∀i,i<s.next->fO s.heap i=none->fO ((s.next,some (.ar u x 0))::(id,none)::s.heap) i=none:=fun i hi h=>by
  rw[hfo,if_neg (by omega)];split
  .rfl
  .exact h
 refine⟨⟨fun t' v ht'=>?_,⟨fun i o ho=>?_⟩,hnx,?_⟩,?_⟩
 .simp only[bX]at ht';by_cases e:t=t'
  .subst e;have e':(t==t)=true:=by simp
   rw[e',cond_true]at ht';obtain rfl:=aa ht';exact⟨aT _,fun _=>⟨_,ht1,uc⟩⟩
  .have e':(t==t')=false:=by simpa using e
   rw[e',cond_false]at ht';obtain⟨h1,h2⟩:=hr.db t' v ht';refine⟨fN (bk _) dA h1,fun ha=>?_⟩;obtain⟨y,h3,h4⟩:=h2 (ha.imp (tF dA hnb h1) fun q=>q);exact⟨y,(he t' fun q=>e q.symm).trans h3,sH dA h1 h4⟩
 .have ho':=ho;rw[hfo]at ho;split at ho
  .rename_i e;subst e;obtain rfl:=aa ho;exact⟨aT _,hn _,trivial⟩
  .rename_i e;split at ho
   .simp at ho
   .rename_i e2;obtain⟨h1,h2,h3⟩:=hr.hr.ob i o ho;rw[hh i (fun q=>e2 q.symm) (fun q=>e q.symm)];exact⟨Nat.lt_succ_of_lt h1,nF dA h3 h2,mr (bk _) dA h3⟩
 .rw [hgh];exact⟨BW dA hnb hr.gh.2 hr.gh.1,fN (bk _) dA hr.gh.2⟩
 .refine ⟨[s.next,id],rfl,bk _,dA,by rw[hgh],fun i hi hw=>?_,fun t' y _ hy hk=>?_⟩
  .simp only[aF,List.not_mem_nil,or_false,not_or]at hw;refine⟨?_,fun o _ g hg=>by rw[hh i hw.2 hw.1];exact hg⟩;show fO ((s.next,some (.ar u x 0))::(id,none)::s.heap) i=_;rw[hfo,if_neg fun q=>hw.1 q.symm,if_neg fun q=>hw.2 q.symm]
  .by_cases e:t'=t
   .subst e;exact hte y hy fun q=>(hk id q).2.1 (by simp)
   .rw [he t' e];exact hy
theorem Mg{s1:St}{s:S2}(hr:R2 s1 s){t id ver lo v0:Nat}{u u0:Ty}{x:Sl (El u)}{s0:Sl (El u0)}(ht:bX s.db t=some (.sb id ver lo u x))(ho:fO s.heap id=some (.ar u0 s0 v0))(hd:je u=true)(hv:(v0==ver)=true):
  ∃s1',Sub s1 s1'/\R2 s1' ⟨(t,.so s.next)::s.db,(s.next,some (.ar u x 0))::(id,none)::s.heap,s.next+1,s.next::id::s.wo,s.gh⟩/\
   Fr [] s1 s1' s ⟨(t,.so s.next)::s.db,(s.next,some (.ar u x 0))::(id,none)::s.heap,s.next+1,s.next::id::s.wo,s.gh⟩:=by
 obtain⟨hk,hx⟩:=hr.db t _ ht;have ha:gu s.heap (.sb id ver lo u x)=true:=by simp only[gu,ho,hd,hv,Bool.and_self]
 obtain⟨y,hy,hty⟩:=hx (.inl ha);obtain rfl:=oH hty ha;obtain⟨hid,hk2⟩:=hk;obtain⟨_,hcut⟩:=hk2 u0 s0 v0 (.inl ho);obtain⟨hsz,hcut⟩:=hcut (by simpa using hv);obtain⟨hd0,hs0,hlk⟩:=(hr.hr.ob id _ ho).2.1;have hne:id≠s.next:=Nat.ne_of_lt hid;cases s0 with
 |nil=>cases x with|mk l=>exact hcut.elim|nil=>refine⟨{s1 with next:=s.next},Sub.heap (fun _=>.inl rfl) hr.next,J5 (v0:=0) (ver:=0) (lo:=0) (u0:=u) (s0:=.nil) hr hid (fun _ _=>rfl) hy (fun _ _ _=>rfl) (fun g=>⟨hd,hsz▸hs0,fun l e=>by cases e⟩) (bk _) rfl fun x0 h0 _=>h0⟩
 |mk l0=>
  cases x with
  |nil=>exact hcut.elim
  |mk l=>
   obtain⟨h1,h2⟩:=hcut;have hlk:=hlk l0 rfl;have hsub:=Lc (n:=s.next) (gh:=s1.gh) (rows':=l.map (aM u)) hy hlk (by rw[aI];exact h2) (by rw[aI,aI];exact h1);refine⟨_,Sub.trans (Sub.heap (fun _=>.inl rfl) hr.next) hsub,J5 (v0:=0) (ver:=0) (lo:=0) (u0:=u) (s0:=.nil) hr hid (fun t' ht'=>?_) ?_ (fun i h3 h4=>?_) (fun g=>⟨hd,hsz▸hs0,fun l' e=>?_⟩) (ao _) rfl fun x0 h0 h3=>?_⟩
   .have e':(t==t')=false:=by simpa using fun q:t=t'=>ht' q.symm
    simp only[bX,e',cond_false]
   .simp only[bX,jm];simp
   .simp only[bZ];rw[if_neg fun q=>h3 q.symm,if_neg fun q=>h4 q.symm]
   .cases e;simp only[bZ];rw[if_neg hne];simp
   .rw [hy]at h0;obtain rfl:=aa h0;exact absurd (by simp[kA,v7,d_]) h3
theorem yX:∀(vs:List (Nat×JV))(s1:St)(s:S2),R2 s1 s->∃s1',Sub s1 s1'/\R2 s1' (x8 vs s)/\Fr [] s1 s1' s (x8 vs s):=by
 intro vs;induction vs with
 |nil=>intro s1 s hr;exact⟨s1,Sub.refl _,hr,Fr.refl⟩
 |cons p r ih=>
  obtain⟨t,jv⟩:=p;intro s1 s hr;cases jv with
  |so j=>
   simp only[x8];split
   .rename_i id ver lo u x ht;split
    .rename_i u0 s0 v0 ho;cases hc:(je u&&v0==ver)with|false=>exact ih s1 s hr|true=>simp only[af]at hc;obtain⟨s2,h1,h2,h3⟩:=Mg hr ht ho hc.1 hc.2;obtain⟨s3,h4,h5,h6⟩:=ih s2 _ h2;exact⟨s3,h1.trans h4,h5,h3.trans h6⟩
    .exact ih s1 s hr
   .exact ih s1 s hr
  |_=>exact ih s1 s hr
def zf(m:List Bd):Prop:=∀b∈m,∀c∈m,(b.j=c.j->b=c)/\∀i,b.id=some i->c.id=some i->b=c
theorem xo:∀{m:List Bd}{j:Nat}{b:Bd},Kq m j=some b->b∈m/\b.j=j:=by
 intro m;induction m with
 |nil=>intro j b h;simp[Kq]at h
 |cons c m ih=>intro j b h;simp only[Kq]at h;cases hc:(c.j==j)with|true=>rw[hc,cond_true]at h;obtain rfl:=aa h;exact⟨by simp,by simpa using hc⟩|false=>rw[hc,cond_false]at h;exact⟨aA _ (ih h).1,(ih h).2⟩
theorem Cq:∀{m:List Bd}{j:Nat},Kq m j=none->∀b∈m,b.j≠j:=by
 intro m;induction m with
 |nil=>intro j _ b hb;simp at hb
 |cons c m ih=>
  intro j h b hb;simp only[Kq]at h;cases hc:(c.j==j)with
  |true=>rw[hc]at h;simp at h
  |false=>
   rw[hc,cond_false]at h;rcases aF.1 hb with rfl|hb
   .simpa using hc
   .exact ih h b hb
theorem jU{m m':List Bd}{b:Bd}(h:rR m b=some m'):b∈m'/\(∀c∈m,c∈m')/\(zf m->zf m'):=by
 unfold rR at h;split at h
 .rename_i hn;have hn:=Cq hn;have hfresh:m'=b::m/\∀c∈m,∀i,b.id=some i->c.id≠some i:=by obtain⟨hc,h⟩:=aK h;obtain rfl:=aa h;refine⟨rfl,fun c hcm i hi e=>?_⟩;rw[hi]at hc;have:=aV.1 hc c hcm;rw[e]at this;simp at this
  obtain⟨rfl,hf⟩:=hfresh;refine⟨by simp,fun c hc=>aA _ hc,fun hi x hx y hy=>?_⟩;rcases aF.1 hx with ex|hx2<;>rcases aF.1 hy with ey|hy2
  .subst ex;subst ey;exact⟨fun _=>rfl,fun _ _ _=>rfl⟩
  .subst ex;exact⟨fun e=>absurd e.symm (hn y hy2),fun i h1 h2=>absurd h2 (hf y hy2 i h1)⟩
  .subst ey;exact⟨fun e=>absurd e (hn x hx2),fun i h1 h2=>absurd h1 (hf x hx2 i h2)⟩
  .exact hi x hx2 y hy2
 .rename_i c hc;obtain⟨h1,h2⟩:=xo hc;split at h
  .rename_i i i' hi hi';obtain⟨he,h⟩:=aK h;obtain rfl:=aa h;obtain rfl:i=i':=by simpa using he
   have:b=c:=by cases b;cases c;simp only at hi hi' h2;subst hi;subst hi';subst h2;rfl
   exact⟨this▸h1,fun _ h=>h,fun h=>h⟩
  .simp at h
theorem rt:∀(jv:JV)(ln:Bool)(v:V)(m:List Bd)(l:List V)(m1:List Bd),cU jv ln v m=some (l,m1)->(∀c∈m,c∈m1)/\(zf m->zf m1):=by
 have b1:∀(m:List Bd)(b:Bd)(l:List V)(m1:List Bd),(match rR m b with|some m=>some (([]:List V),m)|none=>none)=some (l,m1)->(∀c∈m,c∈m1)/\(zf m->zf m1):=by
  intro m b l m1 h;split at h
  .rename_i m' hm;obtain⟨_,rfl⟩:=ad (aa h);exact(jU hm).2
  .simp at h
 intro jv;induction jv with
 |co a r iha ihr=>
  intro ln v m l m1 h;cases ln with
  |false=>cases v<;>simp[cU]at h
  |true=>
   cases v with
   |co x y=>
    simp only[cU]at h;split at h
    .rename_i l2 m2 h2;split at h
     .rename_i l3 m3 h3;obtain⟨_,rfl⟩:=ad (aa h);obtain⟨a1,a2⟩:=iha _ _ _ _ _ h2;obtain⟨c1,c2⟩:=ihr _ _ _ _ _ h3;exact⟨fun c hc=>c1 c (a1 c hc),fun hi=>c2 (a2 hi)⟩
     .simp at h
    .simp at h
   |_=>simp[cU]at h
 |rc a ih=>
  intro ln v m l m1 h;cases ln with
  |true=>cases v<;>simp[cU]at h
  |false=>
   cases v with
   |rc l'=>exact ih _ _ _ _ _ h
   |x t v=>cases t<;>first|exact ih _ _ _ _ _ h|simp[cU]at h
   |_=>simp[cU]at h
 |fn z f a ih=>
  intro ln v m l m1 h;cases ln with
  |true=>cases v<;>simp[cU]at h
  |false=>cases v with|fn z' f' l'=>simp only[cU]at h;obtain⟨_,h⟩:=aK h;exact ih _ _ _ _ _ h|_=>simp[cU]at h
 |so j=>
  intro ln v m l m1 h;cases ln with
  |true=>cases v<;>simp[cU]at h
  |false=>
   cases v with
   |so id=>exact b1 _ _ _ _ h
   |nl k=>cases k with|zero=>exact b1 _ _ _ _ h|succ=>simp[cU]at h
   |x t v=>cases t with|sl u=>exact b1 _ _ _ _ (aK h).2|_=>simp[cU]at h
   |_=>simp[cU]at h
 |om j=>
  intro ln v m l m1 h;cases ln with
  |true=>cases v<;>simp[cU]at h
  |false=>cases v with|om id=>exact b1 _ _ _ _ h|_=>simp[cU]at h
 |sr j=>
  intro ln v m l m1 h;cases ln with
  |true=>cases v<;>simp[cU]at h
  |false=>
   cases v with
   |sr id=>exact b1 _ _ _ _ h
   |nl k=>cases k with|zero=>exact b1 _ _ _ _ h|succ=>simp[cU]at h
   |_=>simp[cU]at h
 |op j t p=>
  intro ln v m l m1 h;cases ln with
  |true=>cases v<;>simp[cU]at h
  |false=>cases v with|op id u q=>simp only[cU]at h;obtain⟨_,h⟩:=aK h;exact b1 _ _ _ _ h|_=>simp[cU]at h
 |x t=>
  intro ln v m l m1 h;cases ln with
  |true=>cases v<;>simp[cU]at h
  |false=>
   simp only[cU]at h;split at h
   .obtain ⟨_,rfl⟩:=ad (aa h);exact⟨fun _ h=>h,fun h=>h⟩
   .simp at h
 |pt t=>
  intro ln v m l m1 h;cases ln with
  |true=>cases v<;>simp[cU]at h
  |false=>
   cases v with
   |pt u v=>
    simp only[cU]at h;split at h
    .obtain ⟨_,rfl⟩:=ad (aa h);exact⟨fun _ h=>h,fun h=>h⟩
    .simp at h
   |_=>simp[cU]at h
 |nl k=>
  intro ln v m l m1 h;cases ln with
  |true=>cases v<;>simp[cU]at h
  |false=>cases v with|nl k'=>simp only[cU]at h;obtain⟨_,h⟩:=aK h;obtain⟨_,rfl⟩:=ad (aa h);exact⟨fun _ h=>h,fun h=>h⟩|_=>simp[cU]at h
 |ni=>
  intro ln v m l m1 h;cases ln with
  |false=>cases v<;>simp[cU]at h
  |true=>cases v with|ni=>obtain⟨_,rfl⟩:=ad (aa h);exact⟨fun _ h=>h,fun h=>h⟩|_=>simp[cU]at h
 |sm=>intro ln v m l m1 h;cases ln<;>cases v<;>simp[cU]at h
 |gn=>intro ln v m l m1 h;cases ln<;>cases v<;>simp[cU]at h
structure Cx(h' h'':H2)(aL n'':Nat)(mf:List Bd)(M:Nat->Nat->Prop):Prop where
 m:∀b∈mf,∀i,b.id=some i->M (aL+b.j) i
 n:∀b∈mf,aL+b.j<n''
 so:∀b∈mf,∀i,b.id=some i->∀c',yj (aL+b.j) (fO h'' (aL+b.j))=some c'->∃t s,c'=jm (bm t) (aM t) (aL+b.j) s/\yj i (fO h' i)=some (jm (bm t) (aM t) i s)
 sr:∀b∈mf,∀i,b.id=some i->∀c',xB (aL+b.j) (fO h'' (aL+b.j))=some c'->∃(t:Ty)(s:Sl (Sl (El t))),c'=jm 1 (aM (.sl t)) (aL+b.j) s/\xB i (fO h' i)=some (jm 1 (aM (.sl t)) i s)
 nr:∀b∈mf,b.id=none->∀c',xB (aL+b.j) (fO h'' (aL+b.j))=some c'->c'=yD 0
 nl:∀b∈mf,b.id=none->∀c',yj (aL+b.j) (fO h'' (aL+b.j))=some c'->c'=yD 0
theorem Dq:∀{q:nZ}{p:List Nat},Be q=some p->q=p.map .fd:=by
 intro q;induction q with
 |nil=>intro p h;obtain rfl:=aa h;rfl
 |cons a q ih=>
  intro p h;cases a with
  |ix=>simp[Be]at h
  |fd i=>
   simp only[Be]at h;split at h
   .rename_i l hl;obtain rfl:=aa h;rw[ih hl];rfl
   .simp at h
theorem Ic{b:Nat}{a r:JV}{l:List V}{v0 v':V}{r':List V}(h:gS b (.co a r) true l v0=some (v',r')):∃x0 y0 v l1 w,gS b a false l x0=some (v,l1)/\gS b r true l1 y0=some (w,r')/\v'=.co v w:=by
 have key:∀(x0 y0:V),(match gS b a false l x0 with|some (v,l)=>(match gS b r true l y0 with|some (w,l)=>some (V.co v w,l)|none=>none)|none=>none)=some (v',r')->∃x0 y0 v l1 w,gS b a false l x0=some (v,l1)/\gS b r true l1 y0=some (w,r')/\v'=.co v w:=by
  intro x0 y0 h;split at h
  .rename_i v l1 h1;split at h
   .rename_i w l2 h2;obtain⟨rfl,rfl⟩:=ad (aa h);exact⟨x0,y0,v,l1,w,h1,h2,rfl⟩
   .simp at h
  .simp at h
 cases v0 with|co x y=>exact key x y h|_=>exact key .gn .ni h
theorem Po{b:Nat}{t:Ty}{y:El t}{rest:List V}{v0 v':V}{r':List V}(h:gS b (.x t) false (.x t y::rest) v0=some (v',r')):je t=true/\v'=.x t y/\r'=rest:=by simp only[gS]at h;obtain⟨h1,h⟩:=aK h;obtain⟨rfl,rfl⟩:=ad (aa h);simp only[decide_true,Bool.true_and]at h1;exact⟨h1,rfl,rfl⟩
theorem Ib{b:Nat}{t:Ty}{y:El t}{rest:List V}{v0 v':V}{r':List V}(h:gS b (.pt t) false (.x t y::rest) v0=some (v',r')):je t=true/\v'=.pt t y/\r'=rest:=by simp only[gS]at h;obtain⟨h1,h⟩:=aK h;obtain⟨rfl,rfl⟩:=ad (aa h);simp only[decide_true,Bool.true_and]at h1;exact⟨h1,rfl,rfl⟩
theorem Hi{aL:Nat}:∀(jv:JV)(v:V)(m:List Bd)(l:List V)(m1:List Bd)(rest:List V)(v0 v':V)(r':List V)(ds:List D),cU jv true v m=some (l,m1)->oU v=some ds->gS aL jv true (l++rest) v0=some (v',r')->
  r'=rest/\oU v'=some ds/\∀n h,eA n h v':=by
 intro jv;induction jv with
 |co a r _ ihr=>
  intro v m l m1 rest v0 v' r' ds hc hd hr;cases v with
  |co x y=>
   simp only[cU]at hc;split at hc
   .rename_i l1 m2 h1;split at hc
    .rename_i l2 m3 h2;obtain⟨rfl,rfl⟩:=ad (aa hc);obtain⟨x0,y0,w1,r1,w2,e1,e2,rfl⟩:=Ic hr;simp only[oU]at hd;split at hd
     .rename_i d1 d2 hd1 hd2;obtain rfl:=aa hd;rw[aP]at e1
      have hx:∃t z,x=.pt t z/\je t=true/\d1=[.pt (aM t z)]:=by
       cases x with
       |pt t z=>
        simp only[oU]at hd1;split at hd1
        .exact ⟨t,z,rfl,by assumption,(aa hd1).symm⟩
        .simp at hd1
       |ni=>cases a<;>simp[cU]at h1<;>simp[rn,js,gi]at h1
       |co=>cases a<;>simp[cU]at h1<;>simp[rn,js,gi]at h1
       |_=>simp[oU]at hd1
      obtain⟨t,z,rfl,hdt,rfl⟩:=hx
      have ha:∃u z',fk t u z=some z'/\a=.pt u/\l1=[.x u z']:=by
       cases a with
       |pt u=>
        simp only[cU]at h1;split at h1
        .rename_i z' hz';obtain⟨rfl,_⟩:=ad (aa h1);exact⟨u,z',hz',rfl,rfl⟩
        .simp at h1
       |x u=>simp only[cU]at h1;split at h1<;>rename_i hh<;>simp[rn,js,gi]at hh;simp at h1
       |_=>simp[cU]at h1
      obtain⟨u,z',hz',rfl,rfl⟩:=ha;obtain⟨rfl,rfl⟩:=cR hz';obtain⟨_,rfl,rfl⟩:=Ib e1;obtain⟨rfl,g2,g3⟩:=ihr _ _ _ _ _ _ _ _ _ h2 hd2 e2;refine⟨rfl,?_,fun n h=>⟨trivial,g3 n h⟩⟩;simp only[oU,hdt,if_true,g2]
     .simp at hd
    .simp at hc
   .simp at hc
  |_=>simp[cU]at hc
 |ni=>intro v m l m1 rest v0 v' r' ds hc hd hr;cases v with|ni=>obtain⟨rfl,_⟩:=ad (aa hc);simp only[gS]at hr;obtain⟨rfl,rfl⟩:=ad (aa hr);exact⟨rfl,hd,fun _ _=>trivial⟩|_=>simp[cU]at hc
 |_=>intro v m l m1 rest v0 v' r' ds hc hd hr;cases v<;>simp[cU]at hc
section
variable{h' h'':H2}{n' n'' aL:Nat}{mf:List Bd}{M:Nat->Nat->Prop}
theorem Ny(cx:Cx h' h'' aL n'' mf M){b:Bd}(hb:b∈mf){i:Nat}(hi:b.id=some i){c:C}(hc:(∀c',yj i (fO h' i)=some c'->c=c')/\N_ i c):∃c',eD h'' (.so (aL+b.j)) [c']/\qs M c' c:=by
 obtain⟨c',h1,h2⟩:=qs.qB (cx.m b hb i hi) c hc.2;refine⟨c',⟨c',rfl,fun c2 hc2=>?_,h2⟩,h1⟩;obtain⟨t,s,rfl,h4⟩:=cx.so b hb i hi c2 hc2;obtain rfl:=hc.1 _ h4;cases s with
 |nil=>cases c' with|d x=>have:jm (bm t) (aM t) i (.nil:Sl (El t))=.d x:=h1;rw[<-this];rfl|_=>simp[jm,qs]at h1
 |mk l=>
  cases c' with
  |dz a i2 b2 e=>obtain⟨j,_,e2⟩:=h1;have e3:=h2 i2 (by simp[d_]);simp only[jm,C.dz.injEq]at e2|-;exact⟨e2.1.symm,e3,e2.2.2.1.symm,e2.2.2.2.symm⟩
  |d x=>simp[jm,qs]at h1
  |_=>simp[jm,qs]at h1
theorem Nw(cx:Cx h' h'' aL n'' mf M){b:Bd}(hb:b∈mf){i:Nat}(hi:b.id=some i){c:C}(hc:(∀c',xB i (fO h' i)=some c'->c=c')/\N_ i c):∃c',eD h'' (.sr (aL+b.j)) [c']/\qs M c' c:=by
 obtain⟨c',h1,h2⟩:=qs.qB (cx.m b hb i hi) c hc.2;refine⟨c',⟨c',rfl,fun c2 hc2=>?_,h2⟩,h1⟩;obtain⟨t,s,rfl,h4⟩:=cx.sr b hb i hi c2 hc2;obtain rfl:=hc.1 _ h4;cases s with
 |nil=>cases c' with|d x=>have:jm 1 (aM (.sl t)) i (.nil:Sl (Sl (El t)))=.d x:=h1;rw[<-this];rfl|_=>simp[jm,qs]at h1
 |mk l=>
  cases c' with
  |dz a i2 b2 e=>obtain⟨j,_,e2⟩:=h1;have e3:=h2 i2 (by simp[d_]);simp only[jm,C.dz.injEq]at e2|-;exact⟨e2.1.symm,e3,e2.2.2.1.symm,e2.2.2.2.symm⟩
  |d x=>simp[jm,qs]at h1
  |_=>simp[jm,qs]at h1
theorem rq(cx:Cx h' h'' aL n'' mf M):∀(jv:JV)(ln:Bool)(v:V)(m:List Bd)(l:List V)(m1:List Bd)(rest:List V)(v0 v':V)(r':List V)(cs:List C),cU jv ln v m=some (l,m1)->(∀b∈m1,b∈mf)->eD h' v cs->eA n' h' v->gS aL jv ln (l++rest) v0=some (v',r')->
  r'=rest/\eA n'' h'' v'/\qS v'=qS v/\(∀l,v'≠.tp l)/\∃cs',eD h'' v' cs'/\mF M cs' cs:=by
 intro jv;induction jv with
 |x t=>
  intro ln v m l m1 rest v0 v' r' cs hc hm hv hk hr;cases ln with
  |true=>cases v<;>simp[cU]at hc
  |false=>
   simp only[cU]at hc;split at hc
   .rename_i y hy;obtain⟨rfl,rfl⟩:=ad (aa hc);obtain⟨hd,rfl,rfl⟩:=Po hr;obtain rfl:=gW v false t y cs hy hv;exact⟨rfl,trivial,(ut hy).symm,by simp,_,⟨hd,rfl⟩,mF.d _⟩
   .simp at hc
 |pt t=>
  intro ln v m l m1 rest v0 v' r' cs hc hm hv hk hr;cases ln with
  |true=>cases v<;>simp[cU]at hc
  |false=>
   cases v with
   |pt u v=>
    simp only[cU]at hc;split at hc
    .rename_i y hy;obtain⟨rfl,rfl⟩:=cR hy;obtain⟨rfl,rfl⟩:=ad (aa hc);obtain⟨hd,rfl,rfl⟩:=Ib hr;obtain⟨_,rfl⟩:=hv;exact⟨rfl,trivial,rfl,by simp,_,⟨hd,rfl⟩,mF.one rfl⟩
    .simp at hc
   |_=>simp[cU]at hc
 |sr j=>
  intro ln v m l m1 rest v0 v' r' cs hc hm hv hk hr;cases ln with
  |true=>cases v<;>simp[cU]at hc
  |false=>
   have hr2:∀l2:List V,gS aL (.sr j) false l2 v0=some (.sr (aL+j),l2):=fun l2=>by simp only[gS]
   cases v with
   |sr id=>
    simp only[cU]at hc;split at hc
    .rename_i m2 hb;obtain⟨rfl,rfl⟩:=ad (aa hc);rw[hr2]at hr;obtain⟨rfl,rfl⟩:=ad (aa hr);have hbm:=hm _ (jU hb).1;obtain⟨c,rfl,h1⟩:=hv;obtain⟨c',h2,h3⟩:=Nw cx hbm rfl h1;exact⟨rfl,cx.n _ hbm,rfl,by simp,_,h2,mF.one h3⟩
    .simp at hc
   |nl k=>
    cases k with
    |succ=>simp[cU]at hc
    |zero=>
     simp only[cU]at hc;split at hc
     .rename_i m2 hb;obtain⟨rfl,rfl⟩:=ad (aa hc);rw[hr2]at hr;obtain⟨rfl,rfl⟩:=ad (aa hr);have hbm:=hm _ (jU hb).1;obtain rfl:=hv;exact⟨rfl,cx.n _ hbm,rfl,by simp,_,⟨yD 0,rfl,fun c' hc'=>(cx.nr _ hbm rfl c' hc').symm,fun i hi=>by simp[yD,d_]at hi⟩,mF.one rfl⟩
     .simp at hc
   |_=>simp[cU]at hc
 |so j=>
  intro ln v m l m1 rest v0 v' r' cs hc hm hv hk hr;cases ln with
  |true=>cases v<;>simp[cU]at hc
  |false=>
   have hr2:∀l2:List V,gS aL (.so j) false l2 v0=some (.so (aL+j),l2):=fun l2=>by simp only[gS]
   cases v with
   |so id=>
    simp only[cU]at hc;split at hc
    .rename_i m2 hb;obtain⟨rfl,rfl⟩:=ad (aa hc);rw[hr2]at hr;obtain⟨rfl,rfl⟩:=ad (aa hr);have hbm:=hm _ (jU hb).1;obtain⟨c,rfl,h1⟩:=hv;obtain⟨c',h2,h3⟩:=Ny cx hbm rfl h1;exact⟨rfl,cx.n _ hbm,rfl,by simp,_,h2,mF.one h3⟩
    .simp at hc
   |nl k=>
    cases k with
    |succ=>simp[cU]at hc
    |zero=>
     simp only[cU]at hc;split at hc
     .rename_i m2 hb;obtain⟨rfl,rfl⟩:=ad (aa hc);rw[hr2]at hr;obtain⟨rfl,rfl⟩:=ad (aa hr);have hbm:=hm _ (jU hb).1;obtain rfl:=hv;exact⟨rfl,cx.n _ hbm,rfl,by simp,_,⟨yD 0,rfl,fun c' hc'=>(cx.nl _ hbm rfl c' hc').symm,fun i hi=>by simp[yD,d_]at hi⟩,mF.one rfl⟩
     .simp at hc
   |x t v=>
    cases t with
    |sl u=>
     simp only[cU]at hc;obtain⟨hnil,hc⟩:=aK hc;split at hc
     .rename_i m2 hb;obtain⟨rfl,rfl⟩:=ad (aa hc);rw[hr2]at hr;obtain⟨rfl,rfl⟩:=ad (aa hr);have hbm:=hm _ (jU hb).1;obtain⟨_,rfl⟩:=hv;have hv:v=Sl.nil:=by cases v with|nil=>rfl|mk l=>simp[Sl.eC]at hnil
      subst hv;exact⟨rfl,cx.n _ hbm,rfl,by simp,_,⟨yD 0,rfl,fun c' hc'=>(cx.nl _ hbm rfl c' hc').symm,fun i hi=>by simp[yD,d_]at hi⟩,mF.one rfl⟩
     .simp at hc
    |_=>simp[cU]at hc
   |_=>simp[cU]at hc
 |om j=>
  intro ln v m l m1 rest v0 v' r' cs hc hm hv hk hr;cases ln with
  |true=>cases v<;>simp[cU]at hc
  |false=>
   have hr2:∀l2:List V,gS aL (.om j) false l2 v0=some (.om (aL+j),l2):=fun l2=>by simp only[gS]
   cases v with
   |om id=>
    simp only[cU]at hc;split at hc
    .rename_i m2 hb;obtain⟨rfl,rfl⟩:=ad (aa hc);rw[hr2]at hr;obtain⟨rfl,rfl⟩:=ad (aa hr);have hbm:=hm _ (jU hb).1;obtain rfl:=hv;exact⟨rfl,cx.n _ hbm,rfl,by simp,_,rfl,mF.one ⟨id,cx.m _ hbm id rfl,rfl⟩⟩
    .simp at hc
   |_=>simp[cU]at hc
 |op j t p=>
  intro ln v m l m1 rest v0 v' r' cs hc hm hv hk hr;cases ln with
  |true=>cases v<;>simp[cU]at hc
  |false=>
   have hr2:∀l2:List V,gS aL (.op j t p) false l2 v0=some (.op (aL+j) t (p.map .fd),l2):=fun l2=>by simp only[gS]
   cases v with
   |op id u q=>
    simp only[cU]at hc;obtain⟨hq,hc2⟩:=aK hc;clear hc;have hc:=hc2;clear hc2;simp only[af,decide_eq_true_eq]at hq;obtain⟨rfl,hq⟩:=hq;obtain rfl:=Dq hq;split at hc
    .rename_i m2 hb;obtain⟨rfl,rfl⟩:=ad (aa hc);rw[hr2]at hr;obtain⟨rfl,rfl⟩:=ad (aa hr);have hbm:=hm _ (jU hb).1;obtain rfl:=hv;exact⟨rfl,⟨cx.n _ hbm,hk.2⟩,rfl,by simp,_,rfl,mF.one ⟨id,cx.m _ hbm id rfl,rfl⟩⟩
    .simp at hc
   |_=>simp[cU]at hc
 |nl k=>
  intro ln v m l m1 rest v0 v' r' cs hc hm hv hk hr;cases ln with
  |true=>cases v<;>simp[cU]at hc
  |false=>
   cases v with
   |nl k'=>
    simp only[cU]at hc;obtain⟨hq,hc2⟩:=aK hc;clear hc;have hc:=hc2;clear hc2;obtain rfl:k=k':=by simpa using hq
    obtain⟨rfl,rfl⟩:=ad (aa hc);have hr2:∀l2:List V,gS aL (.nl k) false l2 v0=some (.nl k,l2):=fun l2=>by simp only[gS]
    rw[hr2]at hr;obtain⟨rfl,rfl⟩:=ad (aa hr);obtain rfl:=hv;exact⟨rfl,trivial,rfl,by simp,_,rfl,mF.one rfl⟩
   |_=>simp[cU]at hc
 |fn z f a ih=>
  intro ln v m l m1 rest v0 v' r' cs hc hm hv hk hr;cases ln with
  |true=>cases v<;>simp[cU]at hc
  |false=>
   cases v with
   |fn z' f' l'=>
    simp only[cU]at hc;obtain⟨hq,hc2⟩:=aK hc;clear hc;have hc:=hc2;clear hc2;simp only[af,beq_iff_eq]at hq;obtain⟨rfl,rfl⟩:=hq;simp only[gS]at hr;split at hr
    .rename_i w l2 hw;obtain⟨rfl,rfl⟩:=ad (aa hr);cases z with|true=>obtain⟨ds,hd,rfl⟩:=hv;obtain⟨rfl,g1,g2⟩:=Hi a l' m l m1 rest .ni w l2 ds hc hd hw;exact⟨rfl,g2 _ _,rfl,by simp,_,⟨ds,g1,rfl⟩,mF.one rfl⟩|false=>obtain⟨xs,hx,rfl⟩:=hv;obtain⟨rfl,g1,_,_,cs',g2,g3⟩:=ih true l' m l m1 rest .ni w l2 xs hc hm hx hk hw;exact⟨rfl,g1,rfl,by simp,_,⟨cs',g2,rfl⟩,mF.one ⟨xs,g3,rfl⟩⟩
    .simp at hr
   |_=>simp[cU]at hc
 |rc a ih=>
  intro ln v m l m1 rest v0 v' r' cs hc hm hv hk hr;cases ln with
  |true=>cases v<;>simp[cU]at hc
  |false=>
   simp only[gS]at hr;split at hr
   .rename_i w l2 hw;obtain⟨rfl,rfl⟩:=ad (aa hr);cases v with
    |rc l'=>obtain⟨rfl,g1,_,_,cs',g2,g3⟩:=ih true l' m l m1 rest .ni w l2 cs hc hm hv hk hw;exact⟨rfl,g1,rfl,by simp,cs',g2,g3⟩
    |x t v=>cases t with|st t=>obtain⟨hd,rfl⟩:=hv;obtain⟨rfl,g1,_,_,cs',g2,g3⟩:=ih true (FO t v) m l m1 rest .ni w l2 _ hc hm (zo t v hd) (CT t v) hw;exact⟨rfl,g1,rfl,by simp,cs',g2,g3⟩|_=>simp[cU]at hc
    |_=>simp[cU]at hc
   .simp at hr
 |ni=>
  intro ln v m l m1 rest v0 v' r' cs hc hm hv hk hr;cases ln with
  |false=>cases v<;>simp[cU]at hc
  |true=>cases v with|ni=>obtain⟨rfl,_⟩:=ad (aa hc);simp only[gS]at hr;obtain⟨rfl,rfl⟩:=ad (aa hr);exact⟨rfl,trivial,rfl,by simp,cs,hv,by obtain rfl:=hv;rfl⟩|_=>simp[cU]at hc
 |co a r iha ihr=>
  intro ln v m l m1 rest v0 v' r' cs hc hm hv hk hr;cases ln with
  |false=>cases v<;>simp[cU]at hc
  |true=>
   cases v with
   |co x y=>
    simp only[cU]at hc;split at hc
    .rename_i l1 m2 h1;split at hc
     .rename_i l2 m3 h2;obtain⟨rfl,rfl⟩:=ad (aa hc);obtain⟨x0,y0,w1,r1,w2,e1,e2,rfl⟩:=Ic hr;rw[aP]at e1;obtain⟨cx1,cy,rfl,hx,hy⟩:=hv;obtain⟨rfl,g1,_,_,cs1,g2,g3⟩:=iha _ _ _ _ _ _ _ _ _ _ h1 (fun b hb=>hm b ((rt _ _ _ _ _ _ h2).1 b hb)) hx hk.1 e1;obtain⟨rfl,k1,_,_,cs2,k2,k3⟩:=ihr _ _ _ _ _ _ _ _ _ _ h2 hm hy hk.2 e2;exact⟨rfl,⟨g1,k1⟩,rfl,by simp,_,⟨cs1,cs2,rfl,g2,k2⟩,g3.Pc k3⟩
     .simp at hc
    .simp at hc
   |_=>simp[cU]at hc
 |_=>intro ln v m l m1 rest v0 v' r' cs hc;cases ln<;>cases v<;>simp[cU]at hc
theorem Mr(cx:Cx h' h'' aL n'' mf M){jv:JV}{v:V}{m:List Bd}{l:List V}{m1:List Bd}{rest:List V}{v0 v':V}{r':List V}{x:TV}(hc:cU jv false v m=some (l,m1))(hm:∀b∈m1,b∈mf)(hv:eW h' v x)(hk:eA n' h' v)(hr:gS aL jv false (l++rest) v0=some (v',r')):
  r'=rest/\eA n'' h'' v'/\∃x',eW h'' v' x'/\Cy M x' x/\∀l,x'≠.gR l:=by
 have h1:qv h' v x:=by cases v with|tp l=>cases jv<;>simp[cU]at hc;split at hc<;>rename_i hh<;>simp[rn,js,gi]at hh;simp at hc|no=>cases jv<;>simp[cU]at hc;split at hc<;>rename_i hh<;>simp[rn,js,gi]at hh;simp at hc|gn=>exact hv.elim|_=>exact hv
 obtain⟨cs,h2,h3,h4⟩:=h1;obtain⟨rfl,g1,g2,g3,cs',g4,g5⟩:=rq cx jv false v m l m1 rest v0 v' r' cs hc hm h2 hk hr;refine⟨rfl,g1,?_⟩;cases ha:qS v with
 |true=>obtain rfl:=h3 ha;exact⟨.agg cs',bM ⟨cs',g4,fun _=>rfl,fun e=>by rw[g2,ha]at e;cases e⟩,⟨cs,g5,rfl⟩,by simp⟩
 |false=>
  obtain⟨c,rfl,rfl⟩:=h4 ha
  match cs',g5 with
  |[],g5=>exact absurd (show[c]=[]from g5) (by simp)
  |c'::r,g5=>obtain⟨d,r2,e1,e2,e3⟩:=g5;obtain⟨rfl,rfl⟩:=bW e3;cases r with|nil=>exact⟨.c c',bM ⟨[c'],g4,fun e=>(by rw[g2,ha]at e;cases e),fun _=>⟨c',rfl,rfl⟩⟩,⟨c,e1,rfl⟩,by simp⟩|cons=>obtain⟨_,_,_,_,e⟩:=e2;simp at e
end
theorem HM{α:Type}(G:Nat->Option α)(ks:List Nat)(hk:∀t,G t≠none->t∈ks):∃e:List (Nat×α),∀t,bX e t=G t:=by
 have key:∀ks:List Nat,∃e:List (Nat×α),∀t,bX e t=if t∈ks then G t else none:=by
  intro ks;induction ks with
  |nil=>exact⟨[],fun t=>by simp[bX]⟩
  |cons k ks ih=>
   obtain⟨e,he⟩:=ih;cases hg:G k with
   |none=>
    refine⟨e,fun t=>?_⟩;rw[he];by_cases h:t=k
    .subst h;simp[hg]
    .simp [h]
   |some x=>
    refine⟨(k,x)::e,fun t=>?_⟩;simp only[bX];by_cases h:k=t
    .subst h;simp[hg]
    .have h':(k==t)=false:=by simpa using h
     rw[h',cond_false,he];have:t≠k:=fun q=>h q.symm;simp[this]
 obtain⟨e,he⟩:=key ks;refine⟨e,fun t=>?_⟩;rw[he];split
 .rfl
 .rename_i h;cases hg:G t with|none=>rfl|some x=>exact absurd (hk t (by simp[hg])) h
theorem L2(F:Nat->Option Ob)(ks:List Nat)(hk:∀t,F t≠none->t∈ks):∃h:bz,∀t,av h t=F t:=by obtain⟨e,he⟩:=HM (fun t=>(F t).map some) ks fun t ht=>hk t fun e=>ht (by simp[e]);refine⟨e,fun t=>?_⟩;simp only[av,he];cases F t<;>rfl
theorem vA{α:Type}:∀{l:List (Nat×α)}{t:Nat},bX l t≠none->t∈l.map (·.1):=by intro l t h;cases hx:bX l t with|none=>exact absurd hx h|some x=>exact cz.2 ⟨_,vz hx,rfl⟩
theorem IZ{h:bz}{t:Nat}(hl:av h t≠none):t∈h.map (·.1):=vA fun e=>hl (by simp[av,e])
theorem IN{α β:Type}{ka va:Bool}{k:α->List Value}{v:β->List D}{m:Mp α β}{cs:List C}(h:some (Ob.box cs)=CH ka va k v m):False:=by cases m<;>simp[CH]at h
section
variable{h' h'':H2}{n' n'' aL:Nat}{mf:List Bd}{M:Nat->Nat->Prop}
theorem R5(hj:∀b∈mf,aL+b.j<n''):Cx h' [] aL n'' mf (fun _ _=>True):=⟨fun _ _ _ _=>trivial,hj,fun b _ i _ c' hc=>by simp[fO,bX,yj]at hc,fun b _ i _ c' hc=>by simp[fO,bX,xB]at hc,fun b _ _ c' hc=>by simp[fO,bX,xB]at hc,fun b _ _ c' hc=>by simp[fO,bX,yj]at hc⟩
theorem y6{j:Nat}{o:JO}{m:List Bd}{l:List V}{m1:List Bd}(h:Kh h' j o m=some (l,m1)):(∀c∈m,c∈m1)/\(zf m->zf m1):=by
 have id1:∀{a:List V},some (a,m)=some (l,m1)->(∀c∈m,c∈m1)/\(zf m->zf m1):=fun e=>by obtain⟨_,rfl⟩:=ad (aa e);exact⟨fun _ h=>h,fun h=>h⟩
 unfold Kh at h;split at h
 .split at h
  .exact id1 (aK h).2
  .split at h
   .split at h
    .exact id1 h
    .simp at h
   .simp at h
  .exact id1 (aK h).2
  .split at h
   .split at h
    .exact id1 h
    .simp at h
   .simp at h
  .split at h
   .exact rt _ _ _ _ _ _ (aK h).2
   .simp at h
  .split at h
   .split at h
    .exact id1 h
    .simp at h
   .simp at h
  .simp at h
 .simp at h
def AP(h':H2)(aL:Nat)(m1:List Bd)(b:Bd):O->Prop
 |.ar t s v=>v=0/\((b.id=none/\s=.nil/\xE t=true)\/∃id ver,b.id=some id/\fO h' id=some (.ar t s ver))
 |.bx t w=>∃id v c m0 l0 m2 rest r0,b.id=some id/\fO h' id=some (.bx t v)/\cU c false v m0=some (l0,m2)/\(∀b∈m2,b∈m1)/\gS aL c false (l0++rest) .gn=some (w,r0)/\dW w false t=true
 |.mp k v y=>∃id,b.id=some id/\fO h' id=some (.mp k v y)
 |.rw t s ln=>ln=none/\((b.id=none/\s=.nil/\xE t=true)\/∃id,b.id=some id/\fO h' id=some (.rw t s none))
 |_=>False
theorem Hh{H1:bz}(hr:HR n' H1 h')(hj:∀b∈mf,aL+b.j<n''){j:Nat}{o:JO}{m:List Bd}{l:List V}{m1:List Bd}{rest:List V}{o':O}{r':List V}(hc:Kh h' j o m=some (l,m1))(hm:∀b∈m1,b∈mf)(hs:A4 aL o (l++rest)=some (o',r')):
  r'=rest/\∃b∈mf,b.j=j/\AP h' aL mf b o':=by
 have hmm:=(y6 hc).1;unfold Kh at hc;split at hc
 .rename_i b hb;obtain⟨hb1,hb2⟩:=xo hb;have hbm:=hm _ (hmm _ hb1);split at hc
  .rename_i t hid;obtain⟨hok,hc⟩:=aK hc;obtain⟨rfl,_⟩:=ad (aa hc);simp only[aO,bo,A4]at hs;obtain⟨_,hs⟩:=aK hs;obtain⟨rfl,rfl⟩:=ad (aa hs);exact⟨rfl,b,hbm,hb2,rfl,.inl ⟨hid,rfl,hok⟩⟩
  .rename_i t id hid;split at hc
   .rename_i u s ver ho;split at hc
    .rename_i s2 hs2;obtain⟨rfl,_⟩:=ad (aa hc);obtain⟨e,rfl⟩:=cR hs2;cases e;simp only[aO,bo,A4]at hs;obtain⟨_,hs⟩:=aK hs;obtain⟨rfl,rfl⟩:=ad (aa hs);exact⟨rfl,b,hbm,hb2,rfl,.inr ⟨id,ver,hid,ho⟩⟩
    .simp at hc
   .simp at hc
  .rename_i t hid;obtain⟨hok,hc⟩:=aK hc;obtain⟨rfl,_⟩:=ad (aa hc);simp only[aO,bo,A4]at hs;obtain⟨_,hs⟩:=aK hs;obtain⟨rfl,rfl⟩:=ad (aa hs);exact⟨rfl,b,hbm,hb2,rfl,.inl ⟨hid,rfl,hok⟩⟩
  .rename_i t id hid;split at hc
   .rename_i u s ho;split at hc
    .rename_i s2 hs2;obtain⟨rfl,_⟩:=ad (aa hc);obtain⟨e,rfl⟩:=cR hs2;cases e;simp only[aO,bo,A4]at hs;obtain⟨_,hs⟩:=aK hs;obtain⟨rfl,rfl⟩:=ad (aa hs);exact⟨rfl,b,hbm,hb2,rfl,.inr ⟨id,hid,ho⟩⟩
    .simp at hc
   .simp at hc
  .rename_i t c id hid;split at hc
   .rename_i u v ho;obtain⟨hu,hc2⟩:=aK hc;clear hc;have hc:=hc2;clear hc2;obtain rfl:u=t:=by simpa using hu
    simp only[A4]at hs;split at hs
    .rename_i w l2 hw;obtain⟨hf,hs⟩:=aK hs;obtain⟨rfl,rfl⟩:=ad (aa hs);obtain⟨_,hob,hko⟩:=hr.ob id _ ho;obtain⟨cs,_,hcs,_⟩:=hob;obtain⟨rfl,_⟩:=rq (R5 (h':=h') hj) c false v m l m1 rest .gn w l2 cs hc hm hcs hko hw;exact⟨rfl,b,hbm,hb2,id,v,c,m,l,m1,_,_,hid,ho,hc,hm,hw,hf⟩
    .simp at hs
   .simp at hc
  .rename_i k v id hid;split at hc
   .rename_i k' v' y ho;split at hc
    .rename_i y2 hy2;obtain⟨rfl,_⟩:=ad (aa hc);obtain⟨e,rfl⟩:=cR hy2;cases e;simp only[aO,bo,A4]at hs;obtain⟨_,hs⟩:=aK hs;obtain⟨rfl,rfl⟩:=ad (aa hs);exact⟨rfl,b,hbm,hb2,id,hid,ho⟩
    .simp at hc
   .simp at hc
  .simp at hc
 .simp at hc
theorem sC:∀(os:List JO)(j:Nat)(m:List Bd)(l:List V)(m1:List Bd),y5 h' os j m=some (l,m1)->(∀c∈m,c∈m1)/\(zf m->zf m1):=by
 intro os;induction os with
 |nil=>intro j m l m1 h;obtain⟨_,rfl⟩:=ad (aa h);exact⟨fun _ h=>h,fun h=>h⟩
 |cons o os ih=>
  intro j m l m1 h;simp only[y5]at h;split at h
  .rename_i l1 m2 h1;split at h
   .rename_i l2 m3 h2;obtain⟨_,rfl⟩:=ad (aa h);obtain⟨a1,a2⟩:=y6 h1;obtain⟨c1,c2⟩:=ih _ _ _ _ h2;exact⟨fun c hc=>c1 c (a1 c hc),fun hi=>c2 (a2 hi)⟩
   .simp at h
  .simp at h
theorem Eg{H1:bz}(hr:HR n' H1 h')(hj:∀b∈mf,aL+b.j<n''):∀(os:List JO)(j:Nat)(m:List Bd)(l:List V)(m1:List Bd)(rest:List V)(hl:H2)(r':List V),y5 h' os j m=some (l,m1)->(∀b∈m1,b∈mf)->A3 aL os j (l++rest)=some (hl,r')->
  (∀i o',bX hl i=some o'->∃o,o'=some o/\∃b∈mf,i=aL+b.j/\AP h' aL mf b o)/\(∀p∈hl,aL<=p.1):=by
 intro os;induction os with
 |nil=>intro j m l m1 rest hl r' hc hm hs;obtain⟨rfl,_⟩:=ad (aa hc);simp only[A3]at hs;obtain⟨rfl,_⟩:=ad (aa hs);exact⟨fun i o' h=>by simp[bX]at h,fun p hp=>by simp at hp⟩
 |cons o os ih=>
  intro j m l m1 rest hl r' hc hm hs;simp only[y5]at hc;split at hc
  .rename_i l1 m2 h1;split at hc
   .rename_i l2 m3 h2;obtain⟨rfl,rfl⟩:=ad (aa hc);simp only[A3,aP]at hs;split at hs
    .rename_i o1 r1 ho1;split at hs
     .rename_i hl1 r2 hhl;obtain⟨rfl,rfl⟩:=ad (aa hs);obtain⟨rfl,b,hb,hbj,hap⟩:=Hh hr hj h1 (fun b hb=>hm b ((sC _ _ _ _ _ h2).1 b hb)) ho1;obtain⟨g1,g2⟩:=ih _ _ _ _ _ _ _ h2 hm hhl;refine⟨fun i o' h=>?_,fun p hp=>?_⟩
      .simp only[bX]at h;by_cases e:aL+j=i
       .have e':(aL+j==i)=true:=by simpa using e
        rw[e',cond_true]at h;exact⟨o1,(aa h).symm,b,hb,by rw[hbj,e],hap⟩
       .have e':(aL+j==i)=false:=by simpa using e
        rw[e',cond_false]at h;exact g1 i o' h
      .rcases aF.1 hp with rfl|hp
       .exact j_ _ _
       .exact g2 p hp
     .simp at hs
    .simp at hs
   .simp at hc
  .simp at hc
def QX(M:Nat->Nat->Prop):Ob->Prop
 |.nst _ sl=>∀(k id len:Nat),sl[k]?=some (jf.jZ id len)->M id id
 |_=>True
theorem vV{t:Ty}{l:List (Sl (El t))}{ln:Option (Nat×Nat)}{k i len:Nat}(h:(di t l ln)[k]?=some (.jZ i len)):∃m,ln=some (m,i):=by
 have no:¬(l.map (lK t))[k]?=some (.jZ i len):=fun h=>by
  rw[List.getElem?_map]at h;cases hx:l[k]?with
  |none=>rw[hx]at h;cases h
  |some s=>rw[hx]at h;cases s<;>cases h
 cases ln with
 |none=>exact absurd h no
 |some q=>
  obtain⟨m,j⟩:=q;simp only[di]at h;rw[List.getElem?_set]at h;split at h
  .split at h
   .cases hg:gt l m<;>rw[hg]at h<;>cases h;exact⟨m,rfl⟩
   .cases h
  .exact absurd h no
def MF(M:Nat->Nat->Prop)(o1 o0:Ob):Prop:=(o1=o0/\(∀cs,o0≠.box cs)/\QX M o0)\/∃a c,o1=.box a/\o0=.box c/\mF M a c
theorem P6{H1:bz}(hr:HR n' H1 h')(cx:Cx h' h'' aL n'' mf M){b:Bd}{o:O}(ha:AP h' aL mf b o):
  ∃ob,sX h'' o ob/\Az n'' h'' o/\∀o1,ob=some o1->∃id o0,b.id=some id/\av H1 id=some o0/\MF M o1 o0:=by
 cases o with
 |ar t s v=>
  obtain⟨_,⟨_,rfl,hok⟩|⟨id,ver,hid,ho⟩⟩:=ha
  .obtain ⟨h1,h2⟩:=mh hok;exact⟨none,⟨h1,h2,fun l e=>by cases e⟩,trivial,fun o1 e=>by cases e⟩
  .obtain ⟨_,⟨h1,h2,h3⟩,_⟩:=hr.ob id _ ho;cases s with|nil=>exact⟨none,⟨h1,h2,fun l e=>by cases e⟩,trivial,fun o1 e=>by cases e⟩|mk l=>refine⟨_,⟨h1,h2,fun l' e=>by cases e;rfl⟩,trivial,fun o1 e=>⟨id,_,hid,h3 l rfl,.inl ⟨(aa e).symm,by simp,trivial⟩⟩⟩
 |rw t s ln=>
  obtain⟨rfl,⟨_,rfl,hok⟩|⟨id,hid,ho⟩⟩:=ha
  .obtain ⟨h1,h2⟩:=mh hok;exact⟨none,⟨h1,h2,fun l e=>by cases e⟩,trivial,fun o1 e=>by cases e⟩
  .obtain ⟨_,⟨h1,h2,h3⟩,_⟩:=hr.ob id _ ho;cases s with|nil=>exact⟨none,⟨h1,h2,fun l e=>by cases e⟩,trivial,fun o1 e=>by cases e⟩|mk l=>refine⟨_,⟨h1,h2,fun l' e=>by cases e;rfl⟩,trivial,fun o1 e=>⟨id,_,hid,h3 l rfl,.inl ⟨(aa e).symm,by simp,fun k i len hk=>?_⟩⟩⟩;obtain⟨m,e2⟩:=vV hk;cases e2
 |bx t w=>obtain⟨id,v,c,m0,l0,m2,rest,r0,hid,ho,hc,hm,hs,hf⟩:=ha;obtain⟨_,⟨cs,h1,h2,h3⟩,hk⟩:=hr.ob id _ ho;obtain⟨rfl,g1,_,_,cs',g2,g3⟩:=rq cx c false v m0 l0 m2 rest .gn w r0 cs hc hm h2 hk hs;exact⟨some (.box cs'),⟨cs',rfl,g2,hf⟩,g1,fun o1 e=>⟨id,_,hid,h1,.inr ⟨cs',cs,(aa e).symm,rfl,g3⟩⟩⟩
 |mp k v y=>
  obtain⟨id,hid,ho⟩:=ha;obtain⟨_,⟨h1,h2,h3⟩,_⟩:=hr.ob id _ ho;refine⟨av H1 id,⟨h1,h2,h3⟩,trivial,fun o1 e=>⟨id,o1,hid,e,.inl ⟨rfl,fun cs e2=>?_,?_⟩⟩⟩
  .rw [e2]at e;rw[e]at h3;exact IN h3
  .rw [e]at h3;simp only[CH,bl]at h3;rw[h3];trivial
 |_=>exact ha.elim
theorem xk{s:S2}:∀(vs:List (Nat×JV))(m:List Bd)(l:List V)(m1:List Bd),yZ s vs m=some (l,m1)->(∀c∈m,c∈m1)/\(zf m->zf m1):=by
 intro vs;induction vs with
 |nil=>intro m l m1 h;obtain⟨_,rfl⟩:=ad (aa h);exact⟨fun _ h=>h,fun h=>h⟩
 |cons p vs ih=>
  obtain⟨t,a⟩:=p;intro m l m1 h;simp only[yZ]at h;split at h
  .split at h
   .rename_i l1 m2 h1;split at h
    .rename_i l2 m3 h2;obtain⟨_,rfl⟩:=ad (aa h);obtain⟨a1,a2⟩:=rt _ _ _ _ _ _ h1;obtain⟨c1,c2⟩:=ih _ _ _ h2;exact⟨fun c hc=>c1 c (a1 c hc),fun hi=>c2 (a2 hi)⟩
    .simp at h
   .simp at h
  .simp at h
theorem xj{s1:St}{s:S2}(hr:R2 s1 s)(cx:Cx s.heap h'' aL n'' mf M):∀(vs:List (Nat×JV))(m:List Bd)(l:List V)(m1:List Bd)(rest:List V)(e:List (Nat×V))(r':List V),yZ s vs m=some (l,m1)->(∀b∈m1,b∈mf)->EN aL vs (l++rest)=some (e,r')->
  r'=rest/\∀t v,bX e t=some v->eA n'' h'' v/\∃x x',bX s1.db t=some x/\eW h'' v x'/\Cy M x' x/\∀l,x'≠.gR l:=by
 intro vs;induction vs with
 |nil=>intro m l m1 rest e r' hc hm hs;obtain⟨rfl,_⟩:=ad (aa hc);obtain⟨rfl,rfl⟩:=ad (aa hs);exact⟨rfl,fun t v h=>by simp[bX]at h⟩
 |cons p vs ih=>
  obtain⟨t,a⟩:=p;intro m l m1 rest e r' hc hm hs;simp only[yZ]at hc;split at hc
  .rename_i v hv;split at hc
   .rename_i l1 m2 h1;split at hc
    .rename_i l2 m3 h2;obtain⟨rfl,rfl⟩:=ad (aa hc);simp only[EN,aP]at hs;split at hs
     .rename_i w r1 hw;split at hs
      .rename_i e1 r2 he1;obtain⟨rfl,rfl⟩:=ad (aa hs);simp only[Hy]at hv;split at hv
       .rename_i v2 hv2;obtain⟨hal,hv⟩:=aK hv;obtain rfl:=aa hv;obtain⟨hk,hx⟩:=hr.db t _ hv2;obtain⟨x,hx1,hx2⟩:=hx (.inl hal);obtain⟨rfl,g1,x',g2,g3,g4⟩:=Mr cx h1 (fun b hb=>hm b ((xk _ _ _ _ h2).1 b hb)) hx2 hk hw;obtain⟨rfl,k1⟩:=ih _ _ _ _ _ _ h2 hm he1;refine⟨rfl,fun t' v' h=>?_⟩;simp only[bX]at h;by_cases e:t=t'
        .subst e;have e':(t==t)=true:=by simp
         rw[e',cond_true]at h;obtain rfl:=aa h;exact⟨g1,x,x',hx1,g2,g3,g4⟩
        .have e':(t==t')=false:=by simpa using e
         rw[e',cond_false]at h;exact k1 t' v' h
       .simp at hv
      .simp at hs
     .simp at hs
    .simp at hc
   .simp at hc
  .simp at hc
theorem uy{h:H2}:∀(gs:JV)(g0 g:V)(m:List Bd)(l:List V)(m1:List Bd),nY h gs g0 g m=some (l,m1)->(∀c∈m,c∈m1)/\(zf m->zf m1):=by
 intro gs;induction gs with
 |sm=>intro g0 g m l m1 h;simp only[nY]at h;obtain⟨_,h⟩:=aK h;obtain⟨_,rfl⟩:=ad (aa h);exact⟨fun _ h=>h,fun h=>h⟩
 |ni=>intro g0 g m l m1 h;cases g0<;>cases g<;>simp[nY]at h;obtain⟨_,rfl⟩:=h;exact⟨fun _ h=>h,fun h=>h⟩
 |co a r _ ih=>
  intro g0 g m l m1 hc;cases g0 with
  |co x0 y0=>
   cases g with
   |co x y=>
    have BX:(bif gu h x then(match cU a false x m with|some (l,m)=>(match nY h r y0 y m with|some (l',m)=>some (l++l',m)|none=>none)|none=>none)else none)=some (l,m1)->(∀c∈m,c∈m1)/\(zf m->zf m1):=by
     intro hc;obtain⟨_,hc⟩:=aK hc;split at hc
     .rename_i l1 m2 h1;split at hc
      .rename_i l2 m3 h2;obtain⟨_,rfl⟩:=ad (aa hc);obtain⟨a1,a2⟩:=rt _ _ _ _ _ _ h1;obtain⟨c1,c2⟩:=ih _ _ _ _ _ h2;exact⟨fun c hc=>c1 c (a1 c hc),fun hi=>c2 (a2 hi)⟩
      .simp at hc
     .simp at hc
    cases a with|sm=>exact ih _ _ _ _ _ (aK (show(bif qf x0 x then nY h r y0 y m else none)=_ from hc)).2|gn=>exact ih _ _ _ _ _ (show nY h r y0 y m=_ from hc)|_=>exact BX hc
   |_=>simp[nY]at hc
  |_=>simp[nY]at hc
 |_=>intro g0 g m l m1 h;simp[nY]at h
def KE(M:Nat->Nat->Prop):List C->List C->Prop
 |[],m=>m=[]
 |c::l,m=>∃d r,(c=qi\/qs M c d)/\KE M l r/\m=d::r
theorem KE.len:∀{l m:List C},KE M l m->l.length=m.length
 |[],m,h=>by obtain rfl:=h;rfl
 |c::l,m,h=>by obtain⟨d,r,_,h2,rfl⟩:=h;simp[KE.len h2]
theorem KE.get:∀{l m:List C},KE M l m->∀(i:Nat)(c:C),l[i]?=some c->c=qi\/∃d,m[i]?=some d/\qs M c d
 |[],m,h,i,c,hi=>by simp at hi
 |c::l,m,h,i,c',hi=>by
  obtain⟨d,r,h1,h2,rfl⟩:=h;cases i with
  |zero=>
   obtain rfl:c=c':=by simpa using hi
   exact h1.imp id fun h=>⟨d,rfl,h⟩
  |succ i=>exact(KE.get h2 i c' (by simpa using hi)).imp id fun⟨d,h3,h4⟩=>⟨d,by simpa using h3,h4⟩
theorem AY(hlow:∀i,i<aL->fO h'' i≠none->fO h'' i=fO h' i)(hM:∀i,i<aL->M i i){x0 x:V}{c:C}{hz:H2}(hs:qf x0 x=true)(hok:eA aL hz x0)(hx:gu h' x=true->eD h' x [c]):
  ∃c',(gu h'' x0=true->eD h'' x0 [c'])/\(c'=qi\/qs M c' c):=by
 by_cases ha:gu h'' x0=true
 case neg=>exact⟨qi,fun h=>absurd h ha,.inl rfl⟩
 cases x0<;>cases x<;>first|(simp[qf]at hs;done)|skip
 case nl.nl k k'=>
  obtain rfl:k=k':=by simpa[qf]using hs
  have:eD h' (.nl k) [c]:=hx rfl;obtain rfl:=eL.1 (show[c]=[yD k]from this);exact⟨yD k,fun _=>rfl,.inr rfl⟩
 case so.so i i'=>
  obtain rfl:i=i':=by simpa[qf]using hs
  have hi:i<aL:=hok;have hne:fO h'' i≠none:=fun e=>by simp[gu,e]at ha
  have e:=hlow i hi hne;have ha':gu h' (.so i)=true:=by simp only[gu]at ha|-;rw[<-e];exact ha
  obtain⟨c2,e2,h2,h3⟩:=hx ha';refine⟨c,fun _=>⟨c2,e2,fun c' hc'=>h2 c' (by rw[<-e];exact hc'),h3⟩,.inr (qs.dw _ fun j hj=>?_)⟩;obtain rfl:=eL.1 e2;rw[h3 j hj];exact hM i hi
 case sr.sr i i'=>
  obtain rfl:i=i':=by simpa[qf]using hs
  have hi:i<aL:=hok;have hne:fO h'' i≠none:=fun e=>by simp[gu,e]at ha
  have e:=hlow i hi hne;have ha':gu h' (.sr i)=true:=by simp only[gu]at ha|-;rw[<-e];exact ha
  obtain⟨c2,e2,h2,h3⟩:=hx ha';refine⟨c,fun _=>⟨c2,e2,fun c' hc'=>h2 c' (by rw[<-e];exact hc'),h3⟩,.inr (qs.dw _ fun j hj=>?_)⟩;obtain rfl:=eL.1 e2;rw[h3 j hj];exact hM i hi
 case op.op i t p i' t' p'=>
  have hp:i=i'/\t=t'/\p=[]/\p'=[]:=by
   cases p with
   |cons=>cases p'<;>simp[qf]at hs
   |nil=>cases p' with|cons=>simp[qf]at hs|nil=>simpa[qf]using hs
  obtain⟨rfl,rfl,rfl,rfl⟩:=hp;have hi:i<aL:=hok.1;have hne:fO h'' i≠none:=fun e=>by simp[gu,e]at ha
  have e:=hlow i hi hne;have ha':gu h' (.op i t [])=true:=by simp only[gu]at ha|-;rw[<-e];exact ha
  have h2:=hx ha';obtain rfl:=eL.1 (show[c]=[C.op i (k_ t [])]from h2);exact⟨_,fun _=>rfl,.inr ⟨i,hM i hi,rfl⟩⟩
 case gn.gn=>simp[gu]at ha
theorem Da(hlow:∀i,i<aL->fO h'' i≠none->fO h'' i=fO h' i)(hM:∀i,i<aL->M i i){hz:H2}:∀(g0 g:V)(cs:List C),v8 g0 g=true->eA aL hz g0->HB h' g cs->∃cs',HB h'' g0 cs'/\KE M cs' cs:=by
 intro g0;induction g0 with
 |ni=>intro g cs hs _ hg;cases g<;>simp[v8]at hs;obtain rfl:=hg;exact⟨[],rfl,rfl⟩
 |co x0 y0 _ ih=>intro g cs hs hk hg;cases g with|co x y=>simp only[v8,af]at hs;obtain⟨c,m,rfl,h1,h2⟩:=hg;obtain⟨c',h3,h4⟩:=AY (M:=M) hlow hM hs.1 hk.1 h1;obtain⟨cs',h5,h6⟩:=ih y m hs.2 hk.2 h2;exact⟨c'::cs',⟨c',cs',rfl,h3,h5⟩,c,m,h4,h6,rfl⟩|_=>simp[v8]at hs
 |_=>intro g cs hs;cases g<;>simp[v8]at hs
theorem Pp{b:Nat}{a r:JV}{l:List V}{x0 y0 v':V}{r':List V}(h:gS b (.co a r) true l (.co x0 y0)=some (v',r')):∃v l1 w,gS b a false l x0=some (v,l1)/\gS b r true l1 y0=some (w,r')/\v'=.co v w:=by
 simp only[gS]at h;split at h
 .rename_i v l1 h1;split at h
  .rename_i w l2 h2;obtain⟨rfl,rfl⟩:=ad (aa h);exact⟨v,l1,w,h1,h2,rfl⟩
  .simp at h
 .simp at h
theorem y8(cx:Cx h' h'' aL n'' mf M)(hlow:∀i,i<aL->fO h'' i≠none->fO h'' i=fO h' i)(hM:∀i,i<aL->M i i){hz:H2}(dA:∀v,eA aL hz v->eA n'' h'' v):∀(gs:JV)(g0 g:V)(m:List Bd)(l:List V)(m1:List Bd)(rest:List V)(g':V)(r':List V)(cs:List C),
  nY h' gs g0 g m=some (l,m1)->(∀b∈m1,b∈mf)->eA aL hz g0->HB h' g cs->eA n' h' g->gS aL gs true (l++rest) g0=some (g',r')->r'=rest/\eA n'' h'' g'/\∃cs',HB h'' g' cs'/\KE M cs' cs:=by
 intro gs;induction gs with
 |sm=>intro g0 g m l m1 rest g' r' cs hc hm hk0 hg hk hs;simp only[nY]at hc;obtain⟨hsm,hc⟩:=aK hc;obtain⟨rfl,_⟩:=ad (aa hc);simp only[gS,bo]at hs;obtain⟨rfl,rfl⟩:=ad (aa hs);exact⟨rfl,dA _ hk0,Da hlow hM g0 g cs hsm hk0 hg⟩
 |ni=>intro g0 g m l m1 rest g' r' cs hc hm hk0 hg hk hs;cases g0<;>cases g<;>simp[nY]at hc;obtain⟨rfl,_⟩:=hc;simp only[gS,bo]at hs;obtain⟨rfl,rfl⟩:=ad (aa hs);obtain rfl:=hg;exact⟨rfl,trivial,[],rfl,rfl⟩
 |co a r _ ih=>
  intro g0 g m l m1 rest g' r' cs hc hm hk0 hg hk hs;cases g0 with
  |co x0 y0=>
   cases g with
   |co x y=>
    obtain⟨c,cs,rfl,hx,hg⟩:=hg;obtain⟨v,l1,w,e1,e2,rfl⟩:=Pp hs
    have BX:(bif gu h' x then(match cU a false x m with|some (l,m)=>(match nY h' r y0 y m with|some (l',m)=>some (l++l',m)|none=>none)|none=>none)else none)=some (l,m1)->r'=rest/\eA n'' h'' (.co v w)/\∃cs',HB h'' (.co v w) cs'/\KE M cs' (c::cs):=by
     intro hc;obtain⟨ha,hc⟩:=aK hc;split at hc
     .rename_i l2 m2 h1;split at hc
      .rename_i l3 m3 h2;obtain⟨rfl,rfl⟩:=ad (aa hc);rw[aP]at e1;obtain⟨rfl,g1,_,_,cs1,g2,g3⟩:=rq cx a false x m l2 m2 _ x0 v l1 [c] h1 (fun b hb=>hm b ((uy _ _ _ _ _ _ h2).1 b hb)) (hx ha) hk.1 e1;obtain⟨rfl,k1,cs2,k2,k3⟩:=ih _ _ _ _ _ _ _ _ _ h2 hm hk0.2 hg hk.2 e2
       match cs1,g3 with
       |[],g3=>exact absurd (show[c]=[]from g3) (by simp)
       |c1::t,g3=>obtain⟨d,r2,q1,q2,q3⟩:=g3;obtain⟨rfl,rfl⟩:=bW q3;cases t with|nil=>exact⟨rfl,⟨g1,k1⟩,c1::cs2,⟨c1,cs2,rfl,fun _=>g2,k2⟩,c,cs,.inr q1,k3,rfl⟩|cons=>obtain⟨_,_,_,_,e⟩:=q2;simp at e
      .simp at hc
     .simp at hc
    cases a with|sm=>obtain⟨hsm,hc⟩:=aK (show(bif qf x0 x then nY h' r y0 y m else none)=_ from hc);simp only[gS]at e1;obtain⟨rfl,rfl⟩:=ad (aa e1);obtain⟨rfl,k1,cs2,k2,k3⟩:=ih _ _ _ _ _ _ _ _ _ hc hm hk0.2 hg hk.2 e2;obtain⟨c',h3,h4⟩:=AY (M:=M) hlow hM hsm hk0.1 hx;exact⟨rfl,⟨dA _ hk0.1,k1⟩,c'::cs2,⟨c',cs2,rfl,h3,k2⟩,c,cs,h4,k3,rfl⟩|gn=>have hc:nY h' r y0 y m=some (l,m1):=hc;simp only[gS]at e1;obtain⟨rfl,rfl⟩:=ad (aa e1);obtain⟨rfl,k1,cs2,k2,k3⟩:=ih _ _ _ _ _ _ _ _ _ hc hm hk0.2 hg hk.2 e2;exact⟨rfl,⟨trivial,k1⟩,qi::cs2,⟨qi,cs2,rfl,fun h=>by simp[gu]at h,k2⟩,c,cs,.inl rfl,k3,rfl⟩|_=>exact BX hc
   |_=>simp[nY]at hc
  |_=>simp[nY]at hc
 |_=>intro g0 g m l m1 rest g' r' cs hc;simp[nY]at hc
end
def E4(aL:Nat):Ob->Prop
 |.box cs=>∀i∈d_.k8 cs,i<aL
 |.nst _ sl=>∀(k i len:Nat),sl[k]?=some (jf.jZ i len)->i<aL
 |_=>True
theorem LL{h:H2}{o:O}{aL:Nat}{b:Option Ob}{F:Option Ob}(ho:sX h o b)(hk:Az aL h o)(hF:(∀x,b=some x->E4 aL x->F=b)/\(b=none->F=none)):∀g,sX g o b->sX g o F:=by
 intro g hg
 have dw:(b=none\/∃x,b=some x/\E4 aL x)->sX g o F:=by
  rintro(e|⟨x,e,hx⟩)
  .rw [hF.2 e,<-e];exact hg
  .rw [hF.1 x e hx];exact hg
 cases o with
 |ar t s v=>cases s with|nil=>exact⟨hg.1,hg.2.1,fun l e=>by cases e⟩|mk l=>exact dw (.inr ⟨_,ho.2.2 l rfl,trivial⟩)
 |im t s v=>cases s with|nil=>exact⟨hg.1,hg.2.1,fun l e=>by cases e⟩|mk l=>exact dw (.inr ⟨_,ho.2.2 l rfl,trivial⟩)
 |bx t c=>obtain⟨cs,h1,h2,_⟩:=ho;exact dw (.inr ⟨_,h1,fun i hi=>(Cl h2 hk i hi).1⟩)
 |ib t v=>exact dw (.inr ⟨_,ho.2,trivial⟩)
 |rw t s ln=>cases s with|nil=>exact⟨hg.1,hg.2.1,fun l e=>by cases e⟩|mk l=>refine dw (.inr ⟨_,ho.2.2 l rfl,fun k i len h=>?_⟩);obtain⟨m,rfl⟩:=vV h;exact hk.2.1
 |mp k v m=>exact dw (.inr ⟨_,ho.2.2,trivial⟩)
open Classical in
theorem Ls{s1:St}{aL n'':Nat}{mf:List Bd}{e':iE}{h':bz}{g':List C}(hi:zf mf)(hn:∀b∈mf,aL+b.j<n'')(hbn:aL<=n'')
  (he:∀t x',bX e' t=some x'->∃x,bX s1.db t=some x/\Cy (fun i j=>(i=j/\j<aL)\/∃b∈mf,b.id=some j/\i=aL+b.j) x' x)
  (hh:∀i o',av h' i=some o'->∃j o,((i=j/\j<aL)\/∃b∈mf,b.id=some j/\i=aL+b.j)/\av s1.heap j=some o/\MF (fun i j=>(i=j/\j<aL)\/∃b∈mf,b.id=some j/\i=aL+b.j) o' o/\∀b∈mf,b.id=some j->i=aL+b.j)
  (hg:KE (fun i j=>(i=j/\j<aL)\/∃b∈mf,b.id=some j/\i=aL+b.j) g' s1.gh):Sub s1 ⟨e',h',n'',g'⟩:=by
 intro S K w0 Kn φ gv nt a w hR;let Kn':Nat->Prop:=fun i=>(i<aL/\Kn i)\/∃b∈mf,i=aL+b.j/\∃id,b.id=some id/\Kn id;let φ':Nat->fE:=fun i=>if i<aL then φ i else match Kq mf (i-aL)with|some ⟨_,some id⟩=>φ id|_=>default
 have hbd:∀b∈mf,Kq mf (aL+b.j-aL)=some b:=by intro b hb;rw[Nat.add_sub_cancel_left];cases h:Kq mf b.j with|none=>exact absurd rfl (Cq h b hb)|some c=>obtain⟨h1,h2⟩:=xo h;rw[(hi c h1 b hb).1 h2]
 have hM:∀i j,((i=j/\j<aL)\/∃b∈mf,b.id=some j/\i=aL+b.j)->Kn j->Kn' i/\φ' i=φ j:=by
  rintro i j (⟨rfl,hlt⟩|⟨b,hb,hid,rfl⟩) hk
  .exact ⟨.inl ⟨hlt,hk⟩,if_pos hlt⟩
  .refine ⟨.inr ⟨b,hb,rfl,j,hid,hk⟩,?_⟩;show(if aL+b.j<aL then _ else _)=_;rw[if_neg (by omega),hbd b hb];obtain⟨bj,bid⟩:=b;simp only at hid;subst hid;rfl
 have hun:∀i j i0,((i=i0/\i0<aL)\/∃b∈mf,b.id=some i0/\i=aL+b.j)->(∀b∈mf,b.id=some i0->i=aL+b.j)->((j=i0/\i0<aL)\/∃b∈mf,b.id=some i0/\j=aL+b.j)->(∀b∈mf,b.id=some i0->j=aL+b.j)->i=j:=by
  rintro i j i0 (⟨rfl,_⟩|⟨b,hb,hid,rfl⟩) hu1 h2 hu2
  .rcases h2 with⟨rfl,_⟩|⟨b,hb,hid,rfl⟩
   .rfl
   .exact hu1 b hb hid
  .exact (hu2 b hb hid).symm
 refine⟨S,Kn',φ',fw.refl S w,⟨hR.inv.qZ,hR.inv.sk,hR.inv.lG,fun i o ho=>?_,fun i j x y hx hy ox oy hne=>?_,hR.inv.zY,?_⟩,fun t x hx=>?_,hR.size,hR.defers,fun j hj hk=>?_,fun i c v hc hv=>?_⟩
 .obtain ⟨j,o0,hij,ho0,htr,_⟩:=hh i o ho;obtain⟨hk,hro⟩:=hR.inv.gg j o0 ho0;obtain⟨hk',e⟩:=hM i j hij hk;refine⟨hk',?_⟩;rw[e];rcases htr with⟨rfl,hnb⟩|⟨a',c',rfl,rfl,htl⟩
  .cases hro with
   |nst hsz hl hS hK hown hext hfit hr hv=>
    refine .nst hsz hl hS hK hown hext hfit (fun q s hs=>?_) hv;obtain⟨v,h1,h2⟩:=hr q s hs;refine⟨v,h1,?_⟩;cases h2 with
    |nil=>exact .nil
    |bn h3 h4 h5=>exact .bn h3 h4 h5
    |jZ h3=>exact .jZ (qs.rc hM _ _ v (qs.dw _ fun q' hq'=>by
      obtain rfl:q'=_:=by simpa[d_]using hq'
      exact hnb.2 _ _ _ hs) h3)
   |aJ hsz hl hS hK hown hext hfit hr hv=>exact .aJ hsz hl hS hK hown hext hfit hr hv
   |nL hsz hl hS hr=>exact .nL hsz hl hS hr
   |my hb hS hr=>exact .my hb hS hr
   |box=>exact absurd rfl (hnb.1 _)
   |map hS hK hmp hlen hr=>exact .map hS hK hmp hlen hr
   |cap hsz hl hS hK hown hext hfit hr hv hc=>exact .cap hsz hl hS hK hown hext hfit hr hv hc
  .cases hro with|box hb hS hK hown hlen hr=>exact .box hb hS hK hown ((mF.len htl).trans hlen) (mF.rc hM a' c' _ htl hr)
 .obtain ⟨i0,x0,hi0,hx0,htx,huq⟩:=hh i x hx;obtain⟨j0,y0,hj0,hy0,hty,huq2⟩:=hh j y hy
  have hox:cq x0=true:=by
   rcases htx with⟨rfl,_⟩|⟨a',c',rfl,rfl,_⟩
   .exact ox
   .rfl
  have hoy:cq y0=true:=by
   rcases hty with⟨rfl,_⟩|⟨a',c',rfl,rfl,_⟩
   .exact oy
   .rfl
  rw[(hM i i0 hi0 (hR.inv.gg i0 x0 hx0).1).2,(hM j j0 hj0 (hR.inv.gg j0 y0 hy0).1).2];refine hR.inv.ei i0 j0 x0 y0 hx0 hy0 hox hoy fun e=>hne ?_;subst e;exact hun i j i0 hi0 huq hj0 huq2
 .intro i sz sl k x hi hp;obtain⟨i0,x0,hi0,hx0,htx,huq⟩:=hh i _ hi;rcases htx with⟨rfl,_⟩|⟨a',c',e,_⟩
  case inr=>cases e
  rw[(hM i i0 hi0 (hR.inv.gg i0 _ hx0).1).2]at hp;obtain⟨p1,p2⟩:=hR.inv.sq i0 sz sl k x hx0 hp;refine⟨fun j b hj hb=>?_,fun j sz' sl' k' hj hp'=>?_⟩
  .obtain ⟨j0,y0,hj0,hy0,hty,_⟩:=hh j b hj
   have hoy:cq y0=true:=by
    rcases hty with⟨rfl,_⟩|⟨a',c',rfl,rfl,_⟩
    .exact hb
    .rfl
   rw[(hM j j0 hj0 (hR.inv.gg j0 y0 hy0).1).2];exact p1 j0 y0 hy0 hoy
  .obtain ⟨j0,y0,hj0,hy0,hty,huq2⟩:=hh j _ hj;rcases hty with⟨rfl,_⟩|⟨a',c',e,_⟩
   case inr=>cases e
   rw[(hM j j0 hj0 (hR.inv.gg j0 _ hy0).1).2]at hp';obtain⟨e1,e2⟩:=p2 j0 sz' sl' k' hy0 hp';subst e1;exact⟨hun j i j0 hj0 huq2 hi0 huq,e2⟩
 .obtain ⟨x0,h1,h2⟩:=he t x hx;exact Cy.rc hM x x0 _ h2 (hR.db t x0 h1)
 .have hj:n''<=j:=hj;rcases hk with⟨hlt,_⟩|⟨b,hb,rfl,_⟩
  .omega
  .have:=hn b hb;omega
 .rcases hg.get i c hc with e|⟨d,h1,h2⟩
  .exact .inl e
  .rcases hR.gh i d v h1 hv with rfl|hr
   .left;cases c with
    |mP f l=>obtain⟨m,h3,h4⟩:=h2;simp only[qi,C.mP.injEq]at h4;obtain⟨rfl,rfl⟩:=h4;cases l with|nil=>rfl|cons x l=>obtain⟨_,_,_,_,e⟩:=h3;simp at e
    |d x=>exact absurd (show qi=C.d x from h2) (by simp[qi])
    |_=>obtain⟨_,_,e⟩:=h2;simp[qi]at e
   .exact .inr (qs.rc hM c d v h2 hr)
theorem B1{α:Type}{l:List (Nat×α)}{t:Nat}(h:∀p∈l,p.1≠t):bX l t=none:=by cases hx:bX l t with|none=>rfl|some x=>exact absurd rfl (h _ (vz hx))
theorem Og{ds:List Nat}{t:Nat}:bX (ds.map fun t=>(t,V.gn)) t=if t∈ds then some .gn else none:=by
 induction ds with
 |nil=>rfl
 |cons d ds ih=>
  simp only[aq,bX,ih];by_cases e:d=t
  .subst e;simp
  .have e':(d==t)=false:=by simpa using e
   have:t≠d:=fun q=>e q.symm;simp[e',this]
theorem PM{kl:List Nat}{h:H2}{i:Nat}:fO (kl.map (fun i=>(i,none))++h) i=if i∈kl then none else fO h i:=by
 induction kl with
 |nil=>rfl
 |cons k kl ih=>
  rw[aq,aO,cB,ih];by_cases e:k=i
  .subst e;simp
  .have:i≠k:=fun q=>e q.symm;simp[e,this]
open Classical in
theorem OL{j:J}{ds w:List Nat}{s1 s1':St}{s0 s' s'':S2}{l:List V}(hr0:R2 s1 s0)(hr:R2 s1' s')(hf:u5 ds w s1 s1' s0 s')(hw:∀i∈w,s0.next<=i\/i∈j.kl)(hc:y7 j s0 s'=some l)(hs:sj j ds s0 l=some s''):
  ∃s1'' w',Sub s1' s1''/\R2 s1'' s''/\s''.wo=w'++s0.wo/\u5 ds w' s1 s1'' s0 s''/\∀i∈w',s0.next<=i\/i∈j.kl:=by
 unfold y7 at hc;split at hc
 case h_2=>simp at hc
 rename_i l1 m1 hvs;split at hc
 case h_2=>simp at hc
 rename_i l2 m2 hgs;split at hc
 case h_2=>simp at hc
 rename_i l3 mf hos;obtain⟨hchk,hc⟩:=aK hc;obtain rfl:=aa hc;simp only[af,aV]at hchk;obtain⟨_,hbm⟩:=hchk;unfold sj at hs;split at hs
 case h_2=>simp at hs
 rename_i e r1 hev;split at hs
 case h_2=>simp at hs
 rename_i g' r2 hgv;split at hs
 case h_2=>simp at hs
 rename_i hl r3 hov;obtain rfl:=aa hs
 -- the bindings
 have hm12:=(uy _ _ _ _ _ _ hgs).1;have hm2f:=(sC _ _ _ _ _ hos).1;have hinj:zf mf:=(sC _ _ _ _ _ hos).2 ((uy _ _ _ _ _ _ hgs).2 ((xk _ _ _ _ hvs).2 (fun b hb=>by simp at hb)))
 have hbj:∀b∈mf,s0.next+b.j<s0.next+j.os.length:=fun b hb=>by
  have:=(hbm b hb).1;have:b.j<j.os.length:=by simpa[Nat.blt_eq]using this
  omega
 have hbid:∀b∈mf,∀i,b.id=some i->s0.next<=i\/i∈j.kl:=fun b hb i hid=>by have:=(hbm b hb).2;rw[hid]at this;simpa[Nat.ble_eq]using this
 -- what is left of the aj
 have hx0:=R5 (h':=s'.heap) hbj;obtain⟨rfl,_⟩:=xj hr hx0 j.vs [] l1 m1 (l2++l3) e r1 hvs (fun b hb=>hm2f b (hm12 b hb)) hev;have hle:s0.next<=s0.next+j.os.length:=j_ _ _;have hst0:ik s0.next s0.heap []:=⟨fun i o _ ho=>by simp[fO,bX]at ho⟩
 have hrg:r2=l3:=(y8 (n':=s'.next) (hz:=s0.heap) hx0 (fun i _ h=>absurd rfl h) (fun _ _=>trivial) (fun v hv=>fN hle hst0 hv) j.gs s0.gh s'.gh m1 l2 m2 l3 g' r2 s1'.gh hgs hm2f hr0.gh.2 hr.gh.1 hr.gh.2 hgv).1;subst hrg;obtain⟨hap,hge⟩:=Eg hr.hr hbj j.os 0 m2 r2 mf [] hl r3 hos (fun b hb=>hb) (by rw[List.append_nil];exact hov);clear hx0
 -- the heap
 generalize hh2:hl++j.kl.map (fun i=>(i,none))++s0.heap=h''
 have hfo:∀i,fO h'' i=match bX hl i with|some o=>o|none=>if i∈j.kl then none else fO s0.heap i:=fun i=>by
  rw[<-hh2,aP];have:fO (hl++(j.kl.map (fun i=>(i,none))++s0.heap)) i=match bX hl i with|some o=>o|none=>fO (j.kl.map (fun i=>(i,none))++s0.heap) i:=by simp only[fO,fP hl];cases bX hl i<;>rfl
  rw[this,PM]
 have hhl:∀i,i<s0.next->bX hl i=none:=fun i hi=>B1 fun p hp e=>by have:=hge p hp;omega
 have hfl:∀i,i<s0.next->fO h'' i=if i∈j.kl then none else fO s0.heap i:=fun i hi=>by rw[hfo,hhl i hi]
 have hwk:∀i,i<s0.next->i∉j.kl->i∉w:=fun i hi hk hm=>by
  rcases hw i hm with h|h
  .omega
  .exact hk h
 have dA:ik s0.next s0.heap h'':=⟨fun i o hi ho=>by
  rw[hfl i hi]at ho;split at ho
  .simp at ho
  .exact .inl ⟨o,ho,qp.refl _⟩⟩
 have hnb:∀i,i<s0.next->fO s0.heap i=none->fO h'' i=none:=fun i hi h=>by
  rw[hfl i hi];split
  .rfl
  .exact h
 have hlow:∀i,i<s0.next->fO h'' i≠none->fO h'' i=fO s'.heap i:=fun i hi h=>by
  rw[hfl i hi]at h|-;split at h
  .exact absurd rfl h
  .rename_i hk;rw[if_neg hk,(hf.ob i hi (hwk i hi hk)).1]
 generalize hMd:(fun(i j:Nat)=>(i=j/\j<s0.next)\/∃b∈mf,b.id=some j/\i=s0.next+b.j)=M;have hM1:∀i,i<s0.next->M i i:=fun i hi=>by rw[<-hMd];exact .inl ⟨rfl,hi⟩
 have hnew:∀b∈mf,∀o,fO h'' (s0.next+b.j)=some o->AP s'.heap s0.next mf b o:=fun b hb o ho=>by
  rw[hfo]at ho;split at ho
  .rename_i o' hx;obtain⟨o2,rfl,b2,hb2,e2,ha⟩:=hap _ _ hx;obtain rfl:=aa ho;rw[(hinj b hb b2 hb2).1 (by omega)];exact ha
  .split at ho
   .simp at ho
   .have:=(hr0.hr.ob _ _ ho).1;omega
 have cx:Cx s'.heap h'' s0.next (s0.next+j.os.length) mf M:=by
  refine⟨fun b hb i hid=>by rw[<-hMd];exact .inr ⟨b,hb,hid,rfl⟩,hbj,fun b hb i hid c' hc'=>?_,fun b hb i hid c' hc'=>?_,fun b hb hid c' hc'=>?_,fun b hb hid c' hc'=>?_⟩
  .cases ho:fO h'' (s0.next+b.j)with
   |none=>rw[ho]at hc';simp[yj]at hc'
   |some o=>
    rw[ho]at hc';have ha:=hnew b hb o ho;cases o with
    |ar t s v=>
     obtain⟨_,⟨h1,_⟩|⟨id,ver,h1,h2⟩⟩:=ha
     .rw [hid]at h1;cases h1
     .rw [hid]at h1;obtain rfl:=aa h1;exact⟨t,s,(aa hc').symm,ki (.inl h2)⟩
    |im=>exact ha.elim
    |_=>simp[yj]at hc'
  .cases ho:fO h'' (s0.next+b.j)with
   |none=>rw[ho]at hc';simp[xB]at hc'
   |some o=>
    rw[ho]at hc';have ha:=hnew b hb o ho;cases o with
    |rw t s ln=>
     obtain⟨_,⟨h1,_⟩|⟨id,h1,h2⟩⟩:=ha
     .rw [hid]at h1;cases h1
     .rw [hid]at h1;obtain rfl:=aa h1;exact⟨t,s,(aa hc').symm,qy h2⟩
    |_=>simp[xB]at hc'
  .cases ho:fO h'' (s0.next+b.j)with
   |none=>rw[ho]at hc';simp[xB]at hc'
   |some o=>
    rw[ho]at hc';have ha:=hnew b hb o ho;cases o with
    |rw t s ln=>
     obtain⟨_,⟨_,rfl,_⟩|⟨id,h1,_⟩⟩:=ha
     .rw [<-aa hc'];rfl
     .rw [hid]at h1;cases h1
    |_=>simp[xB]at hc'
  .cases ho:fO h'' (s0.next+b.j)with
   |none=>rw[ho]at hc';simp[yj]at hc'
   |some o=>
    rw[ho]at hc';have ha:=hnew b hb o ho;cases o with
    |ar t s v=>
     obtain⟨_,⟨_,rfl,_⟩|⟨id,ver,h1,_⟩⟩:=ha
     .rw [<-aa hc'];rfl
     .rw [hid]at h1;cases h1
    |im=>exact ha.elim
    |_=>simp[yj]at hc'
 have hkv:∀v,eA s0.next s0.heap v->eA (s0.next+j.os.length) h'' v:=fun v hv=>fN hle dA hv;obtain⟨_,hE0⟩:=xj hr cx j.vs [] l1 m1 (l2++r2) e (l2++r2) hvs (fun b hb=>hm2f b (hm12 b hb)) hev;obtain⟨_,hgk,cs',hgR,hgT⟩:=y8 (n':=s'.next) cx hlow hM1 hkv j.gs s0.gh s'.gh m1 l2 m2 r2 g' r2 s1'.gh hgs hm2f hr0.gh.2 hr.gh.1 hr.gh.2 hgv
 -- the abstract machine's objects
 have hob0:∀i,∃ob,∀o,bX hl i=some (some o)->sX h'' o ob/\Az (s0.next+j.os.length) h'' o/\∀o1,ob=some o1->∃b∈mf,i=s0.next+b.j/\∃id o0,b.id=some id/\av s1'.heap id=some o0/\MF M o1 o0:=by intro i;cases hx:bX hl i with|none=>exact⟨none,fun o h=>by cases h⟩|some o'=>obtain⟨o,rfl,b,hb,e2,ha⟩:=hap i o' hx;obtain⟨ob,g1,g2,g3⟩:=P6 hr.hr cx ha;refine⟨ob,fun o2 h=>?_⟩;obtain rfl:=aa (aa h);exact⟨g1,g2,fun o1 h1=>⟨b,hb,e2,g3 o1 h1⟩⟩
 obtain⟨fob,hfob⟩:∃f:Nat->Option Ob,∀i o,bX hl i=some (some o)->sX h'' o (f i)/\Az (s0.next+j.os.length) h'' o/\∀o1,f i=some o1->∃b∈mf,i=s0.next+b.j/\∃id o0,b.id=some id/\av s1'.heap id=some o0/\MF M o1 o0:=⟨fun i=>fo (hob0 i),fun i=>cQ (hob0 i)⟩
 have hF:∃H:bz,∀i,av H i=match bX hl i with
   |some _=>fob i
   |none=>if i<s0.next/\i∉j.kl then(match av s1'.heap i with|some o=>if E4 s0.next o then some o else none|none=>none)else none:=by
  refine L2 _ (hl.map (·.1)++s1'.heap.map (·.1)) fun i hi=>?_;cases hx:bX hl i with|some o=>exact aE _ (vA (by rw[hx];simp))|none=>rw[hx]at hi;refine aC _ (IZ fun e=>hi ?_);simp only[e,ite_self]
 obtain⟨H,hH⟩:=hF;have hHn:∀i o,bX hl i=some (some o)->av H i=fob i:=fun i o h=>by rw[hH i,h]
 have hHl:∀i,i<s0.next->i∉j.kl->(∀x,av s1'.heap i=some x->E4 s0.next x->av H i=av s1'.heap i)/\(av s1'.heap i=none->av H i=none):=fun i hi hk=>by rw[hH i,hhl i hi];simp only[hi,hk,not_false_eq_true,and_self,if_true];refine⟨fun x hx hlo=>by rw[hx];simp only[hlo,if_true],fun hx=>by rw[hx]⟩
 have hHR:∀i,i<s0.next->i∉j.kl->∀o,fO s0.heap i=some o->∀g,sX g o (av s1.heap i)->sX g o (av H i):=fun i hi hk o ho g hg=>by have h1:=(hf.ob i hi (hwk i hi hk)).2 o ho;obtain⟨_,h2,h3⟩:=hr0.hr.ob i o ho;exact LL (h1 _ h2) h3 (hHl i hi hk) g (h1 g hg)
 -- its temporaries
 have hE1:∀t,∃x',∀v,bX e t=some v->eA (s0.next+j.os.length) h'' v/\eW h'' v x'/\∃x,bX s1'.db t=some x/\Cy M x' x/\∀l,x'≠.gR l:=by intro t;cases hx:bX e t with|none=>exact⟨.gR [],fun v h=>by cases h⟩|some v=>obtain⟨h1,x,x',h2,h3,h4,h5⟩:=hE0 t v hx;refine⟨x',fun v2 h=>?_⟩;obtain rfl:=aa h;exact⟨h1,h3,x,h2,h4,h5⟩
 obtain⟨fe,hfe⟩:∃f:Nat->TV,∀t v,bX e t=some v->eA (s0.next+j.os.length) h'' v/\eW h'' v (f t)/\∃x,bX s1'.db t=some x/\Cy M (f t) x/\∀l,f t≠.gR l:=⟨fun t=>fo (hE1 t),fun t=>cQ (hE1 t)⟩
 have hG:∃E:iE,∀t,bX E t=match bX e t with
   |some _=>some (fe t)
   |none=>(match bX s1'.db t with|some x=>if∀i∈kA x,i<s0.next then some x else none|none=>none):=by
  refine HM _ (e.map (·.1)++s1'.db.map (·.1)) fun t ht=>?_;cases hx:bX e t with|some o=>exact aE _ (vA (by rw[hx];simp))|none=>rw[hx]at ht;refine aC _ (vA fun e=>ht ?_);simp only[e]
 obtain⟨E,hE⟩:=hG;have hEn:∀t v,bX e t=some v->bX E t=some (fe t):=fun t v h=>by rw[hE t,h]
 have hEl:∀t x,bX e t=none->bX s1'.db t=some x->(∀i∈kA x,i<s0.next)->bX E t=some x:=fun t x h1 h2 h3=>by rw[hE t,h1,h2];exact if_pos h3
 have hsub:Sub s1' ⟨E,H,s0.next+j.os.length,cs'⟩:=by
  refine Ls (aL:=s0.next) hinj hbj hle (fun t x' hx=>?_) (fun i o' ho=>?_) (by rw[hMd];exact hgT)
  .rw [hMd];rw[hE t]at hx;split at hx
   .rename_i v hv;obtain⟨_,_,x,h3,h4,_⟩:=hfe t v hv;rw[<-aa hx];exact⟨x,h3,h4⟩
   .split at hx
    .rename_i x hx1;split at hx
     .rename_i hlo;obtain rfl:=aa hx;exact⟨x,hx1,Cy.dw x fun i hi=>hM1 i (hlo i hi)⟩
     .simp at hx
    .simp at hx
  .rw [hMd];cases hx:bX hl i with
   |some o2=>obtain⟨o,rfl,_⟩:=hap i o2 hx;rw[hHn i o hx]at ho;obtain⟨_,_,h3⟩:=hfob i o hx;obtain⟨b,hb,e2,id,o0,hid,h4,h5⟩:=h3 o' ho;refine⟨id,o0,.inr ⟨b,hb,hid,e2⟩,h4,h5,fun b2 hb2 hid2=>?_⟩;rw[(hinj b2 hb2 b hb).2 id hid2 hid];exact e2
   |none=>
    rw[hH i,hx]at ho;simp only at ho;split at ho
    .rename_i hik;split at ho
     .rename_i o hlo;split at ho
      .rename_i hlow1;obtain rfl:=aa ho;refine⟨i,o,.inl ⟨rfl,hik.1⟩,hlo,?_,fun b hb hid=>?_⟩
       .cases o with|box cs=>exact .inr ⟨cs,cs,rfl,rfl,mF.dw cs fun i hi=>hM1 i (hlow1 i hi)⟩|nst sz sl=>exact .inl ⟨rfl,by simp,fun k q len hk=>hM1 q (hlow1 k q len hk)⟩|_=>exact .inl ⟨rfl,by simp,trivial⟩
       .rcases hbid b hb i hid with h|h
        .have:=hik.1;omega
        .exact absurd h hik.2
      .simp at ho
     .simp at ho
    .simp at ho
 refine⟨⟨E,H,s0.next+j.os.length,cs'⟩,hl.map (·.1)++j.kl,hsub,⟨fun t v ht=>?_,⟨fun i o ho=>?_⟩,ao _,hgR,hgk⟩,rfl,⟨hle,dA,?_,fun i hi hi2=>?_,fun t x ht hx hk=>?_⟩,fun i hi=>?_⟩
 .have ht:bX (e++ds.map (fun t=>(t,V.gn))++s0.db) t=some v:=ht;rw[aP,fP]at ht;cases hx:bX e t with
  |some v2=>rw[hx]at ht;obtain rfl:=aa ht;obtain⟨h1,h2,_⟩:=hfe t v2 hx;exact⟨h1,fun _=>⟨_,hEn t v2 hx,h2⟩⟩
  |none=>
   rw[hx]at ht;simp only at ht;rw[fP,Og]at ht;by_cases hds:t∈ds
   .rw [if_pos hds]at ht;obtain rfl:=aa ht;exact⟨trivial,fun h=>by rcases h with h|h<;>simp[gu]at h⟩
   .rw [if_neg hds]at ht;obtain⟨h1,h2⟩:=hr0.db t v ht;refine⟨hkv v h1,fun ha=>?_⟩;obtain⟨x,h3,h4⟩:=h2 (ha.imp (tF dA hnb h1) fun q=>q);have h5:=sH dA h1 h4
    have hids:∀i∈kA x,i<s0.next/\i∉j.kl/\fO s0.heap i≠none:=fun i hi=>by
     rcases ha with ha|rfl
     .have i1:=(EE h4 h1 i hi).1;have i2:=(EE h5 (hkv v h1) i hi).2 ha;rw[hfl i i1]at i2;split at i2
      .exact absurd rfl i2
      .exact ⟨i1,by assumption,i2⟩
     .obtain rfl:x=.gR []:=h4;simp[kA,kA.xY]at hi
    have h6:=hf.db t x hds h3 fun i hi=>⟨(hids i hi).1,hwk i (hids i hi).1 (hids i hi).2.1,(hids i hi).2.2⟩;exact⟨x,hEl t x hx h6 fun i hi=>(hids i hi).1,h5⟩
 .have ho:fO h'' i=some o:=ho;show i<s0.next+j.os.length/\sX h'' o (av H i)/\Az (s0.next+j.os.length) h'' o;have ho2:=ho;rw[hfo i]at ho;split at ho
  .rename_i o2 hx;subst ho;obtain⟨h1,h2,_⟩:=hfob i o hx;obtain⟨_,_,b,hb,e2,_⟩:=hap i _ hx;rw[hHn i o hx];exact⟨by have:=hbj b hb;omega,h1,h2⟩
  .split at ho
   .simp at ho
   .rename_i hk;obtain⟨h1,h2,h3⟩:=hr0.hr.ob i o ho;exact⟨by omega,hHR i h1 hk o ho _ (nF dA h3 h2),mr hle dA h3⟩
 .show cs'.length=_;rw[hgT.len];exact hf.gl
 .simp only[ak,not_or]at hi2;refine⟨?_,hHR i hi hi2.2⟩;show fO h'' i=_;rw[hfl i hi,if_neg hi2.2]
 .have h6:=hf.db t x ht hx fun i hi=>by obtain⟨i1,i2,i3⟩:=hk i hi;simp only[ak,not_or]at i2;exact⟨i1,hwk i i1 i2.2,i3⟩
  cases he:bX e t with
  |none=>exact hEl t x he h6 fun i hi=>(hk i hi).1
  |some v=>
   show bX E t=some x;rw[hEn t v he];obtain⟨_,_,x0,h3,h4,h5⟩:=hfe t v he;rw[h6]at h3;obtain rfl:=aa h3;refine congrArg some (Cy.Sk (fun i=>s0.next<=i\/i∈j.kl) (fun a b hab=>?_) h4 h5 fun i hi hB=>?_)
   .rw [<-hMd]at hab;rcases hab with⟨rfl,_⟩|⟨bb,hb,hid,_⟩
    .exact .inl rfl
    .exact .inr (hbid bb hb b hid)
   .obtain ⟨i1,i2,_⟩:=hk i hi;simp only[ak,not_or]at i2;rcases hB with h|h
    .omega
    .exact i2.2 h
 .rcases ak.1 hi with hi|hi
  .obtain ⟨p,hp,rfl⟩:=cz.1 hi;exact .inl (hge p hp)
  .exact .inr hi
end Go.Ev
