/- Regions: what an operation leaves. Conditions: as stated. -/
import Derived.Test.YtingpmogbibghaaFz
open Bool renaming and_eq_true->ae,not_eq_true'->dz,true_and->RB
open Classical renaming choose->fg,choose_spec->cW
open List renaming all_eq_true->aL,append_assoc->aI,cons_append->aK,contains_eq_mem->gS,getElem?_drop->bi,getElem?_take->cN,length_map->aH,map_cons->am,mem_append->ah,mem_append_left->az,mem_append_right->av,mem_cons->aE,mem_cons_of_mem->aq,mem_filterMap->QP,mem_map->c8,nil_append->bc,singleton_inj->dh
open List.cons renaming inj->bz
open Nat renaming ble->fy,le_add_right->ff,le_refl->ai,le_succ->a_,le_trans->cZ,lt_of_lt_of_le->ct,lt_succ_self->aN,zero_add->bl
open Option.some renaming inj->aa,injEq->bp
open Prod.mk renaming inj->ad
namespace Go.Ev
theorem R2.mono{s1:St}{s:S2}(hr:R2 s1 s){n:Nat}(hn:s.next<=n):R2 s1 {s with next:=n}:=⟨fun t v ht=>(hr.bS t v ht).imp (WI hn (fF.refl _ _)) id,hr.hr.mono hn,cZ hr.next hn,hr.gh.1,WI hn (fF.refl _ _) hr.gh.2⟩
theorem R2.nx{s1:St}{s:S2}(hr:R2 s1 s){n:Nat}(hn:n<=s.next):R2 {s1 with next:=n} s:=⟨hr.bS,hr.hr,hn,hr.gh⟩
theorem R2.wo{s1:St}{s:S2}(hr:R2 s1 s)(w:List Nat):R2 s1 {s with wo:=w}:=⟨hr.bS,hr.hr,hr.next,hr.gh⟩
theorem lQ.mono{s1:St}{s:S2}{q:Rg}(hr:lQ s1 s q){n:Nat}(hn:s.next<=n):lQ s1 {s with next:=n} q:=⟨hr.r.mono hn,hr.kn,fun t g b v h=>let⟨c,h1,h2⟩:=hr.cd t g b v h;⟨c,h1,fun e=>let⟨x,h3,h4,h5⟩:=h2 e;⟨x,h3,h4,WI hn (fF.refl _ _) h5⟩⟩⟩
theorem lQ.nx{s1:St}{s:S2}{q:Rg}(hr:lQ s1 s q){n:Nat}(hn:n<=s.next):lQ {s1 with next:=n} s q:=⟨hr.r.nx hn,hr.kn,hr.cd⟩
theorem lQ.none{s1:St}{s:S2}(hr:R2 s1 s):lQ s1 s ⟨[],[]⟩:=⟨hr,fun g b h=>by simp[GX,bv]at h,fun t g b v h=>by simp[bv]at h⟩
theorem lQ.Jq{s1:St}{s:S2}{q:Rg}(hr:lQ s1 s q){g:Nat}{c:Bool}(hg:bv s1.bS g=some (tB c)):lQ s1 s ⟨(g,c)::q.kn,q.cd⟩:=by
 refine⟨hr.r,fun g' b h=>?_,hr.cd⟩;simp only[GX,bv]at h;by_cases e:g=g'
 .subst e;have:c=b:=by simpa using h
  rw[<-this];exact hg
 .have e':(g==g')=false:=by simpa using e
  rw[e',cond_false]at h;exact hr.kn g' b h
theorem yb{α:Type}{d:Nat}:∀{l:List (Nat×α)}{t:Nat}{x:α},bv (l.filter fun e=>!(e.1==d)) t=some x->t≠d/\bv l t=some x:=by
 intro l;induction l with
 |nil=>intro t x h;simp[bv]at h
 |cons p l ih=>
  obtain⟨a,y⟩:=p;intro t x h;by_cases e:a=d
  .rw [List.filter_cons,if_neg (by simp[e])]at h;obtain⟨h1,h2⟩:=ih h;refine⟨h1,?_⟩;simp only[bv];have e':(a==t)=false:=by simpa using fun q=>h1 (q.symm.trans e)
   rw[e',cond_false];exact h2
  .rw [List.filter_cons,if_pos (by simp[e])]at h;simp only[bv]at h|-;by_cases e2:a=t
   .subst e2;have e':(a==a)=true:=by simp
    rw[e',cond_true]at h|-;exact⟨e,h⟩
   .have e':(a==t)=false:=by simpa using e2
    rw[e',cond_false]at h|-;exact ih h
theorem p7{α:Type}:∀{l:List (Nat×α)}{t:Nat}{x:α},bv l t=some x->(t,x)∈l:=by
 intro l;induction l with
 |nil=>intro t x h;simp[bv]at h
 |cons p l ih=>
  obtain⟨a,y⟩:=p;intro t x h;simp only[bv]at h;by_cases e2:a=t
  .subst e2;have:y=x:=by simpa using h
   subst this;exact List.mem_cons_self
  .have e':(a==t)=false:=by simpa using e2
   rw[e',cond_false]at h;exact aq _ (ih h)
theorem Oc{q q':Rg}{d:Option Nat}(h:Fi q d=some q'):q'.kn=q.kn/\(∀t y,bv q'.cd t=some y->d≠some t/\bv q.cd t=some y/\d≠some y.1)/\∀g b,GX q.kn g=some b->d≠some g:=by
 cases d with
 |none=>obtain rfl:=aa h;exact⟨rfl,fun t y hy=>⟨by simp,hy,by simp⟩,fun _ _ _=>by simp⟩
 |some d=>
  simp only[Fi]at h;cases hc:(q.cd.any (fun e=>e.2.1==d)||q.kn.any (fun e=>e.1==d))with
  |true=>rw[hc]at h;simp at h
  |false=>
   rw[hc,cond_false]at h;obtain rfl:=aa h;simp only[Bool.or_eq_false_iff,List.any_eq_false,beq_iff_eq]at hc;refine⟨rfl,fun t y hy=>?_,fun g b hg e=>?_⟩
   .obtain ⟨h1,h2⟩:=yb hy;exact⟨fun e=>h1 (aa e).symm,h2,fun e=>hc.1 _ (p7 h2) (aa e).symm⟩
   .exact hc.2 _ (p7 hg) (aa e).symm
theorem v5{s:S2}{d:Option Nat}{v:V}(t:Nat):bv (mV s d v).bS t=if d=some t then some v else bv s.bS t:=by
 cases d with
 |none=>simp[mV]
 |some d=>
  simp only[mV,bv];by_cases h:d=t
  .simp [h]
  .have h':(d==t)=false:=by simpa using h
   simp[h,h']
theorem kU{s:S2}{d:Option Nat}{v:V}:(mV s d v).heap=s.heap/\(mV s d v).next=s.next/\(mV s d v).gh=s.gh/\(mV s d v).wo=s.wo:=by cases d<;>exact⟨rfl,rfl,rfl,rfl⟩
theorem lQ.jQ{s1:St}{s s':S2}{q q':Rg}(hr:lQ s1 s q){x:TV}{u:de}{aj:List Nat}{m:Nat}{v:V}{l:List Nat}(hd:Se s s' s1.heap x u aj m v l){d:Option Nat}(hq:Fi q d=some q'):
  lQ ⟨put s1.bS d x,u++s1.heap,m,s1.gh⟩ (mV s' d v) q':=by
 obtain⟨c1,c2,c3⟩:=Oc hq;obtain⟨p1,p2,p3,p4⟩:=kU (s:=s') (d:=d) (v:=v);refine⟨⟨fun t w ht=>?_,by rw[p1,p2];exact hd.hr,by rw[p2];exact hd.m,?_⟩,fun g b hg=>?_,fun t g b w ht=>?_⟩
 .rw [v5]at ht;rw[p1,p2];show _/\(_->∃y,bv (put s1.bS d x) t=some y/\_);rw[gT];split at ht
  .rename_i e;obtain rfl:=aa ht;rw[if_pos e];exact⟨hd.JI,fun _=>⟨x,rfl,hd.val⟩⟩
  .rename_i e;rw[if_neg e];rw[hd.bS]at ht;obtain⟨h1,h2⟩:=hr.r.bS t w ht;refine⟨WI hd.le hd.c9 h1,fun ha=>?_⟩;obtain⟨y,h3,h4⟩:=h2 (ha.imp (ot hd.c9 hd.nb h1) id);exact⟨y,h3,nJ hd.c9 h1 h4⟩
 .rw [p3,p1,p2,hd.gh];exact⟨vX hd.c9 hd.nb hr.r.gh.2 hr.r.gh.1,WI hd.le hd.c9 hr.r.gh.2⟩
 .rw [c1]at hg;show bv (put s1.bS d x) g=_;rw[gT,if_neg (c3 g b hg)];exact hr.kn g b hg
 .obtain ⟨e1,e2,e3⟩:=c2 t _ ht;obtain⟨c,h1,h2⟩:=hr.cd t g b w e2;show∃c,bv (put s1.bS d x) g=_/\(c=b->∃y,bv (put s1.bS d x) t=some y/\_);rw[gT,gT,if_neg e3,if_neg e1,p1,p2];refine⟨c,h1,fun e=>?_⟩;obtain⟨y,h3,h4,h5⟩:=h2 e;exact⟨y,h3,nJ hd.c9 h5 h4,WI hd.le hd.c9 h5⟩
theorem yo{s1:St}{s:S2}{q:Rg}(hr:lQ s1 s q):Se s s s1.heap (.fm []) [] [] s.next .no []:=Se.pure hr.r.hr rfl trivial fun i hi=>by simp at hi
theorem lQ.HX{s1:St}{s:S2}{q q':Rg}(hr:lQ s1 s q){d g:Nat}{b c:Bool}{v:V}{x:TV}{m:Nat}(hm:m<=s.next)(hq:Fi q (some d)=some q')(hg:bv s1.bS g=some (tB c))(hgd:g≠d)
  (hx:c=b->dD s.heap v x/\cX s.next s.heap v):lQ ⟨put s1.bS (some d) x,s1.heap,m,s1.gh⟩ (mV s (some d) .gn) ⟨q'.kn,(d,g,b,v)::q'.cd⟩:=by
 obtain⟨c1,c2,c3⟩:=Oc hq;refine⟨⟨fun t w ht=>?_,hr.r.hr,hm,hr.r.gh⟩,fun g' b' hg'=>?_,fun t g' b' w ht=>?_⟩
 .rw [v5]at ht;show _/\(_->∃y,bv (put s1.bS (some d) x) t=some y/\_);rw[gT];split at ht
  .obtain rfl:=aa ht;exact⟨trivial,fun h=>by rcases h with h|h<;>simp[eT,mV]at h⟩
  .rename_i e;rw[if_neg e];exact hr.r.bS t w ht
 .rw [show(⟨q'.kn,(d,g,b,v)::q'.cd⟩:Rg).kn=q.kn from c1]at hg';show bv (put s1.bS (some d) x) g'=_;rw[gT,if_neg (c3 g' b' hg')];exact hr.kn g' b' hg'
 .show ∃c,bv (put s1.bS (some d) x) g'=_/\(c=b'->∃y,bv (put s1.bS (some d) x) t=some y/\_);simp only[bv]at ht;rw[gT,gT];by_cases e:d=t
  .subst e;obtain⟨rfl,rfl,rfl⟩:g=g'/\b=b'/\v=w:=by simpa using ht
   rw[if_pos rfl,if_neg (by simpa using Ne.symm hgd)];exact⟨c,hg,fun e=>⟨x,rfl,hx e⟩⟩
  .have e':(d==t)=false:=by simpa using e
   rw[e',cond_false]at ht;obtain⟨_,e2,e3⟩:=c2 t _ ht;obtain⟨c',h1,h2⟩:=hr.cd t g' b' w e2;rw[if_neg e3,if_neg (by simpa using e)];exact⟨c',h1,h2⟩
def JP(e:fN)(gd:Option (Nat×Bool)):GV->Prop
 |.run=>gb e gd=some true/\∀g b,gd=some (g,b)->bv e g=some (tB b)
 |.skip=>gb e gd=some false
 |.HX g b c=>gd=some (g,b)/\bv e g=some (tB c)
theorem jN{e:fN}{g:Nat}{b c:Bool}(h:bv e g=some (tB c)):gb e (some (g,b))=some (c==b):=by simp only[gb,h,tB]
theorem CY{e:fN}{g:Nat}{b c:Bool}(h:bv e g=some (tB c)):JP e (some (g,b)) (bif c==b then .run else .skip):=by
 have hw:=jN (b:=b) h;cases hc:(c==b)with
 |true=>
  rw[hc]at hw;refine⟨hw,fun g' b' e'=>?_⟩;obtain⟨rfl,rfl⟩:=ad (aa e');obtain rfl:c=b:=by simpa using hc
  exact h
 |false=>rw[hc]at hw;exact hw
theorem qY{s1:St}{s:S2}{q:Rg}(hr:lQ s1 s q){gd:Option (Nat×Bool)}{r:GV}(h:Js s.bS q.kn gd=some r):JP s1.bS gd r:=by
 unfold Js at h;split at h
 .obtain rfl:=aa h;exact⟨rfl,fun _ _ e=>by simp at e⟩
 .rename_i g b;split at h
  .rename_i c hk;obtain rfl:=aa h;exact CY (hr.kn g c hk)
  .split at h
   .rename_i c he;obtain rfl:=aa h;obtain⟨x,h1,h2⟩:=(hr.r.bS g _ he).2 (.inl rfl);rw[oH h2]at h1;exact CY h1
   .rename_i c he;obtain rfl:=aa h;obtain⟨x,h1,h2⟩:=(hr.r.bS g _ he).2 (.inl rfl);rw[yX h2]at h1;exact⟨rfl,h1⟩
   .rename_i he;obtain rfl:=aa h;obtain⟨x,h1,h2⟩:=(hr.r.bS g _ he).2 (.inr rfl);rw[show x=.fm []from h2]at h1;show gb s1.bS _=_;simp only[gb,h1]
   .simp at h
structure pG(ds w:List Nat)(s1 s1':St)(s s':S2):Prop where
 le:s.next<=s'.next
 c9:fF s.next s.heap s'.heap
 gl:s1'.gh.length=s1.gh.length
 ob:∀i,i<s.next->i∉w->fO s'.heap i=fO s.heap i/\∀o,fO s.heap i=some o->∀g,KB g o (ak s1.heap i)->KB g o (ak s1'.heap i)
 bS:∀t x,t∉ds->bv s1.bS t=some x->(∀i∈Rz x,i<s.next/\i∉w/\fO s.heap i≠none)->bv s1'.bS t=some x
def Fr(ds:List Nat)(s1 s1':St)(s s':S2):Prop:=∃w,s'.wo=w++s.wo/\pG ds w s1 s1' s s'
theorem pG.next{ds w:List Nat}{s1:St}{s:S2}{n m:Nat}(hn:s.next<=n):pG ds w s1 {s1 with next:=m} s {s with next:=n}:=⟨hn,fF.refl _ _,rfl,fun _ _ _=>⟨rfl,fun _ _ _ h=>h⟩,fun _ _ _ h _=>h⟩
theorem pG.trans{ds w w':List Nat}{s1 s2 s3:St}{s s' s'':S2}(a:pG ds w s1 s2 s s')(b:pG ds w' s2 s3 s' s''):pG ds (w'++w) s1 s3 s s'':=by
 refine⟨cZ a.le b.le,a.c9.trans a.le b.c9,b.gl.trans a.gl,fun i hi hw=>?_,fun t x ht hx hc=>?_⟩
 .simp only[ah,not_or]at hw;obtain⟨h1,h2⟩:=a.ob i hi hw.2;obtain⟨h3,h4⟩:=b.ob i (ct hi a.le) hw.1;exact⟨h3.trans h1,fun o ho g hg=>h4 o (h1.trans ho) g (h2 o ho g hg)⟩
 .refine b.bS t x ht (a.bS t x ht hx fun i hi=>?_) fun i hi=>?_
  .obtain ⟨h1,h2,h3⟩:=hc i hi;simp only[ah,not_or]at h2;exact⟨h1,h2.2,h3⟩
  .obtain ⟨h1,h2,h3⟩:=hc i hi;simp only[ah,not_or]at h2;exact⟨ct h1 a.le,h2.1,by rw[(a.ob i h1 h2.2).1];exact h3⟩
theorem pG.mono{ds ds' w w':List Nat}{s1 s2:St}{s s':S2}(a:pG ds w s1 s2 s s')(hd:∀t∈ds,t∈ds')(hw:∀i∈w,i∈w'):pG ds' w' s1 s2 s s':=⟨a.le,a.c9,a.gl,fun i hi h=>a.ob i hi fun q=>h (hw i q),fun t x ht hx hc=>a.bS t x (fun q=>ht (hd t q)) hx fun i hi=>⟨(hc i hi).1,fun q=>(hc i hi).2.1 (hw i q),(hc i hi).2.2⟩⟩
theorem Fr.refl{ds:List Nat}{s1:St}{s:S2}:Fr ds s1 s1 s s:=⟨[],rfl,pG.next (ai _)⟩
theorem Fr.trans{ds:List Nat}{s1 s2 s3:St}{s s' s'':S2}(a:Fr ds s1 s2 s s')(b:Fr ds s2 s3 s' s''):Fr ds s1 s3 s s'':=by obtain⟨w,h1,h2⟩:=a;obtain⟨w',h3,h4⟩:=b;exact⟨w'++w,by rw[h3,h1,aI],h2.trans h4⟩
theorem Fr.mono{ds ds':List Nat}{s1 s2:St}{s s':S2}(a:Fr ds s1 s2 s s')(hd:∀t∈ds,t∈ds'):Fr ds' s1 s2 s s':=let⟨w,h1,h2⟩:=a;⟨w,h1,h2.mono hd fun _ h=>h⟩
theorem Fr.IB{s1:St}{s s':S2}{x:TV}{u:de}{aj:List Nat}{m:Nat}{v v':V}{l:List Nat}(hd:Se s s' s1.heap x u aj m v l)(d:Option Nat):Fr d.toList s1 ⟨put s1.bS d x,u++s1.heap,m,s1.gh⟩ s (mV s' d v'):=by
 obtain⟨w,h1,h2,h3⟩:=hd.wo;obtain⟨p1,p2,p3,p4⟩:=kU (s:=s') (d:=d) (v:=v');refine⟨w,p4.trans h1,by rw[p2];exact hd.le,by rw[p1];exact hd.c9,rfl,fun i hi hw=>⟨by rw[p1];exact h3 i hw,fun o ho g hg=>?_⟩,fun t y ht hy _=>?_⟩
 .show KB g o (ak (u++s1.heap) i);rw[oV (u:=u) (i:=i) fun p hp e=>hw (e▸h2 p hp)];exact hg
 .show bv (put s1.bS d x) t=_;rw[gT,if_neg fun e=>ht (by simp[e])];exact hy
def DS(P:Program)(o:iX)(s1:St)(s s':S2)(q':Rg)(t:List Nat×List Nat):Prop:=
 (gb s1.bS o.guard=some true/\∃call x u aj m,fB P call/\bD call o.k (o.args.map (L9 s1.bS)) s1.heap s.next=some (x,u,aj,m)/\(∀i∈aj,i∈t.1)/\(∀p∈u,p.1∈t.2)/\
  lQ ⟨put s1.bS o.dst x,u++s1.heap,m,s1.gh⟩ s' q'/\Fr o.dst.toList s1 ⟨put s1.bS o.dst x,u++s1.heap,m,s1.gh⟩ s s')\/
 (gb s1.bS o.guard=some false/\lQ ⟨drop s1.bS o.dst,s1.heap,s.next,s1.gh⟩ s' q'/\Fr o.dst.toList s1 ⟨drop s1.bS o.dst,s1.heap,s.next,s1.gh⟩ s s')
section
variable{P:Program}{β:Type}{tb:wK}{dr:Option Nat}{o:OP}{r:List OP}{i:Nat}{s1:St}{s s0:S2}{q:Rg}{tr:Bw}{k:S2->Bw->Option β}{z:β}
theorem t6(htb:ke P tb)(hg:Mi)(hr:lQ s1 s q)(hw:gb s1.bS o.o.guard=some true)(hgc:∀g b,o.o.guard=some (g,b)->bv s1.bS g=some (tB b))
  (hz:(IU tb o s q o.o.guard fun v s1 l=>
   bif AO dr i s1 then(match Fi q o.o.dst with
    |some q=>iM tb dr r (i+1) (mV s1 o.o.dst v) q (tr++[(l,s1.wo.take (s1.wo.length-s.wo.length))]) k
    |none=>none)else none)=some z):
  ∃s' q' t,iM tb dr r (i+1) s' q' (tr++[t]) k=some z/\AO dr i s'=true/\DS P o.o s1 s s' q' t:=by
 obtain⟨v,s',l,h1,call,hc,x,u,aj,m,h2,hd⟩:=Df htb hg hr hgc hz;obtain⟨hb,h1⟩:=aD h1;split at h1
 .rename_i q' hq;refine⟨_,_,_,h1,?_,.inl ⟨hw,call,x,u,aj,m,hc,h2,hd.aj,fun p hp=>?_,hr.jQ hd hq,Fr.IB hd _⟩⟩
  .unfold AO at hb|-;rw[kU.2.1];exact hb
  .obtain ⟨w,h3,h4,_⟩:=hd.wo;have:=h4 p hp;show p.1∈s'.wo.take (s'.wo.length-s.wo.length);rw[h3];simpa using this
 .simp at h1
theorem tQ(hr:lQ s1 s q)(hb:AO dr i s=true)(hw:gb s1.bS o.o.guard=some false)
  (hz:(match Fi q o.o.dst with|some q=>iM tb dr r (i+1) (mV s o.o.dst .no) q (tr++[([],[])]) k|none=>none)=some z):
  ∃s' q' t,iM tb dr r (i+1) s' q' (tr++[t]) k=some z/\AO dr i s'=true/\DS P o.o s1 s s' q' t:=by
 split at hz
 .rename_i q' hq;refine⟨_,_,_,hz,?_,.inr ⟨hw,?_⟩⟩
  .unfold AO at hb|-;rw[kU.2.1];exact hb
  .exact ⟨hr.jQ (yo hr) hq,Fr.IB (yo hr) _⟩
 .simp at hz
theorem DH{α:Type}{c:Bool}{x:Option α}{y:α}(h:(bif c then none else x)=some y):x=some y:=by cases c with|true=>simp at h|false=>exact h
theorem vn(htb:ke P tb)(hg:Mi)(hr:lQ s1 (DY dr i s0) q)(hb:AO dr i (DY dr i s0)=true)(hz:iM tb dr (o::r) i s0 q tr k=some z):
  ∃s' q' t,iM tb dr r (i+1) s' q' (tr++[t]) k=some z/\AO dr i s'=true/\DS P o.o s1 (DY dr i s0) s' q' t:=by
 simp only[iM]at hz;split at hz
 .simp at hz
 .rename_i hgd;obtain⟨h1,h2⟩:=qY hr hgd;exact t6 htb hg hr h1 h2 hz
 .rename_i hgd;exact tQ hr hb (qY hr hgd) hz
 .rename_i g b c hgd;obtain⟨h1,h2⟩:=qY hr hgd;split at hz
  .rename_i v l ht;have ht:=DH ht;split at hz
   .rename_i q' d hq hd;cases hgd2:Nat.beq g d with
    |true=>rw[hgd2]at hz;simp at hz
    |false=>
     rw[hgd2,cond_false]at hz;have hne:g≠d:=fun e=>by rw[e]at hgd2;simp at hgd2
     rw[hd]at hq;refine⟨_,_,_,hz,?_,?_⟩
     .unfold AO at hb|-;rw[kU.2.1];exact hb
     .by_cases hcb:c=b
      .subst hcb;obtain⟨x,aj,e1,e2,e3,e4⟩:=sj hg hr (gc:=some (g,c)) (fun g' b' e=>by obtain⟨rfl,rfl⟩:=ad (aa e);exact h2) ht kJ (DY dr i s0).next
       refine .inl ⟨by rw[h1,jN h2];simp,kJ,x,[],aj,_,kW,e1,e4,fun p hp=>by simp at hp,?_⟩;rw[hd];exact⟨hr.HX (ai _) hq h2 hne fun _=>⟨e2,e3⟩,Fr.IB (Se.pure hr.r.hr e2 e3 e4) _⟩
      .refine .inr ⟨by rw[h1,jN h2];simpa using hcb,?_⟩;rw[hd];exact⟨hr.HX (ai _) hq h2 hne fun e=>absurd e hcb,Fr.IB (yo hr) _⟩
   .simp at hz
  .have hkn:=hr.Jq h2;cases b with
   |true=>cases c with|true=>exact t6 htb hg hkn (by rw[h1,jN h2];rfl) (fun g' b' e=>by rw[h1]at e;obtain⟨rfl,rfl⟩:=ad (aa e);exact h2) hz|false=>exact tQ hkn hb (by rw[h1,jN h2];rfl) hz
   |false=>cases c with|true=>exact tQ hkn hb (by rw[h1,jN h2];rfl) hz|false=>exact t6 htb hg hkn (by rw[h1,jN h2];rfl) (fun g' b' e=>by rw[h1]at e;obtain⟨rfl,rfl⟩:=ad (aa e);exact h2) hz
theorem Ap(htb:ke P tb)(hg:Mi):∀(ops:List OP)(i:Nat)(s1:St)(s:S2)(q:Rg)(tr:Bw),iM tb none ops i s q tr k=some z->lQ s1 s q->
  WO P (ops.map (·.o)) s1 fun s1'=>∃s' tr',R2 s1' s'/\Fr (ops.filterMap (·.o.dst)) s1 s1' s s'/\k s' tr'=some z:=by
 intro ops;induction ops with
 |nil=>intro i s1 s q tr hz hr;exact wk.of ⟨s,tr,hr.r,Fr.refl,hz⟩
 |cons o r ih=>
  intro i s1 s q tr hz hr;have hsub:Sub s1 {s1 with next:=s.next}:=Sub.heap (fun _=>.inl rfl) hr.r.next;have hr1:lQ {s1 with next:=s.next} s q:=hr.nx (ai _);obtain⟨s',q',t,h1,_,h2⟩:=vn (dr:=none) (i:=i) htb hg (show lQ {s1 with next:=s.next} (DY none i s) q from hr1) rfl hz;simp only[am,WO];have hfs:∀t∈o.o.dst.toList,t∈(o::r).filterMap (·.o.dst):=fun t ht=>by rw[Option.mem_toList]at ht;exact QP.2 ⟨o,by simp,ht⟩
  have hrs:∀t∈r.filterMap (·.o.dst),t∈(o::r).filterMap (·.o.dst):=fun t ht=>by obtain⟨p,hp,hpt⟩:=QP.1 ht;exact QP.2 ⟨p,by simp[hp],hpt⟩
  have key:∀s2,Fr o.o.dst.toList {s1 with next:=s.next} s2 s s'->lQ s2 s' q'->WO P (r.map (·.o)) s2 fun s1'=>∃s' tr',R2 s1' s'/\Fr ((o::r).filterMap (·.o.dst)) s1 s1' s s'/\k s' tr'=some z:=by
   intro s2 hf hr2;refine WO.mono (fun s1'⟨s3,tr3,g1,g2,g3⟩=>⟨s3,tr3,g1,?_,g3⟩) (ih _ _ _ _ _ h1 hr2);have f0:Fr ((o::r).filterMap (·.o.dst)) s1 {s1 with next:=s.next} s s:=⟨[],rfl,pG.next (ai _)⟩
   exact(f0.trans (hf.mono hfs)).trans (g2.mono hrs)
  refine⟨_,hsub,?_⟩;rcases h2 with⟨hw,call,x,u,aj,m,hc,he,_,_,hr2,hf⟩|⟨hw,hr2,hf⟩
  .exact .inl ⟨hw,call,x,u,aj,m,hc,he,key _ hf hr2⟩
  .exact .inr ⟨hw,key _ hf hr2⟩
def ux:Tr->Bw->Prop
 |[],[]=>True
 |a::x,b::y=>(∀i∈a.1,i∈b.1)/\(∀i∈a.2,i∈b.2)/\ux x y
 |_,_=>False
theorem ux.H6:∀{x:Tr}{y:Bw}{a b:List Nat×List Nat},ux x y->(∀i∈a.1,i∈b.1)->(∀i∈a.2,i∈b.2)->ux (x++[a]) (y++[b]):=by
 intro x;induction x with
 |nil=>intro y a b h h1 h2;cases y with|nil=>exact⟨h1,h2,trivial⟩|cons=>exact h.elim
 |cons c x ih=>intro y a b h h1 h2;cases y with|nil=>exact h.elim|cons d y=>exact⟨h.1,h.2.1,ih h.2.2 h1 h2⟩
theorem ux.get:∀{x:Tr}{y:Bw}(i:Nat){a:List Nat×List Nat},ux x y->x[i]?=some a->∃b,y[i]?=some b/\(∀i∈a.1,i∈b.1)/\(∀i∈a.2,i∈b.2):=by
 intro x;induction x with
 |nil=>intro y i a _ h;simp at h
 |cons c x ih=>
  intro y i a hl h;cases y with
  |nil=>exact hl.elim
  |cons d y=>cases i with|zero=>obtain rfl:=aa h;exact⟨d,rfl,hl.1,hl.2.1⟩|succ i=>exact ih i hl.2.2 (by simpa using h)
theorem DM{a b c d:List Nat×List Nat}(h:Mh c d=true)(a1:∀i∈a.1,i∈c.1)(a2:∀i∈a.2,i∈c.2)(b1:∀i∈b.1,i∈d.1)(b2:∀i∈b.2,i∈d.2):Mh a b=true:=by simp only[Mh,ae,aL,dz,gS,decide_eq_false_iff_not]at h|-;exact⟨fun i hi=>⟨fun e=>(h.1 i (a2 i hi)).1 (b1 i e),fun e=>(h.1 i (a2 i hi)).2 (b2 i e)⟩,fun i hi e=>h.2 i (b2 i hi) (a1 i e)⟩
def DU(ops:List OP)(tr:Tr):Prop:=∀(j:Nat)(o:OP)(a:List Nat×List Nat),ops[j]?=some o->tr[j]?=some a->CS o.o.k=true->a.1.length<=1
theorem GP{c:Call}{k:K}{vs:List (Option TV)}{h:aY}{n:Nat}{x:TV}{u:de}{aj:List Nat}{m:Nat}(he:bD c k vs h n=some (x,u,aj,m))(hk:CS k=true):aj.length<=1:=by
 cases k<;>simp[CS]at hk;rename_i ka ks va zero ok;unfold bD at he;split at he<;>first|(simp at he;done)|skip
 all_goals first
  |(rename_i e;cases e;done)
  |skip
 rename_i e;cases e;split at he
 .rename_i v i hv;obtain⟨_,e⟩:=ad (aa he);obtain⟨_,e⟩:=ad e;obtain⟨rfl,_⟩:=ad e;unfold LR at hv;split at hv
  .split at hv
   .obtain ⟨_,rfl⟩:=ad (aa hv);simp
   .simp at hv
  .split at hv
   .split at hv
    .split at hv
     .split at hv
      .obtain ⟨_,rfl⟩:=ad (aa hv);simp
      .simp at hv
     .split at hv
      .obtain ⟨_,rfl⟩:=ad (aa hv);simp
      .simp at hv
     .simp at hv
    .simp at hv
   .simp at hv
  .simp at hv
 .simp at he
theorem Hm{ops:List OP}{x:Tr}{y:Bw}{dyn:List (Nat×Nat)}(hl:ux x y)(hk:DU ops x)(hd:Hn ops y dyn=true):rk x dyn=true:=by
 simp only[Hn,rk,aL]at hd|-;intro p hp;have hp2:=hd p hp;obtain⟨i,j⟩:=p;have key:∀(j':Nat)a b c d,x[i]?=some a->x[j']?=some b->y[i]?=some c->y[j']?=some d->Mh c d=true->Mh a b=true:=by intro j' a b c d ha hb hc hd h;obtain⟨c',h1,h2,h3⟩:=hl.get i ha;obtain⟨d',h4,h5,h6⟩:=hl.get j' hb;rw[hc]at h1;rw[hd]at h4;obtain rfl:=aa h1;obtain rfl:=aa h4;exact DM h h2 h3 h5 h6
 by_cases hj:1000<=j
 .have hb:fy 1000 j=true:=Nat.ble_eq_true_of_le hj;simp only[hb,cond_true]at hp2;simp only[hj,if_true,xe];split
  .rename_i a b ha hb;obtain⟨c,hc,c1,c2⟩:=hl.get i ha;obtain⟨d,hd,_,_⟩:=hl.get (j-1000) hb;rw[hc,hd]at hp2;simp only[Bool.or_eq_true]at hp2|-;rcases hp2 with hp2|hp2
   .exact .inl (key _ a b c d ha hb hc hd hp2)
   .unfold FI at hp2;split at hp2
    .rename_i o id ho hc2;rw[hc]at hc2;obtain rfl:=aa hc2;simp only[ae]at hp2;have hlen:=hk i o a ho ha hp2.1;obtain⟨a1,a2⟩:=a;obtain rfl:a2=[]:=List.eq_nil_iff_forall_not_mem.2 fun q hq=>by have:=c2 q hq;simp at this
     match a1,hlen,c1 with
     |[],_,_=>left;simp[Mh]
     |[q],_,c1=>
      obtain rfl:q=id:=by have:=c1 q (by simp);simpa using this
      right;refine aL.2 fun z hz=>?_;obtain⟨n,hn⟩:=List.getElem?_of_mem hz;rw[bi,cN]at hn;split at hn
      .rename_i hlt;obtain⟨z2,hz2,_,z3⟩:=hl.get _ hn;have hm:z2∈(y.take (j-1000)).drop (i+1):=by refine List.mem_of_getElem? (i:=n) ?_;rw[bi,cN,if_pos hlt];exact hz2
       have:=aL.1 hp2.2 z2 hm;simp only[dz,gS,decide_eq_false_iff_not]at this|-;exact fun q=>this (z3 _ q)
      .simp at hn
    .simp at hp2
  .rfl
 .have hb:fy 1000 j=false:=by cases h:fy 1000 j with|false=>rfl|true=>exact absurd (Nat.le_of_ble_eq_true h) hj
  simp only[hb,cond_false]at hp2;simp only[hj,if_false];split
  .rename_i a b ha hb;obtain⟨c,hc,_⟩:=hl.get i ha;obtain⟨d,hd,_⟩:=hl.get j hb;rw[hc,hd]at hp2;exact key _ a b c d ha hb hc hd hp2
  .rfl
theorem WD.mono{P:Program}{aF:Nat}{ops:List iX}{i:Nat}{e:fN}{h:aY}{tr:Tr}{Q Q':fN->aY->Tr->Prop}(hq:∀e h tr,Q e h tr->Q' e h tr)(hw:WD P aF ops i e h tr Q):WD P aF ops i e h tr Q':=let⟨calls,h1,e',h',tr',h2,h3⟩:=hw;⟨calls,h1,e',h',tr',h2,hq _ _ _ h3⟩
theorem Cy{ops:List OP}{tr:Tr}{o:OP}{t:List Nat×List Nat}(h:DU ops tr)(ho:ops[tr.length]?=some o)(ht:CS o.o.k=true->t.1.length<=1):DU ops (tr++[t]):=by
 intro j o' a hj ha hl;by_cases hlt:j<tr.length
 .rw [List.getElem?_append_left hlt]at ha;exact h j o' a hj ha hl
 .rw [List.getElem?_append_right (by omega)]at ha;have:j=tr.length:=by have:=(List.getElem?_eq_some_iff.1 ha).1;simp at this;omega
  subst this;rw[ho]at hj;obtain rfl:=aa hj;simp at ha;rw[<-ha];exact ht hl
theorem Aq(htb:ke P tb)(hg:Mi){b:Nat}(ops0:List OP):∀(ops:List OP)(i:Nat)(e:fN)(h:aY)(n:Nat)(gh:List C)(s:S2)(q:Rg)(tr:Bw)(tr1:Tr),iM tb (some b) ops i s q tr k=some z->lQ ⟨e,h,n,gh⟩ s q->s.next<=b+e9*i->ux tr1 tr->(∀j,ops[j]?=ops0[i+j]?)->tr1.length=i->DU ops0 tr1->
  WD P b (ops.map (·.o)) i e h tr1 fun e' h' tr1'=>∃s' tr' n',R2 ⟨e',h',n',gh⟩ s'/\Fr (ops.filterMap (·.o.dst)) ⟨e,h,n,gh⟩ ⟨e',h',n',gh⟩ s s'/\s'.next<=b+e9*(i+ops.length)/\ux tr1' tr'/\DU ops0 tr1'/\k s' tr'=some z:=by
 intro ops;induction ops with
 |nil=>intro i e h n gh s q tr tr1 hz hr hn ht _ _ hlk;exact IH ⟨s,tr,n,hr.r,Fr.refl,hn,ht,hlk,hz⟩
 |cons o r ih=>
  intro i e h n gh s q tr tr1 hz hr hn ht hops hlen1 hlk;have ho0:ops0[tr1.length]?=some o:=by have:=hops 0;rw[hlen1];simpa using this.symm
  have hops2:∀j,r[j]?=ops0[i+1+j]?:=fun j=>by have:=hops (j+1);rw[show i+1+j=i+(j+1)by omega,<-this];rfl
  have hr1:lQ ⟨e,h,n,gh⟩ (DY (some b) i s) q:=hr.mono hn;have hb:AO (some b) i (DY (some b) i s)=true:=by simpa[AO,DY]using Eo (aF:=b) (i:=i)
  obtain⟨s',q',t,h1,hb2,h2⟩:=vn (dr:=some b) htb hg hr1 hb hz;have hb3:s'.next<=b+e9*(i+1):=by simpa[AO]using hb2
  have hlen:i+(o::r).length=i+1+r.length:=by simp only[List.length_cons];omega
  rw[hlen];have hfs:∀t∈o.o.dst.toList,t∈(o::r).filterMap (·.o.dst):=fun t ht=>by rw[Option.mem_toList]at ht;exact QP.2 ⟨o,by simp,ht⟩
  have hrs:∀t∈r.filterMap (·.o.dst),t∈(o::r).filterMap (·.o.dst):=fun t ht=>by obtain⟨p,hp,hpt⟩:=QP.1 ht;exact QP.2 ⟨p,by simp[hp],hpt⟩
  have f0:Fr ((o::r).filterMap (·.o.dst)) ⟨e,h,n,gh⟩ ⟨e,h,n,gh⟩ s (DY (some b) i s):=⟨[],rfl,pG.next hn⟩
  rcases h2 with⟨hw,call,x,u,aj,m,hc,he,hi,hu,hr2,hf⟩|⟨hw,hr2,hf⟩
  .have hm:m<=b+e9*(i+1):=cZ hr2.r.next hb3;refine Dl hc ?_ (WD.mono (fun e' h' tr1'⟨s3,tr3,n3,g1,g2,g3⟩=>⟨s3,tr3,n3,g1,(f0.trans (hf.mono hfs)).trans (g2.mono hrs),g3⟩) (ih (i+1) _ _ _ _ _ _ _ (tr1++[(aj,u.map (·.1))]) h1 hr2 hb3 (ht.H6 hi fun j hj=>?_) hops2 (by simp[hlen1]) (Cy hlk ho0 fun hl=>GP he hl)))
   .simp only[uS,hw];have he':bD call o.o.k (o.o.args.map (L9 e)) h (b+e9*i)=some (x,u,aj,m):=he;rw[he'];exact HM hm
   .obtain ⟨p,hp,rfl⟩:=c8.1 hj;exact hu p hp
  .refine Dl kW ?_ (WD.mono (fun e' h' tr1'⟨s3,tr3,n3,g1,g2,g3⟩=>⟨s3,tr3,n3,g1,(f0.trans (hf.mono hfs)).trans (g2.mono hrs),g3⟩) (ih (i+1) _ _ _ _ _ _ _ (tr1++[([],[])]) h1 hr2 hb3 (ht.H6 (fun i hi=>by simp at hi) fun i hi=>by simp at hi) hops2 (by simp[hlen1]) (Cy hlk ho0 fun _=>Nat.zero_le _)));simp only[uS,hw]
end
def iW:C2->CC
 |.skip=>.skip
 |.Et ops none _=>.region (ops.map (·.o)) []
 |.Et ops (some dyn) _=>.drawn (ops.map (·.o)) dyn []
 |.seq a b _=>.seq (iW a) (iW b)
 |.cond c a b=>.cond c (iW a) (iW b)
 |.block id a=>.block id (iW a)
 |.loop _ _ a=>.loop [] (iW a)
 |.exit id=>.exit id
 |.ret=>.ret
 |.dL=>.dL
theorem FA{s1:St}{s s':S2}{id:Nat}(hz:HN s id=some s')(hr:R2 s1 s):∃s1',Sub s1 s1'/\R2 s1' s'/\Fr [] s1 s1' s s':=by
 unfold HN at hz;split at hz
 .rename_i t v m id2 ho;split at hz
  .rename_i u r ver ho2;split at hz
   .rename_i r' hr';obtain rfl:=aa hz;obtain⟨e,e2⟩:=bL hr';cases e;obtain rfl:r'=r:=e2;obtain⟨_,⟨d1,d2,d3⟩,hlen,hid2,hkk⟩:=hr.hr.ob id _ ho;obtain⟨_,⟨_,_,c3⟩,_⟩:=hr.hr.ob id2 _ ho2;obtain⟨k1,k2⟩:=hkk _ _ _ (.inl ho2);have hne:id2≠id:=fun e=>by rw[e,ho]at ho2;cases ho2
    cases v with
    |nil=>simp[Sl.l]at hlen
    |mk l=>
     have hlen:m<l.length:=hlen;have d3:=d3 l rfl
     have fin:∀(u:de),(∀p∈u,p.1=id\/p.1=id2)->ak (u++s1.heap) id=some (.nst (bn t) ((cT t l (some (m,id2))).set m (jx t r')))->Sub s1 ⟨s1.bS,u++s1.heap,s1.next,s1.gh⟩->
       ∃s1',Sub s1 s1'/\R2 s1' (cJ (cJ s id2 none) id (some (.rw t (.mk (l.set m r')) none)))/\Fr [] s1 s1' s (cJ (cJ s id2 none) id (some (.rw t (.mk (l.set m r')) none))):=by
      intro u hu hb hsub;have d:=(qz (aj:=[]) hr.hr ho ho2 hne (by simp[yY]) hu hb (fun i hi=>by simp at hi)).nx (q:=s1.next) hr.next;exact⟨_,hsub,((lQ.none hr).jQ d (d:=none) (q':=⟨[],[]⟩) rfl).r,Fr.IB d none (v':=.no)⟩
     have hl:(cT t l (some (m,id2)))[m]?=some (Ak id2 (gt l m)):=by simp only[cT];rw[List.getElem?_set_self (by rw[aH];exact hlen)]
     cases r' with
     |nil=>
      refine fin [] (fun p hp=>by simp at hp) ?_ (Sub.refl _);have:gt l m=.nil:=by have k1:true=(gt l m).QH:=k1;cases hg:gt l m with|nil=>rfl|mk=>rw[hg]at k1;cases k1
      rw[bc,d3,BQ (by rw[hl,this];rfl)]
     |mk rr=>
      have c3:=c3 rr rfl;refine fin [(id,some (.nst (bn t) ((cT t l (some (m,id2))).set m (jx t (.mk rr))))),(id2,none)] (fun p hp=>by simp at hp;rcases hp with rfl|rfl<;>simp) (by rw[aK,bX,if_pos rfl]) ?_;have:Ak id2 (gt l m)=.ku id2 (rr.map (aJ t)).length:=by have k1:false=(gt l m).QH:=k1;cases hg:gt l m with|nil=>rw[hg]at k1;cases k1|mk q=>have k2:rr.length=(gt l m).l.length:=k2;rw[hg]at k2;simp only[Ak,aH];rw[show rr.length=q.length from k2]
      exact w_ d3 (by rw[hl,this]) c3
   .simp at hz
  .simp at hz
 .obtain rfl:=aa hz;exact⟨s1,Sub.refl _,hr,Fr.refl⟩
theorem FB:∀(l:List Nat){s1:St}{s s':S2},uw l s=some s'->R2 s1 s->∃s1',Sub s1 s1'/\R2 s1' s'/\Fr [] s1 s1' s s':=by
 intro l;induction l with
 |nil=>intro s1 s s' hz hr;obtain rfl:=aa hz;exact⟨s1,Sub.refl _,hr,Fr.refl⟩
 |cons id l ih=>
  intro s1 s s' hz hr;simp only[uw]at hz;split at hz
  .rename_i s2 h2;obtain⟨t1,a1,a2,a3⟩:=FA h2 hr;obtain⟨t2,b1,b2,b3⟩:=ih hz a2;exact⟨t2,a1.trans b1,b2,a3.trans b3⟩
  .simp at hz
theorem vc{P:Program}{β:Type}{tb:wK}(htb:ke P tb)(hg:Mi){ops:List OP}{dr:Option (List (Nat×Nat))}{jn:Option J}{s1:St}{s:S2}{k:S2->Option β}{z:β}(hz:zH tb ops dr s k=some z)(hr:R2 s1 s):
  W P (iW (.Et ops dr jn)) s1 fun o s1'=>o=.normal/\∃s',R2 s1' s'/\Fr (ops.filterMap (·.o.dst)) s1 s1' s s'/\k s'=some z:=by
 have fin:∀{s1':St}{s':S2},R2 s1' s'->Fr (ops.filterMap (·.o.dst)) s1 s1' s s'->(HO s s').bind k=some z->
   wk (fun t=>kP.normal=kP.normal/\∃s',R2 t s'/\Fr (ops.filterMap (·.o.dst)) s1 t s s'/\k s'=some z) s1':=by
  intro s1' s' h1 h2 h3;obtain⟨s2,h4,h5⟩:=lh h3;obtain⟨t,a1,a2,a3⟩:=FB _ h4 h1;exact⟨t,a1,rfl,s2,a2,h2.trans (a3.mono fun i hi=>by simp at hi),h5⟩
 cases dr with
 |none=>refine Bz (WO.mono (fun s1'⟨s',tr',h1,h2,h3⟩=>fin h1 h2 h3) (Ap htb hg ops 0 s1 s _ [] hz (lQ.none hr)))
 |some dyn=>
  refine W.sub (s':={s1 with next:=s.next}) (Sub.heap (fun _=>.inl rfl) hr.next) (D4 (WD.mono (fun e' h' tr1 hq=>?_) (Aq htb hg ops ops 0 s1.bS s1.heap s1.next s1.gh s _ [] [] hz (lQ.none hr) (ff _ _) trivial (fun j=>by rw[bl]) rfl (fun j o a _ h=>by simp at h))));obtain⟨s',tr',n',h1,h2,h3,h4,hlk,h5⟩:=hq;obtain⟨h6,h7⟩:=aD h5;have hn:s'.next<=s.next+e9*ops.length:=by rw[bl]at h3;exact h3
  have hlen:s.next+e9*(ops.map (·.o)).length=s.next+e9*ops.length:=by rw[aH]
  rw[hlen];refine⟨Hm h4 hlk h6,fin ((h1.mono hn).nx (ai _)) ?_ h7⟩;obtain⟨w,e1,e2⟩:=h2;refine⟨w,e1,?_⟩;have a:pG (ops.filterMap (·.o.dst)) [] s1 ⟨s1.bS,s1.heap,s1.next,s1.gh⟩ s s:=pG.next (ai _);have b:pG (ops.filterMap (·.o.dst)) [] ⟨e',h',n',s1.gh⟩ ⟨e',h',s.next+e9*ops.length,s1.gh⟩ s' {s' with next:=s.next+e9*ops.length}:=pG.next hn;simpa using e2.trans b
theorem CW(l:List D):cR.iB (l.map C.d)=[]:=by induction l with|nil=>rfl|cons a l ih=>simp only[am,cR.iB,cR,bc];exact ih
theorem CX(a b:List C):cR.iB (a++b)=cR.iB a++cR.iB b:=by induction a with|nil=>rfl|cons c a ih=>simp only[aK,cR.iB,ih,aI]
theorem jh(c:C):cR.iB [c]=cR c:=by simp[cR.iB]
theorem wy{h:H2}{n:Nat}:∀{v:V}{cs:List C},cY h v cs->cX n h v->∀i∈cR.iB cs,i<n/\(eT h v=true->fO h i≠none):=by
 have ex:∀id,(match fO h id with|some _=>true|none=>false)=true->fO h id≠none:=by intro id ha e;rw[e]at ha;simp at ha
 intro v;induction v with
 |x t v=>rintro cs ⟨_,rfl⟩ _ i hi;rw[CW]at hi;simp at hi
 |kb c=>rintro cs rfl _ i hi;simp[cR.iB,cR]at hi
 |nl k=>rintro cs rfl _ i hi;simp[cR.iB,vF,cR]at hi
 |so id=>rintro cs ⟨c,rfl,_,hc⟩ hk i hi;rw[jh]at hi;obtain rfl:=hc i hi;refine⟨hk,fun ha e=>?_⟩;simp[eT,e]at ha
 |sr id=>rintro cs ⟨c,rfl,_,hc⟩ hk i hi;rw[jh]at hi;obtain rfl:=hc i hi;refine⟨hk,fun ha e=>?_⟩;simp[eT,e]at ha
 |sb id ver lo t r=>rintro cs ⟨c,rfl,_,hc⟩ hk i hi;rw[jh]at hi;obtain rfl:=hc i hi;refine⟨hk.1,fun ha e=>?_⟩;simp[eT,e]at ha
 |op id t p=>
  rintro cs rfl hk i hi;rw[jh]at hi;obtain rfl:i=id:=by simpa[cR]using hi
  exact⟨hk.1,ex _⟩
 |ep id m t p=>
  rintro cs rfl hk i hi;rw[jh]at hi;obtain rfl:i=id:=by simpa[cR]using hi
  exact⟨hk.1,ex _⟩
 |om id=>
  rintro cs rfl hk i hi;rw[jh]at hi;obtain rfl:i=id:=by simpa[cR]using hi
  exact⟨hk,ex _⟩
 |pt t v=>rintro cs ⟨_,rfl⟩ _ i hi;simp[cR.iB,cR]at hi
 |fn z f l ih=>intro cs hc hk i hi;cases z with|true=>obtain⟨ds,_,rfl⟩:=hc;simp[cR.iB,cR]at hi|false=>obtain⟨xs,h1,rfl⟩:=hc;rw[jh]at hi;exact ih h1 hk i (by simpa[cR]using hi)
 |rc l ih=>intro cs hc hk;exact ih hc hk
 |fl l=>
  rintro cs ⟨_,rfl⟩ _ i hi;have:db l=(l.map D.lit).map C.d:=by simp[db]
  rw[this,CW]at hi;simp at hi
 |ni=>rintro cs rfl _ i hi;simp[cR.iB]at hi
 |co a r iha ihr=>
  rintro cs ⟨x,y,rfl,h1,h2⟩ ⟨k1,k2⟩ i hi;rw[CX,ah]at hi;simp only[eT,ae];rcases hi with hi|hi
  .exact ⟨(iha h1 k1 i hi).1,fun ha=>(iha h1 k1 i hi).2 ha.1⟩
  .exact ⟨(ihr h2 k2 i hi).1,fun ha=>(ihr h2 k2 i hi).2 ha.2⟩
 |tp l=>intro cs hc;exact hc.elim
 |no=>intro cs hc;exact hc.elim
 |gn=>intro cs hc;exact hc.elim
theorem qi{h:H2}{n:Nat}{v:V}{x:TV}(hx:Yz h v x)(hk:cX n h v):∀i∈Rz x,i<n/\(eT h v=true->fO h i≠none):=by obtain⟨cs,h1,h2,h3⟩:=hx;intro i hi;refine wy h1 hk i ?_;cases ha:mu v with|true=>rw[h2 ha]at hi;exact hi|false=>obtain⟨c,rfl,rfl⟩:=h3 ha;rw[jh];exact hi
theorem BF{h:H2}{n:Nat}:∀{v:V}{xs:List TV},tu h v xs->cX n h v->∀i∈Rz.rW xs,i<n/\(eT h v=true->fO h i≠none):=by
 intro v;induction v with
 |ni=>rintro xs rfl _ i hi;simp[Rz.rW]at hi
 |co a r _ ihr=>
  rintro xs ⟨x,ys,rfl,h1,h2⟩ ⟨k1,k2⟩ i hi;simp only[Rz.rW,ah]at hi;simp only[eT,ae];rcases hi with hi|hi
  .exact ⟨(qi h1 k1 i hi).1,fun ha=>(qi h1 k1 i hi).2 ha.1⟩
  .exact ⟨(ihr h2 k2 i hi).1,fun ha=>(ihr h2 k2 i hi).2 ha.2⟩
 |_=>intro xs h;exact h.elim
theorem yW{h:H2}{n:Nat}{v:V}{x:TV}(hx:dD h v x)(hk:cX n h v):∀i∈Rz x,i<n/\(eT h v=true->fO h i≠none):=by cases v with|tp l=>obtain⟨xs,rfl,h2⟩:=hx;intro i hi;exact BF (v:=l) h2 hk i hi|no=>obtain rfl:=hx;intro i hi;simp[Rz,Rz.rW]at hi|gn=>exact hx.elim|_=>exact qi hx hk
mutual
def lV(M:Nat->Nat->Prop):C->C->Prop
 |.d x,y=>y=.d x
 |.da a i b c,y=>∃j,M i j/\y=.da a j b c
 |.ep i b c,y=>∃j,M i j/\y=.ep j b c
 |.op i b,y=>∃j,M i j/\y=.op j b
 |.om i,y=>∃j,M i j/\y=.om j
 |.jy f l,y=>∃m,jt M l m/\y=.jy f m
def jt(M:Nat->Nat->Prop):List C->List C->Prop
 |[],m=>m=[]
 |c::l,m=>∃d r,lV M c d/\jt M l r/\m=d::r
end
mutual
def wJ(M:Nat->Nat->Prop):TV->TV->Prop
 |.c x,y=>∃d,lV M x d/\y=.c d
 |.agg l,y=>∃m,jt M l m/\y=.agg m
 |.fm l,y=>∃m,se M l m/\y=.fm m
def se(M:Nat->Nat->Prop):List TV->List TV->Prop
 |[],m=>m=[]
 |c::l,m=>∃d r,wJ M c d/\se M l r/\m=d::r
end
section
variable{M:Nat->Nat->Prop}
theorem jt.d(l:List D):jt M (l.map .d) (l.map .d):=by induction l with|nil=>rfl|cons a l ih=>exact⟨_,_,rfl,ih,rfl⟩
theorem jt.H6{a b x y:List C}(h1:jt M a x)(h2:jt M b y):jt M (a++b) (x++y):=by induction a generalizing x with|nil=>obtain rfl:=h1;exact h2|cons c a ih=>obtain⟨d,r,h3,h4,rfl⟩:=h1;exact⟨d,r++y,h3,ih h4,rfl⟩
theorem jt.one{c d:C}(h:lV M c d):jt M [c] [d]:=⟨d,[],h,rfl,rfl⟩
mutual
theorem lV.cK:∀(c:C),(∀i∈cR c,M i i)->lV M c c
 |.d x,_=>rfl
 |.da a i b c,h=>⟨i,h i (by simp[cR]),rfl⟩
 |.ep i b c,h=>⟨i,h i (by simp[cR]),rfl⟩
 |.op i b,h=>⟨i,h i (by simp[cR]),rfl⟩
 |.om i,h=>⟨i,h i (by simp[cR]),rfl⟩
 |.jy f l,h=>⟨l,jt.cK l (fun i hi=>h i (by simpa[cR]using hi)),rfl⟩
theorem jt.cK:∀(l:List C),(∀i∈cR.iB l,M i i)->jt M l l
 |[],_=>rfl
 |c::l,h=>⟨c,l,lV.cK c (fun i hi=>h i (by simp[cR.iB,hi])),jt.cK l (fun i hi=>h i (by simp[cR.iB,hi])),rfl⟩
end
mutual
theorem wJ.cK:∀(x:TV),(∀i∈Rz x,M i i)->wJ M x x
 |.c x,h=>⟨x,lV.cK x h,rfl⟩
 |.agg l,h=>⟨l,jt.cK l h,rfl⟩
 |.fm l,h=>⟨l,se.cK l h,rfl⟩
theorem se.cK:∀(l:List TV),(∀i∈Rz.rW l,M i i)->se M l l
 |[],_=>rfl
 |c::l,h=>⟨c,l,wJ.cK c (fun i hi=>h i (by simp[Rz.rW,hi])),se.cK l (fun i hi=>h i (by simp[Rz.rW,hi])),rfl⟩
end
mutual
theorem lV.MW{i' i:Nat}(hm:M i' i):∀(c:C),(∀j∈cR c,j=i)->∃c',lV M c' c/\∀j∈cR c',j=i'
 |.d x,_=>⟨.d x,rfl,fun j hj=>by simp[cR]at hj⟩
 |.da a j b c,h=>by obtain rfl:=h j (by simp[cR]);exact⟨.da a i' b c,⟨_,hm,rfl⟩,fun j hj=>by simpa[cR]using hj⟩
 |.ep j b c,h=>by obtain rfl:=h j (by simp[cR]);exact⟨.ep i' b c,⟨_,hm,rfl⟩,fun j hj=>by simpa[cR]using hj⟩
 |.op j b,h=>by obtain rfl:=h j (by simp[cR]);exact⟨.op i' b,⟨_,hm,rfl⟩,fun j hj=>by simpa[cR]using hj⟩
 |.om j,h=>by obtain rfl:=h j (by simp[cR]);exact⟨.om i',⟨_,hm,rfl⟩,fun j hj=>by simpa[cR]using hj⟩
 |.jy f l,h=>by obtain⟨l',h1,h2⟩:=jt.MW hm l (fun j hj=>h j (by simpa[cR]using hj));exact⟨.jy f l',⟨l,h1,rfl⟩,fun j hj=>h2 j (by simpa[cR]using hj)⟩
theorem jt.MW{i' i:Nat}(hm:M i' i):∀(l:List C),(∀j∈cR.iB l,j=i)->∃l',jt M l' l/\∀j∈cR.iB l',j=i'
 |[],_=>⟨[],rfl,fun j hj=>by simp[cR.iB]at hj⟩
 |c::l,h=>by obtain⟨c',h1,h2⟩:=lV.MW hm c (fun j hj=>h j (by simp[cR.iB,hj]));obtain⟨l',h3,h4⟩:=jt.MW hm l (fun j hj=>h j (by simp[cR.iB,hj]));refine⟨c'::l',⟨c,l,h1,h3,rfl⟩,fun j hj=>?_⟩;simp only[cR.iB,ah]at hj;exact hj.elim (h2 j) (h4 j)
end
mutual
theorem lV.eq(B:Nat->Prop)(hM:∀i j,M i j->i=j\/B j):∀(c' c:C),lV M c' c->(∀i∈cR c,¬B i)->c'=c
 |.d x,c,h,_=>h.symm
 |.da a i b e,c,h,hb=>by
  obtain⟨j,h1,rfl⟩:=h;rcases hM i j h1 with rfl|q
  .rfl
  .exact absurd q (hb j (by simp[cR]))
 |.ep i b e,c,h,hb=>by
  obtain⟨j,h1,rfl⟩:=h;rcases hM i j h1 with rfl|q
  .rfl
  .exact absurd q (hb j (by simp[cR]))
 |.op i b,c,h,hb=>by
  obtain⟨j,h1,rfl⟩:=h;rcases hM i j h1 with rfl|q
  .rfl
  .exact absurd q (hb j (by simp[cR]))
 |.om i,c,h,hb=>by
  obtain⟨j,h1,rfl⟩:=h;rcases hM i j h1 with rfl|q
  .rfl
  .exact absurd q (hb j (by simp[cR]))
 |.jy f l,c,h,hb=>by obtain⟨m,h1,rfl⟩:=h;rw[jt.eq B hM l m h1 fun i hi=>hb i (by simpa[cR]using hi)]
theorem jt.eq(B:Nat->Prop)(hM:∀i j,M i j->i=j\/B j):∀(l' l:List C),jt M l' l->(∀i∈cR.iB l,¬B i)->l'=l
 |[],l,h,_=>h.symm
 |c::r,l,h,hb=>by obtain⟨d,m,h1,h2,rfl⟩:=h;rw[lV.eq B hM c d h1 fun i hi=>hb i (by simp[cR.iB,hi]),jt.eq B hM r m h2 fun i hi=>hb i (by simp[cR.iB,hi])]
end
theorem wJ.J3(B:Nat->Prop)(hM:∀i j,M i j->i=j\/B j){x' x:TV}(h:wJ M x' x)(hn:∀l,x'≠.fm l)(hb:∀i∈Rz x,¬B i):x'=x:=by cases x' with|c a=>obtain⟨d,h1,rfl⟩:=h;rw[lV.eq B hM a d h1 hb]|agg a=>obtain⟨d,h1,rfl⟩:=h;rw[jt.eq B hM a d h1 hb]|fm l=>exact absurd rfl (hn l)
theorem jt.len:∀{l m:List C},jt M l m->l.length=m.length
 |[],m,h=>by obtain rfl:=h;rfl
 |c::l,m,h=>by obtain⟨d,r,_,h2,rfl⟩:=h;simp[jt.len h2]
section
variable{S:Nat->Prop}{w:World}{Kn Kn':Nat->Prop}{φ φ':Nat->d_}
mutual
theorem lV.rc(hM:∀i j,M i j->Kn j->Kn' i/\φ' i=φ j):∀(c' c:C)(v:Value),lV M c' c->RC S w Kn φ c v->RC S w Kn' φ' c' v
 |.d x,c,v,h,hr=>by obtain rfl:=h;cases hr with|d hd=>exact .d hd
 |.da a i b e,c,v,h,hr=>by obtain⟨j,h1,rfl⟩:=h;obtain⟨cap,addr,rfl,rfl,hk,hcap,haddr,hext,hcl⟩:=hr.gk;obtain⟨e2,e1⟩:=hM i j h1 hk;have:=RC.da (S:=S) (w:=w) (Kn:=Kn') (φ:=φ') (id:=i) (off:=b) (len:=e) (cap:=cap) (addr:=addr) e2 hcap (by rw[e1];exact haddr) (by rw[e1];exact hext) (by rw[e1];exact hcl);rw[e1]at this;exact this
 |.ep i b e,c,v,h,hr=>by obtain⟨j,h1,rfl⟩:=h;cases hr with|ep hk=>obtain⟨e2,e1⟩:=hM i j h1 hk;have:=RC.ep (S:=S) (w:=w) (Kn:=Kn') (φ:=φ') (id:=i) (cU:=b) (off:=e) e2;rw[e1]at this;exact this
 |.op i b,c,v,h,hr=>by obtain⟨j,h1,rfl⟩:=h;cases hr with|op hk=>obtain⟨e2,e1⟩:=hM i j h1 hk;have:=RC.op (S:=S) (w:=w) (Kn:=Kn') (φ:=φ') (id:=i) (off:=b) e2;rw[e1]at this;exact this
 |.om i,c,v,h,hr=>by obtain⟨j,h1,rfl⟩:=h;cases hr with|om hk=>obtain⟨e2,e1⟩:=hM i j h1 hk;have:=RC.om (S:=S) (w:=w) (Kn:=Kn') (φ:=φ') (id:=i) e2;rw[e1]at this;exact this
 |.jy f l,c,v,h,hr=>by obtain⟨m,h1,rfl⟩:=h;cases hr with|jy hlen hrc=>exact .jy ((jt.len h1).trans hlen) (jt.rc hM l m _ h1 hrc)
theorem jt.rc(hM:∀i j,M i j->Kn j->Kn' i/\φ' i=φ j):∀(l' l:List C)(f:Nat->Value),jt M l' l->(∀(i:Nat)(x:C),l[i]?=some x->RC S w Kn φ x (f i))->∀(i:Nat)(x:C),l'[i]?=some x->RC S w Kn' φ' x (f i)
 |[],l,f,h,_=>fun i x hi=>by simp at hi
 |c::r,l,f,h,hr=>by
  obtain⟨d,m,h1,h2,rfl⟩:=h;intro i x hi;cases i with
  |zero=>
   obtain rfl:c=x:=by simpa using hi
   exact lV.rc hM c d _ h1 (hr 0 d rfl)
  |succ i=>exact jt.rc hM r m (fun i=>f (i+1)) h2 (fun i x hi=>hr (i+1) x (by simpa using hi)) i x (by simpa using hi)
end
mutual
theorem wJ.rc(hM:∀i j,M i j->Kn j->Kn' i/\φ' i=φ j):∀(x' x:TV)(v:Value),wJ M x' x->dH S w Kn φ x v->dH S w Kn' φ' x' v
 |.c a,x,v,h,hr=>by obtain⟨d,h1,rfl⟩:=h;cases hr with|c hr=>exact .c (lV.rc hM a d v h1 hr)
 |.agg a,x,v,h,hr=>by obtain⟨d,h1,rfl⟩:=h;cases hr with|agg hlen hr=>exact .agg ((jt.len h1).trans hlen) (jt.rc hM a d _ h1 hr)
 |.fm a,x,v,h,hr=>by obtain⟨d,h1,rfl⟩:=h;cases hr with|fm hlen hr=>obtain⟨e1,e2⟩:=se.rc hM a d _ h1 hr;exact .fm (e1.trans hlen) e2
theorem se.rc(hM:∀i j,M i j->Kn j->Kn' i/\φ' i=φ j):∀(l' l:List TV)(f:Nat->Value),se M l' l->(∀(i:Nat)(x:TV),l[i]?=some x->dH S w Kn φ x (f i))->l'.length=l.length/\∀(i:Nat)(x:TV),l'[i]?=some x->dH S w Kn' φ' x (f i)
 |[],l,f,h,_=>by obtain rfl:=h;exact⟨rfl,fun i x hi=>by simp at hi⟩
 |c::r,l,f,h,hr=>by
  obtain⟨d,m,h1,h2,rfl⟩:=h;obtain⟨e1,e2⟩:=se.rc hM r m (fun i=>f (i+1)) h2 (fun i x hi=>hr (i+1) x (by simpa using hi));refine⟨by simp[e1],fun i x hi=>?_⟩;cases i with
  |zero=>
   obtain rfl:c=x:=by simpa using hi
   exact wJ.rc hM c d _ h1 (hr 0 d rfl)
  |succ i=>exact e2 i x (by simpa using hi)
end
end
end
theorem Do{s1 s1':St}{s:S2}(hr:R2 s1 s){t id ver lo v0:Nat}{u u0:Ty}{x:Sl (El u)}{s0:Sl (El u0)}(hid:id<s.next)(he:∀t',t'≠t->bv s1'.bS t'=bv s1.bS t')(ht1:bv s1'.bS t=some (.c (ij (bn u) (aJ u) s.next x)))
  (hh:∀i,i≠id->i≠s.next->ak s1'.heap i=ak s1.heap i) (hn:∀g,KB g (.ar u x 0) (ak s1'.heap s.next)) (hnx:s1'.next<=s.next+1) (hgh:s1'.gh=s1.gh) (hte:∀x0,bv s1.bS t=some x0->id∉Rz x0->bv s1'.bS t=some x0):
  R2 s1' ⟨(t,.so s.next)::s.bS,(s.next,some (.ar u x 0))::(id,none)::s.heap,s.next+1,s.next::id::s.wo,s.gh⟩/\
  Fr [] s1 s1' s ⟨(t,.so s.next)::s.bS,(s.next,some (.ar u x 0))::(id,none)::s.heap,s.next+1,s.next::id::s.wo,s.gh⟩:=by
 have hfo:∀i,fO ((s.next,some (.ar u x 0))::(id,none)::s.heap) i=if s.next=i then some (.ar u x 0)else if id=i then none else fO s.heap i:=fun i=>by rw[bI,bI]
 have c9:fF s.next s.heap ((s.next,some (.ar u x 0))::(id,none)::s.heap):=⟨fun i o' hi ho=>by
  rw[hfo,if_neg (by omega)]at ho;split at ho
  .simp at ho
  .exact .inl ⟨o',ho,lW.refl _⟩⟩
 have hnb:∀i,i<s.next->fO s.heap i=none->fO ((s.next,some (.ar u x 0))::(id,none)::s.heap) i=none:=fun i hi h=>by
  rw[hfo,if_neg (by omega)];split
  .rfl
  .exact h
 refine⟨⟨fun t' v ht'=>?_,⟨fun i o ho=>?_⟩,hnx,?_⟩,?_⟩
 .simp only[bv]at ht';by_cases e:t=t'
  .subst e;have e':(t==t)=true:=by simp
   rw[e',cond_true]at ht';obtain rfl:=aa ht';exact⟨aN _,fun _=>⟨_,ht1,oT⟩⟩
  .have e':(t==t')=false:=by simpa using e
   rw[e',cond_false]at ht';obtain⟨h1,h2⟩:=hr.bS t' v ht';refine⟨WI (a_ _) c9 h1,fun ha=>?_⟩;obtain⟨y,h3,h4⟩:=h2 (ha.imp (ot c9 hnb h1) fun q=>q);exact⟨y,(he t' fun q=>e q.symm).trans h3,nJ c9 h1 h4⟩
 .have ho':=ho;rw[hfo]at ho;split at ho
  .rename_i e;subst e;obtain rfl:=aa ho;exact⟨aN _,hn _,trivial⟩
  .rename_i e;split at ho
   .simp at ho
   .rename_i e2;obtain⟨h1,h2,h3⟩:=hr.hr.ob i o ho;rw[hh i (fun q=>e2 q.symm) (fun q=>e q.symm)];exact⟨Nat.lt_succ_of_lt h1,jV c9 h3 h2,jf (a_ _) c9 h3⟩
 .rw [hgh];exact⟨vX c9 hnb hr.gh.2 hr.gh.1,WI (a_ _) c9 hr.gh.2⟩
 .refine ⟨[s.next,id],rfl,a_ _,c9,by rw[hgh],fun i hi hw=>?_,fun t' y _ hy hk=>?_⟩
  .simp only[aE,List.not_mem_nil,or_false,not_or]at hw;refine⟨?_,fun o _ g hg=>by rw[hh i hw.2 hw.1];exact hg⟩;show fO ((s.next,some (.ar u x 0))::(id,none)::s.heap) i=_;rw[hfo,if_neg fun q=>hw.1 q.symm,if_neg fun q=>hw.2 q.symm]
  .by_cases e:t'=t
   .subst e;exact hte y hy fun q=>(hk id q).2.1 (by simp)
   .rw [he t' e];exact hy
theorem Fa{s1:St}{s:S2}(hr:R2 s1 s){t id ver lo v0:Nat}{u u0:Ty}{x:Sl (El u)}{s0:Sl (El u0)}(ht:bv s.bS t=some (.sb id ver lo u x))(ho:fO s.heap id=some (.ar u0 s0 v0))(hd:L_ u=true)(hv:(v0==ver)=true):
  ∃s1',Sub s1 s1'/\R2 s1' ⟨(t,.so s.next)::s.bS,(s.next,some (.ar u x 0))::(id,none)::s.heap,s.next+1,s.next::id::s.wo,s.gh⟩/\
   Fr [] s1 s1' s ⟨(t,.so s.next)::s.bS,(s.next,some (.ar u x 0))::(id,none)::s.heap,s.next+1,s.next::id::s.wo,s.gh⟩:=by
 obtain⟨hk,hx⟩:=hr.bS t _ ht;have ha:eT s.heap (.sb id ver lo u x)=true:=by simp only[eT,ho,hd,hv,Bool.and_self]
 obtain⟨y,hy,hty⟩:=hx (.inl ha);obtain rfl:=kF hty ha;obtain⟨hid,hk2⟩:=hk;obtain⟨_,hcut⟩:=hk2 u0 s0 v0 (.inl ho);obtain⟨hsz,hcut⟩:=hcut (by simpa using hv);obtain⟨hd0,hs0,hlk⟩:=(hr.hr.ob id _ ho).2.1;have hne:id≠s.next:=Nat.ne_of_lt hid;cases s0 with
 |nil=>cases x with|mk l=>exact hcut.elim|nil=>refine⟨{s1 with next:=s.next},Sub.heap (fun _=>.inl rfl) hr.next,Do (v0:=0) (ver:=0) (lo:=0) (u0:=u) (s0:=.nil) hr hid (fun _ _=>rfl) hy (fun _ _ _=>rfl) (fun g=>⟨hd,hsz▸hs0,fun l e=>by cases e⟩) (a_ _) rfl fun x0 h0 _=>h0⟩
 |mk l0=>
  cases x with
  |nil=>exact hcut.elim
  |mk l=>
   obtain⟨h1,h2⟩:=hcut;have hlk:=hlk l0 rfl;have hsub:=Ed (n:=s.next) (gh:=s1.gh) (rows':=l.map (aJ u)) hy hlk (by rw[aH];exact h2) (by rw[aH,aH];exact h1);refine⟨_,Sub.trans (Sub.heap (fun _=>.inl rfl) hr.next) hsub,Do (v0:=0) (ver:=0) (lo:=0) (u0:=u) (s0:=.nil) hr hid (fun t' ht'=>?_) ?_ (fun i h3 h4=>?_) (fun g=>⟨hd,hsz▸hs0,fun l' e=>?_⟩) (ai _) rfl fun x0 h0 h3=>?_⟩
   .have e':(t==t')=false:=by simpa using fun q:t=t'=>ht' q.symm
    simp only[bv,e',cond_false]
   .simp only[bv,ij];simp
   .simp only[bX];rw[if_neg fun q=>h3 q.symm,if_neg fun q=>h4 q.symm]
   .cases e;simp only[bX];rw[if_neg hne];simp
   .rw [hy]at h0;obtain rfl:=aa h0;exact absurd (by simp[Rz,qq,cR]) h3
theorem sW:∀(vs:List (Nat×JV))(s1:St)(s:S2),R2 s1 s->∃s1',Sub s1 s1'/\R2 s1' (r_ vs s)/\Fr [] s1 s1' s (r_ vs s):=by
 intro vs;induction vs with
 |nil=>intro s1 s hr;exact⟨s1,Sub.refl _,hr,Fr.refl⟩
 |cons p r ih=>
  obtain⟨t,jv⟩:=p;intro s1 s hr;cases jv with
  |so j=>
   simp only[r_];split
   .rename_i id ver lo u x ht;split
    .rename_i u0 s0 v0 ho;cases hc:(L_ u&&v0==ver)with|false=>exact ih s1 s hr|true=>simp only[ae]at hc;obtain⟨s2,h1,h2,h3⟩:=Fa hr ht ho hc.1 hc.2;obtain⟨s3,h4,h5,h6⟩:=ih s2 _ h2;exact⟨s3,h1.trans h4,h5,h3.trans h6⟩
    .exact ih s1 s hr
   .exact ih s1 s hr
  |_=>exact ih s1 s hr
def th(m:List Bd):Prop:=∀b∈m,∀c∈m,(b.j=c.j->b=c)/\∀i,b.id=some i->c.id=some i->b=c
theorem rC:∀{m:List Bd}{j:Nat}{b:Bd},DI m j=some b->b∈m/\b.j=j:=by
 intro m;induction m with
 |nil=>intro j b h;simp[DI]at h
 |cons c m ih=>intro j b h;simp only[DI]at h;cases hc:(c.j==j)with|true=>rw[hc,cond_true]at h;obtain rfl:=aa h;exact⟨by simp,by simpa using hc⟩|false=>rw[hc,cond_false]at h;exact⟨aq _ (ih h).1,(ih h).2⟩
theorem wD:∀{m:List Bd}{j:Nat},DI m j=none->∀b∈m,b.j≠j:=by
 intro m;induction m with
 |nil=>intro j _ b hb;simp at hb
 |cons c m ih=>
  intro j h b hb;simp only[DI]at h;cases hc:(c.j==j)with
  |true=>rw[hc]at h;simp at h
  |false=>
   rw[hc,cond_false]at h;rcases aE.1 hb with rfl|hb
   .simpa using hc
   .exact ih h b hb
theorem ir{m m':List Bd}{b:Bd}(h:oh m b=some m'):b∈m'/\(∀c∈m,c∈m')/\(th m->th m'):=by
 unfold oh at h;split at h
 .rename_i hn;have hn:=wD hn;have hfresh:m'=b::m/\∀c∈m,∀i,b.id=some i->c.id≠some i:=by obtain⟨hc,h⟩:=aD h;obtain rfl:=aa h;refine⟨rfl,fun c hcm i hi e=>?_⟩;rw[hi]at hc;have:=aL.1 hc c hcm;rw[e]at this;simp at this
  obtain⟨rfl,hf⟩:=hfresh;refine⟨by simp,fun c hc=>aq _ hc,fun hi x hx y hy=>?_⟩;rcases aE.1 hx with ex|hx2<;>rcases aE.1 hy with ey|hy2
  .subst ex;subst ey;exact⟨fun _=>rfl,fun _ _ _=>rfl⟩
  .subst ex;exact⟨fun e=>absurd e.symm (hn y hy2),fun i h1 h2=>absurd h2 (hf y hy2 i h1)⟩
  .subst ey;exact⟨fun e=>absurd e (hn x hx2),fun i h1 h2=>absurd h1 (hf x hx2 i h2)⟩
  .exact hi x hx2 y hy2
 .rename_i c hc;obtain⟨h1,h2⟩:=rC hc;split at h
  .rename_i i i' hi hi';obtain⟨he,h⟩:=aD h;obtain rfl:=aa h;obtain rfl:i=i':=by simpa using he
   have:b=c:=by cases b;cases c;simp only at hi hi' h2;subst hi;subst hi';subst h2;rfl
   exact⟨this▸h1,fun _ h=>h,fun h=>h⟩
  .simp at h
theorem mR:∀(jv:JV)(ln:Bool)(v:V)(m:List Bd)(l:List V)(m1:List Bd),bU jv ln v m=some (l,m1)->(∀c∈m,c∈m1)/\(th m->th m1):=by
 have b1:∀(m:List Bd)(b:Bd)(l:List V)(m1:List Bd),(match oh m b with|some m=>some (([]:List V),m)|none=>none)=some (l,m1)->(∀c∈m,c∈m1)/\(th m->th m1):=by
  intro m b l m1 h;split at h
  .rename_i m' hm;obtain⟨_,rfl⟩:=ad (aa h);exact(ir hm).2
  .simp at h
 intro jv;induction jv with
 |co a r iha ihr=>
  intro ln v m l m1 h;cases ln with
  |false=>cases v<;>simp[bU]at h
  |true=>
   cases v with
   |co x y=>
    simp only[bU]at h;split at h
    .rename_i l2 m2 h2;split at h
     .rename_i l3 m3 h3;obtain⟨_,rfl⟩:=ad (aa h);obtain⟨a1,a2⟩:=iha _ _ _ _ _ h2;obtain⟨c1,c2⟩:=ihr _ _ _ _ _ h3;exact⟨fun c hc=>c1 c (a1 c hc),fun hi=>c2 (a2 hi)⟩
     .simp at h
    .simp at h
   |_=>simp[bU]at h
 |rc a ih=>
  intro ln v m l m1 h;cases ln with
  |true=>cases v<;>simp[bU]at h
  |false=>
   cases v with
   |rc l'=>exact ih _ _ _ _ _ h
   |x t v=>cases t<;>first|exact ih _ _ _ _ _ h|simp[bU]at h
   |_=>simp[bU]at h
 |fn z f a ih=>
  intro ln v m l m1 h;cases ln with
  |true=>cases v<;>simp[bU]at h
  |false=>cases v with|fn z' f' l'=>simp only[bU]at h;obtain⟨_,h⟩:=aD h;exact ih _ _ _ _ _ h|_=>simp[bU]at h
 |so j=>
  intro ln v m l m1 h;cases ln with
  |true=>cases v<;>simp[bU]at h
  |false=>
   cases v with
   |so id=>exact b1 _ _ _ _ h
   |nl k=>cases k with|zero=>exact b1 _ _ _ _ h|succ=>simp[bU]at h
   |x t v=>cases t with|sl u=>exact b1 _ _ _ _ (aD h).2|_=>simp[bU]at h
   |_=>simp[bU]at h
 |om j=>
  intro ln v m l m1 h;cases ln with
  |true=>cases v<;>simp[bU]at h
  |false=>cases v with|om id=>exact b1 _ _ _ _ h|_=>simp[bU]at h
 |sr j=>
  intro ln v m l m1 h;cases ln with
  |true=>cases v<;>simp[bU]at h
  |false=>cases v with|sr id=>exact b1 _ _ _ _ h|_=>simp[bU]at h
 |op j t p=>
  intro ln v m l m1 h;cases ln with
  |true=>cases v<;>simp[bU]at h
  |false=>cases v with|op id u q=>simp only[bU]at h;obtain⟨_,h⟩:=aD h;exact b1 _ _ _ _ h|_=>simp[bU]at h
 |x t=>
  intro ln v m l m1 h;cases ln with
  |true=>cases v<;>simp[bU]at h
  |false=>
   simp only[bU]at h;split at h
   .obtain ⟨_,rfl⟩:=ad (aa h);exact⟨fun _ h=>h,fun h=>h⟩
   .simp at h
 |pt t=>
  intro ln v m l m1 h;cases ln with
  |true=>cases v<;>simp[bU]at h
  |false=>
   cases v with
   |pt u v=>
    simp only[bU]at h;split at h
    .obtain ⟨_,rfl⟩:=ad (aa h);exact⟨fun _ h=>h,fun h=>h⟩
    .simp at h
   |_=>simp[bU]at h
 |nl k=>
  intro ln v m l m1 h;cases ln with
  |true=>cases v<;>simp[bU]at h
  |false=>cases v with|nl k'=>simp only[bU]at h;obtain⟨_,h⟩:=aD h;obtain⟨_,rfl⟩:=ad (aa h);exact⟨fun _ h=>h,fun h=>h⟩|_=>simp[bU]at h
 |ni=>
  intro ln v m l m1 h;cases ln with
  |false=>cases v<;>simp[bU]at h
  |true=>cases v with|ni=>obtain⟨_,rfl⟩:=ad (aa h);exact⟨fun _ h=>h,fun h=>h⟩|_=>simp[bU]at h
 |sm=>intro ln v m l m1 h;cases ln<;>cases v<;>simp[bU]at h
 |gn=>intro ln v m l m1 h;cases ln<;>cases v<;>simp[bU]at h
structure Cx(h' h'':H2)(aF n'':Nat)(mf:List Bd)(M:Nat->Nat->Prop):Prop where
 m:∀b∈mf,∀i,b.id=some i->M (aF+b.j) i
 n:∀b∈mf,aF+b.j<n''
 so:∀b∈mf,∀i,b.id=some i->∀c',sq (aF+b.j) (fO h'' (aF+b.j))=some c'->∃t s,c'=ij (bn t) (aJ t) (aF+b.j) s/\sq i (fO h' i)=some (ij (bn t) (aJ t) i s)
 sr:∀b∈mf,∀i,b.id=some i->∀c',wQ (aF+b.j) (fO h'' (aF+b.j))=some c'->∃(t:Ty)(s:Sl (Sl (El t))),c'=ij 1 (aJ (.sl t)) (aF+b.j) s/\wQ i (fO h' i)=some (ij 1 (aJ (.sl t)) i s)
 nl:∀b∈mf,b.id=none->∀c',sq (aF+b.j) (fO h'' (aF+b.j))=some c'->c'=vF 0
theorem xF:∀{q:ki}{p:List Nat},vf q=some p->q=p.map .fd:=by
 intro q;induction q with
 |nil=>intro p h;obtain rfl:=aa h;rfl
 |cons a q ih=>
  intro p h;cases a with
  |ix=>simp[vf]at h
  |fd i=>
   simp only[vf]at h;split at h
   .rename_i l hl;obtain rfl:=aa h;rw[ih hl];rfl
   .simp at h
theorem BY{b:Nat}{a r:JV}{l:List V}{v0 v':V}{r':List V}(h:fo b (.co a r) true l v0=some (v',r')):∃x0 y0 v l1 w,fo b a false l x0=some (v,l1)/\fo b r true l1 y0=some (w,r')/\v'=.co v w:=by
 have key:∀(x0 y0:V),(match fo b a false l x0 with|some (v,l)=>(match fo b r true l y0 with|some (w,l)=>some (V.co v w,l)|none=>none)|none=>none)=some (v',r')->∃x0 y0 v l1 w,fo b a false l x0=some (v,l1)/\fo b r true l1 y0=some (w,r')/\v'=.co v w:=by
  intro x0 y0 h;split at h
  .rename_i v l1 h1;split at h
   .rename_i w l2 h2;obtain⟨rfl,rfl⟩:=ad (aa h);exact⟨x0,y0,v,l1,w,h1,h2,rfl⟩
   .simp at h
  .simp at h
 cases v0 with|co x y=>exact key x y h|_=>exact key .gn .ni h
theorem Ie{b:Nat}{t:Ty}{y:El t}{rest:List V}{v0 v':V}{r':List V}(h:fo b (.x t) false (.x t y::rest) v0=some (v',r')):L_ t=true/\v'=.x t y/\r'=rest:=by simp only[fo]at h;obtain⟨h1,h⟩:=aD h;obtain⟨rfl,rfl⟩:=ad (aa h);simp only[decide_true,RB]at h1;exact⟨h1,rfl,rfl⟩
theorem BX{b:Nat}{t:Ty}{y:El t}{rest:List V}{v0 v':V}{r':List V}(h:fo b (.pt t) false (.x t y::rest) v0=some (v',r')):L_ t=true/\v'=.pt t y/\r'=rest:=by simp only[fo]at h;obtain⟨h1,h⟩:=aD h;obtain⟨rfl,rfl⟩:=ad (aa h);simp only[decide_true,RB]at h1;exact⟨h1,rfl,rfl⟩
theorem Bi{aF:Nat}:∀(jv:JV)(v:V)(m:List Bd)(l:List V)(m1:List Bd)(rest:List V)(v0 v':V)(r':List V)(ds:List D),bU jv true v m=some (l,m1)->kN v=some ds->fo aF jv true (l++rest) v0=some (v',r')->
  r'=rest/\kN v'=some ds/\∀n h,cX n h v':=by
 intro jv;induction jv with
 |co a r _ ihr=>
  intro v m l m1 rest v0 v' r' ds hc hd hr;cases v with
  |co x y=>
   simp only[bU]at hc;split at hc
   .rename_i l1 m2 h1;split at hc
    .rename_i l2 m3 h2;obtain⟨rfl,rfl⟩:=ad (aa hc);obtain⟨x0,y0,w1,r1,w2,e1,e2,rfl⟩:=BY hr;simp only[kN]at hd;split at hd
     .rename_i d1 d2 hd1 hd2;obtain rfl:=aa hd;rw[aI]at e1
      have hx:∃t z,x=.pt t z/\L_ t=true/\d1=[.pt (aJ t z)]:=by
       cases x with
       |pt t z=>
        simp only[kN]at hd1;split at hd1
        .exact ⟨t,z,rfl,by assumption,(aa hd1).symm⟩
        .simp at hd1
       |ni=>cases a<;>simp[bU]at h1<;>simp[mP,gD,eJ]at h1
       |co=>cases a<;>simp[bU]at h1<;>simp[mP,gD,eJ]at h1
       |_=>simp[kN]at hd1
      obtain⟨t,z,rfl,hdt,rfl⟩:=hx
      have ha:∃u z',dT t u z=some z'/\a=.pt u/\l1=[.x u z']:=by
       cases a with
       |pt u=>
        simp only[bU]at h1;split at h1
        .rename_i z' hz';obtain⟨rfl,_⟩:=ad (aa h1);exact⟨u,z',hz',rfl,rfl⟩
        .simp at h1
       |x u=>simp only[bU]at h1;split at h1<;>rename_i hh<;>simp[mP,gD,eJ]at hh;simp at h1
       |_=>simp[bU]at h1
      obtain⟨u,z',hz',rfl,rfl⟩:=ha;obtain⟨rfl,rfl⟩:=bL hz';obtain⟨_,rfl,rfl⟩:=BX e1;obtain⟨rfl,g2,g3⟩:=ihr _ _ _ _ _ _ _ _ _ h2 hd2 e2;refine⟨rfl,?_,fun n h=>⟨trivial,g3 n h⟩⟩;simp only[kN,hdt,if_true,g2]
     .simp at hd
    .simp at hc
   .simp at hc
  |_=>simp[bU]at hc
 |ni=>intro v m l m1 rest v0 v' r' ds hc hd hr;cases v with|ni=>obtain⟨rfl,_⟩:=ad (aa hc);simp only[fo]at hr;obtain⟨rfl,rfl⟩:=ad (aa hr);exact⟨rfl,hd,fun _ _=>trivial⟩|_=>simp[bU]at hc
 |_=>intro v m l m1 rest v0 v' r' ds hc hd hr;cases v<;>simp[bU]at hc
section
variable{h' h'':H2}{n' n'' aF:Nat}{mf:List Bd}{M:Nat->Nat->Prop}
theorem Gq(cx:Cx h' h'' aF n'' mf M){b:Bd}(hb:b∈mf){i:Nat}(hi:b.id=some i){c:C}(hc:(∀c',sq i (fO h' i)=some c'->c=c')/\G0 i c):∃c',cY h'' (.so (aF+b.j)) [c']/\lV M c' c:=by
 obtain⟨c',h1,h2⟩:=lV.MW (cx.m b hb i hi) c hc.2;refine⟨c',⟨c',rfl,fun c2 hc2=>?_,h2⟩,h1⟩;obtain⟨t,s,rfl,h4⟩:=cx.so b hb i hi c2 hc2;obtain rfl:=hc.1 _ h4;cases s with
 |nil=>cases c' with|d x=>have:ij (bn t) (aJ t) i (.nil:Sl (El t))=.d x:=h1;rw[<-this];rfl|_=>simp[ij,lV]at h1
 |mk l=>
  cases c' with
  |da a i2 b2 e=>obtain⟨j,_,e2⟩:=h1;have e3:=h2 i2 (by simp[cR]);simp only[ij,C.da.injEq]at e2|-;exact⟨e2.1.symm,e3,e2.2.2.1.symm,e2.2.2.2.symm⟩
  |d x=>simp[ij,lV]at h1
  |_=>simp[ij,lV]at h1
theorem Gp(cx:Cx h' h'' aF n'' mf M){b:Bd}(hb:b∈mf){i:Nat}(hi:b.id=some i){c:C}(hc:(∀c',wQ i (fO h' i)=some c'->c=c')/\G0 i c):∃c',cY h'' (.sr (aF+b.j)) [c']/\lV M c' c:=by
 obtain⟨c',h1,h2⟩:=lV.MW (cx.m b hb i hi) c hc.2;refine⟨c',⟨c',rfl,fun c2 hc2=>?_,h2⟩,h1⟩;obtain⟨t,s,rfl,h4⟩:=cx.sr b hb i hi c2 hc2;obtain rfl:=hc.1 _ h4;cases s with
 |nil=>cases c' with|d x=>have:ij 1 (aJ (.sl t)) i (.nil:Sl (Sl (El t)))=.d x:=h1;rw[<-this];rfl|_=>simp[ij,lV]at h1
 |mk l=>
  cases c' with
  |da a i2 b2 e=>obtain⟨j,_,e2⟩:=h1;have e3:=h2 i2 (by simp[cR]);simp only[ij,C.da.injEq]at e2|-;exact⟨e2.1.symm,e3,e2.2.2.1.symm,e2.2.2.2.symm⟩
  |d x=>simp[ij,lV]at h1
  |_=>simp[ij,lV]at h1
theorem mQ(cx:Cx h' h'' aF n'' mf M):∀(jv:JV)(ln:Bool)(v:V)(m:List Bd)(l:List V)(m1:List Bd)(rest:List V)(v0 v':V)(r':List V)(cs:List C),bU jv ln v m=some (l,m1)->(∀b∈m1,b∈mf)->cY h' v cs->cX n' h' v->fo aF jv ln (l++rest) v0=some (v',r')->
  r'=rest/\cX n'' h'' v'/\mu v'=mu v/\(∀l,v'≠.tp l)/\∃cs',cY h'' v' cs'/\jt M cs' cs:=by
 intro jv;induction jv with
 |x t=>
  intro ln v m l m1 rest v0 v' r' cs hc hm hv hk hr;cases ln with
  |true=>cases v<;>simp[bU]at hc
  |false=>
   simp only[bU]at hc;split at hc
   .rename_i y hy;obtain⟨rfl,rfl⟩:=ad (aa hc);obtain⟨hd,rfl,rfl⟩:=Ie hr;obtain rfl:=fq v false t y cs hy hv;exact⟨rfl,trivial,(pd hy).symm,by simp,_,⟨hd,rfl⟩,jt.d _⟩
   .simp at hc
 |pt t=>
  intro ln v m l m1 rest v0 v' r' cs hc hm hv hk hr;cases ln with
  |true=>cases v<;>simp[bU]at hc
  |false=>
   cases v with
   |pt u v=>
    simp only[bU]at hc;split at hc
    .rename_i y hy;obtain⟨rfl,rfl⟩:=bL hy;obtain⟨rfl,rfl⟩:=ad (aa hc);obtain⟨hd,rfl,rfl⟩:=BX hr;obtain⟨_,rfl⟩:=hv;exact⟨rfl,trivial,rfl,by simp,_,⟨hd,rfl⟩,jt.one rfl⟩
    .simp at hc
   |_=>simp[bU]at hc
 |sr j=>
  intro ln v m l m1 rest v0 v' r' cs hc hm hv hk hr;cases ln with
  |true=>cases v<;>simp[bU]at hc
  |false=>
   have hr2:∀l2:List V,fo aF (.sr j) false l2 v0=some (.sr (aF+j),l2):=fun l2=>by simp only[fo]
   cases v with
   |sr id=>
    simp only[bU]at hc;split at hc
    .rename_i m2 hb;obtain⟨rfl,rfl⟩:=ad (aa hc);rw[hr2]at hr;obtain⟨rfl,rfl⟩:=ad (aa hr);have hbm:=hm _ (ir hb).1;obtain⟨c,rfl,h1⟩:=hv;obtain⟨c',h2,h3⟩:=Gp cx hbm rfl h1;exact⟨rfl,cx.n _ hbm,rfl,by simp,_,h2,jt.one h3⟩
    .simp at hc
   |_=>simp[bU]at hc
 |so j=>
  intro ln v m l m1 rest v0 v' r' cs hc hm hv hk hr;cases ln with
  |true=>cases v<;>simp[bU]at hc
  |false=>
   have hr2:∀l2:List V,fo aF (.so j) false l2 v0=some (.so (aF+j),l2):=fun l2=>by simp only[fo]
   cases v with
   |so id=>
    simp only[bU]at hc;split at hc
    .rename_i m2 hb;obtain⟨rfl,rfl⟩:=ad (aa hc);rw[hr2]at hr;obtain⟨rfl,rfl⟩:=ad (aa hr);have hbm:=hm _ (ir hb).1;obtain⟨c,rfl,h1⟩:=hv;obtain⟨c',h2,h3⟩:=Gq cx hbm rfl h1;exact⟨rfl,cx.n _ hbm,rfl,by simp,_,h2,jt.one h3⟩
    .simp at hc
   |nl k=>
    cases k with
    |succ=>simp[bU]at hc
    |zero=>
     simp only[bU]at hc;split at hc
     .rename_i m2 hb;obtain⟨rfl,rfl⟩:=ad (aa hc);rw[hr2]at hr;obtain⟨rfl,rfl⟩:=ad (aa hr);have hbm:=hm _ (ir hb).1;obtain rfl:=hv;exact⟨rfl,cx.n _ hbm,rfl,by simp,_,⟨vF 0,rfl,fun c' hc'=>(cx.nl _ hbm rfl c' hc').symm,fun i hi=>by simp[vF,cR]at hi⟩,jt.one rfl⟩
     .simp at hc
   |x t v=>
    cases t with
    |sl u=>
     simp only[bU]at hc;obtain⟨hnil,hc⟩:=aD hc;split at hc
     .rename_i m2 hb;obtain⟨rfl,rfl⟩:=ad (aa hc);rw[hr2]at hr;obtain⟨rfl,rfl⟩:=ad (aa hr);have hbm:=hm _ (ir hb).1;obtain⟨_,rfl⟩:=hv;have hv:v=Sl.nil:=by cases v with|nil=>rfl|mk l=>simp[Sl.QH]at hnil
      subst hv;exact⟨rfl,cx.n _ hbm,rfl,by simp,_,⟨vF 0,rfl,fun c' hc'=>(cx.nl _ hbm rfl c' hc').symm,fun i hi=>by simp[vF,cR]at hi⟩,jt.one rfl⟩
     .simp at hc
    |_=>simp[bU]at hc
   |_=>simp[bU]at hc
 |om j=>
  intro ln v m l m1 rest v0 v' r' cs hc hm hv hk hr;cases ln with
  |true=>cases v<;>simp[bU]at hc
  |false=>
   have hr2:∀l2:List V,fo aF (.om j) false l2 v0=some (.om (aF+j),l2):=fun l2=>by simp only[fo]
   cases v with
   |om id=>
    simp only[bU]at hc;split at hc
    .rename_i m2 hb;obtain⟨rfl,rfl⟩:=ad (aa hc);rw[hr2]at hr;obtain⟨rfl,rfl⟩:=ad (aa hr);have hbm:=hm _ (ir hb).1;obtain rfl:=hv;exact⟨rfl,cx.n _ hbm,rfl,by simp,_,rfl,jt.one ⟨id,cx.m _ hbm id rfl,rfl⟩⟩
    .simp at hc
   |_=>simp[bU]at hc
 |op j t p=>
  intro ln v m l m1 rest v0 v' r' cs hc hm hv hk hr;cases ln with
  |true=>cases v<;>simp[bU]at hc
  |false=>
   have hr2:∀l2:List V,fo aF (.op j t p) false l2 v0=some (.op (aF+j) t (p.map .fd),l2):=fun l2=>by simp only[fo]
   cases v with
   |op id u q=>
    simp only[bU]at hc;obtain⟨hq,hc2⟩:=aD hc;clear hc;have hc:=hc2;clear hc2;simp only[ae,decide_eq_true_eq]at hq;obtain⟨rfl,hq⟩:=hq;obtain rfl:=xF hq;split at hc
    .rename_i m2 hb;obtain⟨rfl,rfl⟩:=ad (aa hc);rw[hr2]at hr;obtain⟨rfl,rfl⟩:=ad (aa hr);have hbm:=hm _ (ir hb).1;obtain rfl:=hv;exact⟨rfl,⟨cx.n _ hbm,hk.2⟩,rfl,by simp,_,rfl,jt.one ⟨id,cx.m _ hbm id rfl,rfl⟩⟩
    .simp at hc
   |_=>simp[bU]at hc
 |nl k=>
  intro ln v m l m1 rest v0 v' r' cs hc hm hv hk hr;cases ln with
  |true=>cases v<;>simp[bU]at hc
  |false=>
   cases v with
   |nl k'=>
    simp only[bU]at hc;obtain⟨hq,hc2⟩:=aD hc;clear hc;have hc:=hc2;clear hc2;obtain rfl:k=k':=by simpa using hq
    obtain⟨rfl,rfl⟩:=ad (aa hc);have hr2:∀l2:List V,fo aF (.nl k) false l2 v0=some (.nl k,l2):=fun l2=>by simp only[fo]
    rw[hr2]at hr;obtain⟨rfl,rfl⟩:=ad (aa hr);obtain rfl:=hv;exact⟨rfl,trivial,rfl,by simp,_,rfl,jt.one rfl⟩
   |_=>simp[bU]at hc
 |fn z f a ih=>
  intro ln v m l m1 rest v0 v' r' cs hc hm hv hk hr;cases ln with
  |true=>cases v<;>simp[bU]at hc
  |false=>
   cases v with
   |fn z' f' l'=>
    simp only[bU]at hc;obtain⟨hq,hc2⟩:=aD hc;clear hc;have hc:=hc2;clear hc2;simp only[ae,beq_iff_eq]at hq;obtain⟨rfl,rfl⟩:=hq;simp only[fo]at hr;split at hr
    .rename_i w l2 hw;obtain⟨rfl,rfl⟩:=ad (aa hr);cases z with|true=>obtain⟨ds,hd,rfl⟩:=hv;obtain⟨rfl,g1,g2⟩:=Bi a l' m l m1 rest .ni w l2 ds hc hd hw;exact⟨rfl,g2 _ _,rfl,by simp,_,⟨ds,g1,rfl⟩,jt.one rfl⟩|false=>obtain⟨xs,hx,rfl⟩:=hv;obtain⟨rfl,g1,_,_,cs',g2,g3⟩:=ih true l' m l m1 rest .ni w l2 xs hc hm hx hk hw;exact⟨rfl,g1,rfl,by simp,_,⟨cs',g2,rfl⟩,jt.one ⟨xs,g3,rfl⟩⟩
    .simp at hr
   |_=>simp[bU]at hc
 |rc a ih=>
  intro ln v m l m1 rest v0 v' r' cs hc hm hv hk hr;cases ln with
  |true=>cases v<;>simp[bU]at hc
  |false=>
   simp only[fo]at hr;split at hr
   .rename_i w l2 hw;obtain⟨rfl,rfl⟩:=ad (aa hr);cases v with
    |rc l'=>obtain⟨rfl,g1,_,_,cs',g2,g3⟩:=ih true l' m l m1 rest .ni w l2 cs hc hm hv hk hw;exact⟨rfl,g1,rfl,by simp,cs',g2,g3⟩
    |x t v=>cases t with|st t=>obtain⟨hd,rfl⟩:=hv;obtain⟨rfl,g1,_,_,cs',g2,g3⟩:=ih true (zZ t v) m l m1 rest .ni w l2 _ hc hm (tw t v hd) (w9 t v) hw;exact⟨rfl,g1,rfl,by simp,cs',g2,g3⟩|_=>simp[bU]at hc
    |_=>simp[bU]at hc
   .simp at hr
 |ni=>
  intro ln v m l m1 rest v0 v' r' cs hc hm hv hk hr;cases ln with
  |false=>cases v<;>simp[bU]at hc
  |true=>cases v with|ni=>obtain⟨rfl,_⟩:=ad (aa hc);simp only[fo]at hr;obtain⟨rfl,rfl⟩:=ad (aa hr);exact⟨rfl,trivial,rfl,by simp,cs,hv,by obtain rfl:=hv;rfl⟩|_=>simp[bU]at hc
 |co a r iha ihr=>
  intro ln v m l m1 rest v0 v' r' cs hc hm hv hk hr;cases ln with
  |false=>cases v<;>simp[bU]at hc
  |true=>
   cases v with
   |co x y=>
    simp only[bU]at hc;split at hc
    .rename_i l1 m2 h1;split at hc
     .rename_i l2 m3 h2;obtain⟨rfl,rfl⟩:=ad (aa hc);obtain⟨x0,y0,w1,r1,w2,e1,e2,rfl⟩:=BY hr;rw[aI]at e1;obtain⟨cx1,cy,rfl,hx,hy⟩:=hv;obtain⟨rfl,g1,_,_,cs1,g2,g3⟩:=iha _ _ _ _ _ _ _ _ _ _ h1 (fun b hb=>hm b ((mR _ _ _ _ _ _ h2).1 b hb)) hx hk.1 e1;obtain⟨rfl,k1,_,_,cs2,k2,k3⟩:=ihr _ _ _ _ _ _ _ _ _ _ h2 hm hy hk.2 e2;exact⟨rfl,⟨g1,k1⟩,rfl,by simp,_,⟨cs1,cs2,rfl,g2,k2⟩,g3.H6 k3⟩
     .simp at hc
    .simp at hc
   |_=>simp[bU]at hc
 |_=>intro ln v m l m1 rest v0 v' r' cs hc;cases ln<;>cases v<;>simp[bU]at hc
theorem Fj(cx:Cx h' h'' aF n'' mf M){jv:JV}{v:V}{m:List Bd}{l:List V}{m1:List Bd}{rest:List V}{v0 v':V}{r':List V}{x:TV}(hc:bU jv false v m=some (l,m1))(hm:∀b∈m1,b∈mf)(hv:dD h' v x)(hk:cX n' h' v)(hr:fo aF jv false (l++rest) v0=some (v',r')):
  r'=rest/\cX n'' h'' v'/\∃x',dD h'' v' x'/\wJ M x' x/\∀l,x'≠.fm l:=by
 have h1:Yz h' v x:=by cases v with|tp l=>cases jv<;>simp[bU]at hc;split at hc<;>rename_i hh<;>simp[mP,gD,eJ]at hh;simp at hc|no=>cases jv<;>simp[bU]at hc;split at hc<;>rename_i hh<;>simp[mP,gD,eJ]at hh;simp at hc|gn=>exact hv.elim|_=>exact hv
 obtain⟨cs,h2,h3,h4⟩:=h1;obtain⟨rfl,g1,g2,g3,cs',g4,g5⟩:=mQ cx jv false v m l m1 rest v0 v' r' cs hc hm h2 hk hr;refine⟨rfl,g1,?_⟩;cases ha:mu v with
 |true=>obtain rfl:=h3 ha;exact⟨.agg cs',bA ⟨cs',g4,fun _=>rfl,fun e=>by rw[g2,ha]at e;cases e⟩,⟨cs,g5,rfl⟩,by simp⟩
 |false=>
  obtain⟨c,rfl,rfl⟩:=h4 ha
  match cs',g5 with
  |[],g5=>exact absurd (show[c]=[]from g5) (by simp)
  |c'::r,g5=>obtain⟨d,r2,e1,e2,e3⟩:=g5;obtain⟨rfl,rfl⟩:=bz e3;cases r with|nil=>exact⟨.c c',bA ⟨[c'],g4,fun e=>(by rw[g2,ha]at e;cases e),fun _=>⟨c',rfl,rfl⟩⟩,⟨c,e1,rfl⟩,by simp⟩|cons=>obtain⟨_,_,_,_,e⟩:=e2;simp at e
end
theorem BI{α:Type}(G:Nat->Option α)(ks:List Nat)(hk:∀t,G t≠none->t∈ks):∃e:List (Nat×α),∀t,bv e t=G t:=by
 have key:∀ks:List Nat,∃e:List (Nat×α),∀t,bv e t=if t∈ks then G t else none:=by
  intro ks;induction ks with
  |nil=>exact⟨[],fun t=>by simp[bv]⟩
  |cons k ks ih=>
   obtain⟨e,he⟩:=ih;cases hg:G k with
   |none=>
    refine⟨e,fun t=>?_⟩;rw[he];by_cases h:t=k
    .subst h;simp[hg]
    .simp [h]
   |some x=>
    refine⟨(k,x)::e,fun t=>?_⟩;simp only[bv];by_cases h:k=t
    .subst h;simp[hg]
    .have h':(k==t)=false:=by simpa using h
     rw[h',cond_false,he];have:t≠k:=fun q=>h q.symm;simp[this]
 obtain⟨e,he⟩:=key ks;refine⟨e,fun t=>?_⟩;rw[he];split
 .rfl
 .rename_i h;cases hg:G t with|none=>rfl|some x=>exact absurd (hk t (by simp[hg])) h
theorem EW(F:Nat->Option Ob)(ks:List Nat)(hk:∀t,F t≠none->t∈ks):∃h:aY,∀t,ak h t=F t:=by obtain⟨e,he⟩:=BI (fun t=>(F t).map some) ks fun t ht=>hk t fun e=>ht (by simp[e]);refine⟨e,fun t=>?_⟩;simp only[ak,he];cases F t<;>rfl
theorem p8{α:Type}:∀{l:List (Nat×α)}{t:Nat},bv l t≠none->t∈l.map (·.1):=by intro l t h;cases hx:bv l t with|none=>exact absurd hx h|some x=>exact c8.2 ⟨_,p7 hx,rfl⟩
theorem Cv{h:aY}{t:Nat}(hl:ak h t≠none):t∈h.map (·.1):=p8 fun e=>hl (by simp[ak,e])
theorem Cn{α β:Type}{ka va:Bool}{k:α->List Value}{v:β->List D}{m:Mp α β}{cs:List C}(h:some (Ob.box cs)=wR ka va k v m):False:=by cases m<;>simp[wR]at h
section
variable{h' h'':H2}{n' n'' aF:Nat}{mf:List Bd}{M:Nat->Nat->Prop}
theorem JM(hj:∀b∈mf,aF+b.j<n''):Cx h' [] aF n'' mf (fun _ _=>True):=⟨fun _ _ _ _=>trivial,hj,fun b _ i _ c' hc=>by simp[fO,bv,sq]at hc,fun b _ i _ c' hc=>by simp[fO,bv,wQ]at hc,fun b _ _ c' hc=>by simp[fO,bv,sq]at hc⟩
theorem NV{j:Nat}{o:JO}{m:List Bd}{l:List V}{m1:List Bd}(h:Dz h' j o m=some (l,m1)):(∀c∈m,c∈m1)/\(th m->th m1):=by
 have id1:∀{a:List V},some (a,m)=some (l,m1)->(∀c∈m,c∈m1)/\(th m->th m1):=fun e=>by obtain⟨_,rfl⟩:=ad (aa e);exact⟨fun _ h=>h,fun h=>h⟩
 unfold Dz at h;split at h
 .split at h
  .exact id1 (aD h).2
  .split at h
   .split at h
    .exact id1 h
    .simp at h
   .simp at h
  .split at h
   .split at h
    .exact id1 h
    .simp at h
   .simp at h
  .split at h
   .exact mR _ _ _ _ _ _ (aD h).2
   .simp at h
  .split at h
   .split at h
    .exact id1 h
    .simp at h
   .simp at h
  .simp at h
 .simp at h
def AP(h':H2)(aF:Nat)(m1:List Bd)(b:Bd):O->Prop
 |.ar t s v=>v=0/\((b.id=none/\s=.nil/\uB t=true)\/∃id ver,b.id=some id/\fO h' id=some (.ar t s ver))
 |.bx t w=>∃id v c m0 l0 m2 rest r0,b.id=some id/\fO h' id=some (.bx t v)/\bU c false v m0=some (l0,m2)/\(∀b∈m2,b∈m1)/\fo aF c false (l0++rest) .gn=some (w,r0)/\cL w false t=true
 |.mp k v y=>∃id,b.id=some id/\fO h' id=some (.mp k v y)
 |.rw t s ln=>ln=none/\∃id,b.id=some id/\fO h' id=some (.rw t s none)
 |_=>False
theorem Bh{H1:aY}(hr:HR n' H1 h')(hj:∀b∈mf,aF+b.j<n''){j:Nat}{o:JO}{m:List Bd}{l:List V}{m1:List Bd}{rest:List V}{o':O}{r':List V}(hc:Dz h' j o m=some (l,m1))(hm:∀b∈m1,b∈mf)(hs:xu aF o (l++rest)=some (o',r')):
  r'=rest/\∃b∈mf,b.j=j/\AP h' aF mf b o':=by
 have hmm:=(NV hc).1;unfold Dz at hc;split at hc
 .rename_i b hb;obtain⟨hb1,hb2⟩:=rC hb;have hbm:=hm _ (hmm _ hb1);split at hc
  .rename_i t hid;obtain⟨hok,hc⟩:=aD hc;obtain⟨rfl,_⟩:=ad (aa hc);simp only[aK,bc,xu]at hs;obtain⟨_,hs⟩:=aD hs;obtain⟨rfl,rfl⟩:=ad (aa hs);exact⟨rfl,b,hbm,hb2,rfl,.inl ⟨hid,rfl,hok⟩⟩
  .rename_i t id hid;split at hc
   .rename_i u s ver ho;split at hc
    .rename_i s2 hs2;obtain⟨rfl,_⟩:=ad (aa hc);obtain⟨e,rfl⟩:=bL hs2;cases e;simp only[aK,bc,xu]at hs;obtain⟨_,hs⟩:=aD hs;obtain⟨rfl,rfl⟩:=ad (aa hs);exact⟨rfl,b,hbm,hb2,rfl,.inr ⟨id,ver,hid,ho⟩⟩
    .simp at hc
   .simp at hc
  .rename_i t id hid;split at hc
   .rename_i u s ho;split at hc
    .rename_i s2 hs2;obtain⟨rfl,_⟩:=ad (aa hc);obtain⟨e,rfl⟩:=bL hs2;cases e;simp only[aK,bc,xu]at hs;obtain⟨_,hs⟩:=aD hs;obtain⟨rfl,rfl⟩:=ad (aa hs);exact⟨rfl,b,hbm,hb2,rfl,id,hid,ho⟩
    .simp at hc
   .simp at hc
  .rename_i t c id hid;split at hc
   .rename_i u v ho;obtain⟨hu,hc2⟩:=aD hc;clear hc;have hc:=hc2;clear hc2;obtain rfl:u=t:=by simpa using hu
    simp only[xu]at hs;split at hs
    .rename_i w l2 hw;obtain⟨hf,hs⟩:=aD hs;obtain⟨rfl,rfl⟩:=ad (aa hs);obtain⟨_,hob,hko⟩:=hr.ob id _ ho;obtain⟨cs,_,hcs,_⟩:=hob;obtain⟨rfl,_⟩:=mQ (JM (h':=h') hj) c false v m l m1 rest .gn w l2 cs hc hm hcs hko hw;exact⟨rfl,b,hbm,hb2,id,v,c,m,l,m1,_,_,hid,ho,hc,hm,hw,hf⟩
    .simp at hs
   .simp at hc
  .rename_i k v id hid;split at hc
   .rename_i k' v' y ho;split at hc
    .rename_i y2 hy2;obtain⟨rfl,_⟩:=ad (aa hc);obtain⟨e,rfl⟩:=bL hy2;cases e;simp only[aK,bc,xu]at hs;obtain⟨_,hs⟩:=aD hs;obtain⟨rfl,rfl⟩:=ad (aa hs);exact⟨rfl,b,hbm,hb2,id,hid,ho⟩
    .simp at hc
   .simp at hc
  .simp at hc
 .simp at hc
theorem nE:∀(os:List JO)(j:Nat)(m:List Bd)(l:List V)(m1:List Bd),sZ h' os j m=some (l,m1)->(∀c∈m,c∈m1)/\(th m->th m1):=by
 intro os;induction os with
 |nil=>intro j m l m1 h;obtain⟨_,rfl⟩:=ad (aa h);exact⟨fun _ h=>h,fun h=>h⟩
 |cons o os ih=>
  intro j m l m1 h;simp only[sZ]at h;split at h
  .rename_i l1 m2 h1;split at h
   .rename_i l2 m3 h2;obtain⟨_,rfl⟩:=ad (aa h);obtain⟨a1,a2⟩:=NV h1;obtain⟨c1,c2⟩:=ih _ _ _ _ h2;exact⟨fun c hc=>c1 c (a1 c hc),fun hi=>c2 (a2 hi)⟩
   .simp at h
  .simp at h
theorem yC{H1:aY}(hr:HR n' H1 h')(hj:∀b∈mf,aF+b.j<n''):∀(os:List JO)(j:Nat)(m:List Bd)(l:List V)(m1:List Bd)(rest:List V)(hl:H2)(r':List V),sZ h' os j m=some (l,m1)->(∀b∈m1,b∈mf)->u5 aF os j (l++rest)=some (hl,r')->
  (∀i o',bv hl i=some o'->∃o,o'=some o/\∃b∈mf,i=aF+b.j/\AP h' aF mf b o)/\(∀p∈hl,aF<=p.1):=by
 intro os;induction os with
 |nil=>intro j m l m1 rest hl r' hc hm hs;obtain⟨rfl,_⟩:=ad (aa hc);simp only[u5]at hs;obtain⟨rfl,_⟩:=ad (aa hs);exact⟨fun i o' h=>by simp[bv]at h,fun p hp=>by simp at hp⟩
 |cons o os ih=>
  intro j m l m1 rest hl r' hc hm hs;simp only[sZ]at hc;split at hc
  .rename_i l1 m2 h1;split at hc
   .rename_i l2 m3 h2;obtain⟨rfl,rfl⟩:=ad (aa hc);simp only[u5,aI]at hs;split at hs
    .rename_i o1 r1 ho1;split at hs
     .rename_i hl1 r2 hhl;obtain⟨rfl,rfl⟩:=ad (aa hs);obtain⟨rfl,b,hb,hbj,hap⟩:=Bh hr hj h1 (fun b hb=>hm b ((nE _ _ _ _ _ h2).1 b hb)) ho1;obtain⟨g1,g2⟩:=ih _ _ _ _ _ _ _ h2 hm hhl;refine⟨fun i o' h=>?_,fun p hp=>?_⟩
      .simp only[bv]at h;by_cases e:aF+j=i
       .have e':(aF+j==i)=true:=by simpa using e
        rw[e',cond_true]at h;exact⟨o1,(aa h).symm,b,hb,by rw[hbj,e],hap⟩
       .have e':(aF+j==i)=false:=by simpa using e
        rw[e',cond_false]at h;exact g1 i o' h
      .rcases aE.1 hp with rfl|hp
       .exact ff _ _
       .exact g2 p hp
     .simp at hs
    .simp at hs
   .simp at hc
  .simp at hc
def Jd(M:Nat->Nat->Prop):Ob->Prop
 |.nst _ sl=>∀(k id len:Nat),sl[k]?=some (gH.ku id len)->M id id
 |_=>True
theorem qm{t:Ty}{l:List (Sl (El t))}{ln:Option (Nat×Nat)}{k i len:Nat}(h:(cT t l ln)[k]?=some (.ku i len)):∃m,ln=some (m,i):=by
 have no:¬(l.map (jx t))[k]?=some (.ku i len):=fun h=>by
  rw[List.getElem?_map]at h;cases hx:l[k]?with
  |none=>rw[hx]at h;cases h
  |some s=>rw[hx]at h;cases s<;>cases h
 cases ln with
 |none=>exact absurd h no
 |some q=>
  obtain⟨m,j⟩:=q;simp only[cT]at h;rw[List.getElem?_set]at h;split at h
  .split at h
   .cases hg:gt l m<;>rw[hg]at h<;>cases h;exact⟨m,rfl⟩
   .cases h
  .exact absurd h no
def FC(M:Nat->Nat->Prop)(o1 o0:Ob):Prop:=(o1=o0/\(∀cs,o0≠.box cs)/\Jd M o0)\/∃a c,o1=.box a/\o0=.box c/\jt M a c
theorem IQ{H1:aY}(hr:HR n' H1 h')(cx:Cx h' h'' aF n'' mf M){b:Bd}{o:O}(ha:AP h' aF mf b o):
  ∃ob,KB h'' o ob/\uC n'' h'' o/\∀o1,ob=some o1->∃id o0,b.id=some id/\ak H1 id=some o0/\FC M o1 o0:=by
 cases o with
 |ar t s v=>
  obtain⟨_,⟨_,rfl,hok⟩|⟨id,ver,hid,ho⟩⟩:=ha
  .obtain ⟨h1,h2⟩:=Vt hok;exact⟨none,⟨h1,h2,fun l e=>by cases e⟩,trivial,fun o1 e=>by cases e⟩
  .obtain ⟨_,⟨h1,h2,h3⟩,_⟩:=hr.ob id _ ho;cases s with|nil=>exact⟨none,⟨h1,h2,fun l e=>by cases e⟩,trivial,fun o1 e=>by cases e⟩|mk l=>refine⟨_,⟨h1,h2,fun l' e=>by cases e;rfl⟩,trivial,fun o1 e=>⟨id,_,hid,h3 l rfl,.inl ⟨(aa e).symm,by simp,trivial⟩⟩⟩
 |rw t s ln=>obtain⟨rfl,id,hid,ho⟩:=ha;obtain⟨_,⟨h1,h2,h3⟩,_⟩:=hr.ob id _ ho;cases s with|nil=>exact⟨none,⟨h1,h2,fun l e=>by cases e⟩,trivial,fun o1 e=>by cases e⟩|mk l=>refine⟨_,⟨h1,h2,fun l' e=>by cases e;rfl⟩,trivial,fun o1 e=>⟨id,_,hid,h3 l rfl,.inl ⟨(aa e).symm,by simp,fun k i len hk=>?_⟩⟩⟩;obtain⟨m,e2⟩:=qm hk;cases e2
 |bx t w=>obtain⟨id,v,c,m0,l0,m2,rest,r0,hid,ho,hc,hm,hs,hf⟩:=ha;obtain⟨_,⟨cs,h1,h2,h3⟩,hk⟩:=hr.ob id _ ho;obtain⟨rfl,g1,_,_,cs',g2,g3⟩:=mQ cx c false v m0 l0 m2 rest .gn w r0 cs hc hm h2 hk hs;exact⟨some (.box cs'),⟨cs',rfl,g2,hf⟩,g1,fun o1 e=>⟨id,_,hid,h1,.inr ⟨cs',cs,(aa e).symm,rfl,g3⟩⟩⟩
 |mp k v y=>
  obtain⟨id,hid,ho⟩:=ha;obtain⟨_,⟨h1,h2,h3⟩,_⟩:=hr.ob id _ ho;refine⟨ak H1 id,⟨h1,h2,h3⟩,trivial,fun o1 e=>⟨id,o1,hid,e,.inl ⟨rfl,fun cs e2=>?_,?_⟩⟩⟩
  .rw [e2]at e;rw[e]at h3;exact Cn h3
  .rw [e]at h3;simp only[wR,bp]at h3;rw[h3];trivial
 |_=>exact ha.elim
theorem rz{s:S2}:∀(vs:List (Nat×JV))(m:List Bd)(l:List V)(m1:List Bd),sY s vs m=some (l,m1)->(∀c∈m,c∈m1)/\(th m->th m1):=by
 intro vs;induction vs with
 |nil=>intro m l m1 h;obtain⟨_,rfl⟩:=ad (aa h);exact⟨fun _ h=>h,fun h=>h⟩
 |cons p vs ih=>
  obtain⟨t,a⟩:=p;intro m l m1 h;simp only[sY]at h;split at h
  .split at h
   .rename_i l1 m2 h1;split at h
    .rename_i l2 m3 h2;obtain⟨_,rfl⟩:=ad (aa h);obtain⟨a1,a2⟩:=mR _ _ _ _ _ _ h1;obtain⟨c1,c2⟩:=ih _ _ _ h2;exact⟨fun c hc=>c1 c (a1 c hc),fun hi=>c2 (a2 hi)⟩
    .simp at h
   .simp at h
  .simp at h
theorem ru{s1:St}{s:S2}(hr:R2 s1 s)(cx:Cx s.heap h'' aF n'' mf M):∀(vs:List (Nat×JV))(m:List Bd)(l:List V)(m1:List Bd)(rest:List V)(e:List (Nat×V))(r':List V),sY s vs m=some (l,m1)->(∀b∈m1,b∈mf)->y_ aF vs (l++rest)=some (e,r')->
  r'=rest/\∀t v,bv e t=some v->cX n'' h'' v/\∃x x',bv s1.bS t=some x/\dD h'' v x'/\wJ M x' x/\∀l,x'≠.fm l:=by
 intro vs;induction vs with
 |nil=>intro m l m1 rest e r' hc hm hs;obtain⟨rfl,_⟩:=ad (aa hc);obtain⟨rfl,rfl⟩:=ad (aa hs);exact⟨rfl,fun t v h=>by simp[bv]at h⟩
 |cons p vs ih=>
  obtain⟨t,a⟩:=p;intro m l m1 rest e r' hc hm hs;simp only[sY]at hc;split at hc
  .rename_i v hv;split at hc
   .rename_i l1 m2 h1;split at hc
    .rename_i l2 m3 h2;obtain⟨rfl,rfl⟩:=ad (aa hc);simp only[y_,aI]at hs;split at hs
     .rename_i w r1 hw;split at hs
      .rename_i e1 r2 he1;obtain⟨rfl,rfl⟩:=ad (aa hs);simp only[Bt]at hv;split at hv
       .rename_i v2 hv2;obtain⟨hal,hv⟩:=aD hv;obtain rfl:=aa hv;obtain⟨hk,hx⟩:=hr.bS t _ hv2;obtain⟨x,hx1,hx2⟩:=hx (.inl hal);obtain⟨rfl,g1,x',g2,g3,g4⟩:=Fj cx h1 (fun b hb=>hm b ((rz _ _ _ _ h2).1 b hb)) hx2 hk hw;obtain⟨rfl,k1⟩:=ih _ _ _ _ _ _ h2 hm he1;refine⟨rfl,fun t' v' h=>?_⟩;simp only[bv]at h;by_cases e:t=t'
        .subst e;have e':(t==t)=true:=by simp
         rw[e',cond_true]at h;obtain rfl:=aa h;exact⟨g1,x,x',hx1,g2,g3,g4⟩
        .have e':(t==t')=false:=by simpa using e
         rw[e',cond_false]at h;exact k1 t' v' h
       .simp at hv
      .simp at hs
     .simp at hs
    .simp at hc
   .simp at hc
  .simp at hc
theorem pj{h:H2}:∀(gs:JV)(g0 g:V)(m:List Bd)(l:List V)(m1:List Bd),kh h gs g0 g m=some (l,m1)->(∀c∈m,c∈m1)/\(th m->th m1):=by
 intro gs;induction gs with
 |sm=>intro g0 g m l m1 h;simp only[kh]at h;obtain⟨_,h⟩:=aD h;obtain⟨_,rfl⟩:=ad (aa h);exact⟨fun _ h=>h,fun h=>h⟩
 |ni=>intro g0 g m l m1 h;cases g0<;>cases g<;>simp[kh]at h;obtain⟨_,rfl⟩:=h;exact⟨fun _ h=>h,fun h=>h⟩
 |co a r _ ih=>
  intro g0 g m l m1 hc;cases g0 with
  |co x0 y0=>
   cases g with
   |co x y=>
    have wS:(bif eT h x then(match bU a false x m with|some (l,m)=>(match kh h r y0 y m with|some (l',m)=>some (l++l',m)|none=>none)|none=>none)else none)=some (l,m1)->(∀c∈m,c∈m1)/\(th m->th m1):=by
     intro hc;obtain⟨_,hc⟩:=aD hc;split at hc
     .rename_i l1 m2 h1;split at hc
      .rename_i l2 m3 h2;obtain⟨_,rfl⟩:=ad (aa hc);obtain⟨a1,a2⟩:=mR _ _ _ _ _ _ h1;obtain⟨c1,c2⟩:=ih _ _ _ _ _ h2;exact⟨fun c hc=>c1 c (a1 c hc),fun hi=>c2 (a2 hi)⟩
      .simp at hc
     .simp at hc
    cases a with|sm=>exact ih _ _ _ _ _ (aD (show(bif Sk x0 x then kh h r y0 y m else none)=_ from hc)).2|gn=>exact ih _ _ _ _ _ (show kh h r y0 y m=_ from hc)|_=>exact wS hc
   |_=>simp[kh]at hc
  |_=>simp[kh]at hc
 |_=>intro g0 g m l m1 h;simp[kh]at h
def DQ(M:Nat->Nat->Prop):List C->List C->Prop
 |[],m=>m=[]
 |c::l,m=>∃d r,(c=lP\/lV M c d)/\DQ M l r/\m=d::r
theorem DQ.len:∀{l m:List C},DQ M l m->l.length=m.length
 |[],m,h=>by obtain rfl:=h;rfl
 |c::l,m,h=>by obtain⟨d,r,_,h2,rfl⟩:=h;simp[DQ.len h2]
theorem DQ.get:∀{l m:List C},DQ M l m->∀(i:Nat)(c:C),l[i]?=some c->c=lP\/∃d,m[i]?=some d/\lV M c d
 |[],m,h,i,c,hi=>by simp at hi
 |c::l,m,h,i,c',hi=>by
  obtain⟨d,r,h1,h2,rfl⟩:=h;cases i with
  |zero=>
   obtain rfl:c=c':=by simpa using hi
   exact h1.imp id fun h=>⟨d,rfl,h⟩
  |succ i=>exact(DQ.get h2 i c' (by simpa using hi)).imp id fun⟨d,h3,h4⟩=>⟨d,by simpa using h3,h4⟩
theorem uW(hlow:∀i,i<aF->fO h'' i≠none->fO h'' i=fO h' i)(hM:∀i,i<aF->M i i){x0 x:V}{c:C}{hz:H2}(hs:Sk x0 x=true)(hok:cX aF hz x0)(hx:eT h' x=true->cY h' x [c]):
  ∃c',(eT h'' x0=true->cY h'' x0 [c'])/\(c'=lP\/lV M c' c):=by
 by_cases ha:eT h'' x0=true
 case neg=>exact⟨lP,fun h=>absurd h ha,.inl rfl⟩
 cases x0<;>cases x<;>first|(simp[Sk]at hs;done)|skip
 case nl.nl k k'=>
  obtain rfl:k=k':=by simpa[Sk]using hs
  have:cY h' (.nl k) [c]:=hx rfl;obtain rfl:=dh.1 (show[c]=[vF k]from this);exact⟨vF k,fun _=>rfl,.inr rfl⟩
 case so.so i i'=>
  obtain rfl:i=i':=by simpa[Sk]using hs
  have hi:i<aF:=hok;have hne:fO h'' i≠none:=fun e=>by simp[eT,e]at ha
  have e:=hlow i hi hne;have ha':eT h' (.so i)=true:=by simp only[eT]at ha|-;rw[<-e];exact ha
  obtain⟨c2,e2,h2,h3⟩:=hx ha';refine⟨c,fun _=>⟨c2,e2,fun c' hc'=>h2 c' (by rw[<-e];exact hc'),h3⟩,.inr (lV.cK _ fun j hj=>?_)⟩;obtain rfl:=dh.1 e2;rw[h3 j hj];exact hM i hi
 case sr.sr i i'=>
  obtain rfl:i=i':=by simpa[Sk]using hs
  have hi:i<aF:=hok;have hne:fO h'' i≠none:=fun e=>by simp[eT,e]at ha
  have e:=hlow i hi hne;have ha':eT h' (.sr i)=true:=by simp only[eT]at ha|-;rw[<-e];exact ha
  obtain⟨c2,e2,h2,h3⟩:=hx ha';refine⟨c,fun _=>⟨c2,e2,fun c' hc'=>h2 c' (by rw[<-e];exact hc'),h3⟩,.inr (lV.cK _ fun j hj=>?_)⟩;obtain rfl:=dh.1 e2;rw[h3 j hj];exact hM i hi
 case op.op i t p i' t' p'=>
  have hp:i=i'/\t=t'/\p=[]/\p'=[]:=by
   cases p with
   |cons=>cases p'<;>simp[Sk]at hs
   |nil=>cases p' with|cons=>simp[Sk]at hs|nil=>simpa[Sk]using hs
  obtain⟨rfl,rfl,rfl,rfl⟩:=hp;have hi:i<aF:=hok.1;have hne:fO h'' i≠none:=fun e=>by simp[eT,e]at ha
  have e:=hlow i hi hne;have ha':eT h' (.op i t [])=true:=by simp only[eT]at ha|-;rw[<-e];exact ha
  have h2:=hx ha';obtain rfl:=dh.1 (show[c]=[C.op i (iE t [])]from h2);exact⟨_,fun _=>rfl,.inr ⟨i,hM i hi,rfl⟩⟩
 case gn.gn=>simp[eT]at ha
theorem xn(hlow:∀i,i<aF->fO h'' i≠none->fO h'' i=fO h' i)(hM:∀i,i<aF->M i i){hz:H2}:∀(g0 g:V)(cs:List C),qr g0 g=true->cX aF hz g0->Bv h' g cs->∃cs',Bv h'' g0 cs'/\DQ M cs' cs:=by
 intro g0;induction g0 with
 |ni=>intro g cs hs _ hg;cases g<;>simp[qr]at hs;obtain rfl:=hg;exact⟨[],rfl,rfl⟩
 |co x0 y0 _ ih=>intro g cs hs hk hg;cases g with|co x y=>simp only[qr,ae]at hs;obtain⟨c,m,rfl,h1,h2⟩:=hg;obtain⟨c',h3,h4⟩:=uW (M:=M) hlow hM hs.1 hk.1 h1;obtain⟨cs',h5,h6⟩:=ih y m hs.2 hk.2 h2;exact⟨c'::cs',⟨c',cs',rfl,h3,h5⟩,c,m,h4,h6,rfl⟩|_=>simp[qr]at hs
 |_=>intro g cs hs;cases g<;>simp[qr]at hs
theorem If{b:Nat}{a r:JV}{l:List V}{x0 y0 v':V}{r':List V}(h:fo b (.co a r) true l (.co x0 y0)=some (v',r')):∃v l1 w,fo b a false l x0=some (v,l1)/\fo b r true l1 y0=some (w,r')/\v'=.co v w:=by
 simp only[fo]at h;split at h
 .rename_i v l1 h1;split at h
  .rename_i w l2 h2;obtain⟨rfl,rfl⟩:=ad (aa h);exact⟨v,l1,w,h1,h2,rfl⟩
  .simp at h
 .simp at h
theorem NW(cx:Cx h' h'' aF n'' mf M)(hlow:∀i,i<aF->fO h'' i≠none->fO h'' i=fO h' i)(hM:∀i,i<aF->M i i){hz:H2}(c9:∀v,cX aF hz v->cX n'' h'' v):∀(gs:JV)(g0 g:V)(m:List Bd)(l:List V)(m1:List Bd)(rest:List V)(g':V)(r':List V)(cs:List C),
  kh h' gs g0 g m=some (l,m1)->(∀b∈m1,b∈mf)->cX aF hz g0->Bv h' g cs->cX n' h' g->fo aF gs true (l++rest) g0=some (g',r')->r'=rest/\cX n'' h'' g'/\∃cs',Bv h'' g' cs'/\DQ M cs' cs:=by
 intro gs;induction gs with
 |sm=>intro g0 g m l m1 rest g' r' cs hc hm hk0 hg hk hs;simp only[kh]at hc;obtain⟨hsm,hc⟩:=aD hc;obtain⟨rfl,_⟩:=ad (aa hc);simp only[fo,bc]at hs;obtain⟨rfl,rfl⟩:=ad (aa hs);exact⟨rfl,c9 _ hk0,xn hlow hM g0 g cs hsm hk0 hg⟩
 |ni=>intro g0 g m l m1 rest g' r' cs hc hm hk0 hg hk hs;cases g0<;>cases g<;>simp[kh]at hc;obtain⟨rfl,_⟩:=hc;simp only[fo,bc]at hs;obtain⟨rfl,rfl⟩:=ad (aa hs);obtain rfl:=hg;exact⟨rfl,trivial,[],rfl,rfl⟩
 |co a r _ ih=>
  intro g0 g m l m1 rest g' r' cs hc hm hk0 hg hk hs;cases g0 with
  |co x0 y0=>
   cases g with
   |co x y=>
    obtain⟨c,cs,rfl,hx,hg⟩:=hg;obtain⟨v,l1,w,e1,e2,rfl⟩:=If hs
    have wS:(bif eT h' x then(match bU a false x m with|some (l,m)=>(match kh h' r y0 y m with|some (l',m)=>some (l++l',m)|none=>none)|none=>none)else none)=some (l,m1)->r'=rest/\cX n'' h'' (.co v w)/\∃cs',Bv h'' (.co v w) cs'/\DQ M cs' (c::cs):=by
     intro hc;obtain⟨ha,hc⟩:=aD hc;split at hc
     .rename_i l2 m2 h1;split at hc
      .rename_i l3 m3 h2;obtain⟨rfl,rfl⟩:=ad (aa hc);rw[aI]at e1;obtain⟨rfl,g1,_,_,cs1,g2,g3⟩:=mQ cx a false x m l2 m2 _ x0 v l1 [c] h1 (fun b hb=>hm b ((pj _ _ _ _ _ _ h2).1 b hb)) (hx ha) hk.1 e1;obtain⟨rfl,k1,cs2,k2,k3⟩:=ih _ _ _ _ _ _ _ _ _ h2 hm hk0.2 hg hk.2 e2
       match cs1,g3 with
       |[],g3=>exact absurd (show[c]=[]from g3) (by simp)
       |c1::t,g3=>obtain⟨d,r2,q1,q2,q3⟩:=g3;obtain⟨rfl,rfl⟩:=bz q3;cases t with|nil=>exact⟨rfl,⟨g1,k1⟩,c1::cs2,⟨c1,cs2,rfl,fun _=>g2,k2⟩,c,cs,.inr q1,k3,rfl⟩|cons=>obtain⟨_,_,_,_,e⟩:=q2;simp at e
      .simp at hc
     .simp at hc
    cases a with|sm=>obtain⟨hsm,hc⟩:=aD (show(bif Sk x0 x then kh h' r y0 y m else none)=_ from hc);simp only[fo]at e1;obtain⟨rfl,rfl⟩:=ad (aa e1);obtain⟨rfl,k1,cs2,k2,k3⟩:=ih _ _ _ _ _ _ _ _ _ hc hm hk0.2 hg hk.2 e2;obtain⟨c',h3,h4⟩:=uW (M:=M) hlow hM hsm hk0.1 hx;exact⟨rfl,⟨c9 _ hk0.1,k1⟩,c'::cs2,⟨c',cs2,rfl,h3,k2⟩,c,cs,h4,k3,rfl⟩|gn=>have hc:kh h' r y0 y m=some (l,m1):=hc;simp only[fo]at e1;obtain⟨rfl,rfl⟩:=ad (aa e1);obtain⟨rfl,k1,cs2,k2,k3⟩:=ih _ _ _ _ _ _ _ _ _ hc hm hk0.2 hg hk.2 e2;exact⟨rfl,⟨trivial,k1⟩,lP::cs2,⟨lP,cs2,rfl,fun h=>by simp[eT]at h,k2⟩,c,cs,.inl rfl,k3,rfl⟩|_=>exact wS hc
   |_=>simp[kh]at hc
  |_=>simp[kh]at hc
 |_=>intro g0 g m l m1 rest g' r' cs hc;simp[kh]at hc
end
def zt(aF:Nat):Ob->Prop
 |.box cs=>∀i∈cR.iB cs,i<aF
 |.nst _ sl=>∀(k i len:Nat),sl[k]?=some (gH.ku i len)->i<aF
 |_=>True
theorem EK{h:H2}{o:O}{aF:Nat}{b:Option Ob}{F:Option Ob}(ho:KB h o b)(hk:uC aF h o)(hF:(∀x,b=some x->zt aF x->F=b)/\(b=none->F=none)):∀g,KB g o b->KB g o F:=by
 intro g hg
 have cK:(b=none\/∃x,b=some x/\zt aF x)->KB g o F:=by
  rintro(e|⟨x,e,hx⟩)
  .rw [hF.2 e,<-e];exact hg
  .rw [hF.1 x e hx];exact hg
 cases o with
 |ar t s v=>cases s with|nil=>exact⟨hg.1,hg.2.1,fun l e=>by cases e⟩|mk l=>exact cK (.inr ⟨_,ho.2.2 l rfl,trivial⟩)
 |im t s v=>cases s with|nil=>exact⟨hg.1,hg.2.1,fun l e=>by cases e⟩|mk l=>exact cK (.inr ⟨_,ho.2.2 l rfl,trivial⟩)
 |bx t c=>obtain⟨cs,h1,h2,_⟩:=ho;exact cK (.inr ⟨_,h1,fun i hi=>(wy h2 hk i hi).1⟩)
 |ib t v=>exact cK (.inr ⟨_,ho.2,trivial⟩)
 |rw t s ln=>cases s with|nil=>exact⟨hg.1,hg.2.1,fun l e=>by cases e⟩|mk l=>refine cK (.inr ⟨_,ho.2.2 l rfl,fun k i len h=>?_⟩);obtain⟨m,rfl⟩:=qm h;exact hk.2.1
 |mp k v m=>exact cK (.inr ⟨_,ho.2.2,trivial⟩)
open Classical in
theorem Es{s1:St}{aF n'':Nat}{mf:List Bd}{e':fN}{h':aY}{g':List C}(hi:th mf)(hn:∀b∈mf,aF+b.j<n'')(hbn:aF<=n'')
  (he:∀t x',bv e' t=some x'->∃x,bv s1.bS t=some x/\wJ (fun i j=>(i=j/\j<aF)\/∃b∈mf,b.id=some j/\i=aF+b.j) x' x)
  (hh:∀i o',ak h' i=some o'->∃j o,((i=j/\j<aF)\/∃b∈mf,b.id=some j/\i=aF+b.j)/\ak s1.heap j=some o/\FC (fun i j=>(i=j/\j<aF)\/∃b∈mf,b.id=some j/\i=aF+b.j) o' o/\∀b∈mf,b.id=some j->i=aF+b.j)
  (hg:DQ (fun i j=>(i=j/\j<aF)\/∃b∈mf,b.id=some j/\i=aF+b.j) g' s1.gh):Sub s1 ⟨e',h',n'',g'⟩:=by
 intro S K w0 Kn φ gv nt a w hR;let Kn':Nat->Prop:=fun i=>(i<aF/\Kn i)\/∃b∈mf,i=aF+b.j/\∃id,b.id=some id/\Kn id;let φ':Nat->d_:=fun i=>if i<aF then φ i else match DI mf (i-aF)with|some ⟨_,some id⟩=>φ id|_=>default
 have hbd:∀b∈mf,DI mf (aF+b.j-aF)=some b:=by intro b hb;rw[Nat.add_sub_cancel_left];cases h:DI mf b.j with|none=>exact absurd rfl (wD h b hb)|some c=>obtain⟨h1,h2⟩:=rC h;rw[(hi c h1 b hb).1 h2]
 have hM:∀i j,((i=j/\j<aF)\/∃b∈mf,b.id=some j/\i=aF+b.j)->Kn j->Kn' i/\φ' i=φ j:=by
  rintro i j (⟨rfl,hlt⟩|⟨b,hb,hid,rfl⟩) hk
  .exact ⟨.inl ⟨hlt,hk⟩,if_pos hlt⟩
  .refine ⟨.inr ⟨b,hb,rfl,j,hid,hk⟩,?_⟩;show(if aF+b.j<aF then _ else _)=_;rw[if_neg (by omega),hbd b hb];obtain⟨bj,bid⟩:=b;simp only at hid;subst hid;rfl
 have hun:∀i j i0,((i=i0/\i0<aF)\/∃b∈mf,b.id=some i0/\i=aF+b.j)->(∀b∈mf,b.id=some i0->i=aF+b.j)->((j=i0/\i0<aF)\/∃b∈mf,b.id=some i0/\j=aF+b.j)->(∀b∈mf,b.id=some i0->j=aF+b.j)->i=j:=by
  rintro i j i0 (⟨rfl,_⟩|⟨b,hb,hid,rfl⟩) hu1 h2 hu2
  .rcases h2 with⟨rfl,_⟩|⟨b,hb,hid,rfl⟩
   .rfl
   .exact hu1 b hb hid
  .exact (hu2 b hb hid).symm
 refine⟨S,Kn',φ',WJ.refl S w,⟨hR.inv.nM,hR.inv.sk,hR.inv.iT,fun i o ho=>?_,fun i j x y hx hy ox oy hne=>?_,hR.inv.t7,?_⟩,fun t x hx=>?_,hR.size,hR.defers,fun j hj hk=>?_,fun i c v hc hv=>?_⟩
 .obtain ⟨j,o0,hij,ho0,htr,_⟩:=hh i o ho;obtain⟨hk,hro⟩:=hR.inv.fh j o0 ho0;obtain⟨hk',e⟩:=hM i j hij hk;refine⟨hk',?_⟩;rw[e];rcases htr with⟨rfl,hnb⟩|⟨a',c',rfl,rfl,htl⟩
  .cases hro with
   |nst hsz hl hS hK hown hext hfit hr hv=>
    refine .nst hsz hl hS hK hown hext hfit (fun q s hs=>?_) hv;obtain⟨v,h1,h2⟩:=hr q s hs;refine⟨v,h1,?_⟩;cases h2 with
    |nil=>exact .nil
    |aW h3 h4 h5=>exact .aW h3 h4 h5
    |ku h3=>exact .ku (lV.rc hM _ _ v (lV.cK _ fun q' hq'=>by
      obtain rfl:q'=_:=by simpa[cR]using hq'
      exact hnb.2 _ _ _ hs) h3)
   |aB hsz hl hS hK hown hext hfit hr hv=>exact .aB hsz hl hS hK hown hext hfit hr hv
   |ML hsz hl hS hr=>exact .ML hsz hl hS hr
   |ji hb hS hr=>exact .ji hb hS hr
   |box=>exact absurd rfl (hnb.1 _)
   |map hS hK hmp hlen hr=>exact .map hS hK hmp hlen hr
   |cap hsz hl hS hK hown hext hfit hr hv hc=>exact .cap hsz hl hS hK hown hext hfit hr hv hc
  .cases hro with|box hb hS hK hown hlen hr=>exact .box hb hS hK hown ((jt.len htl).trans hlen) (jt.rc hM a' c' _ htl hr)
 .obtain ⟨i0,x0,hi0,hx0,htx,huq⟩:=hh i x hx;obtain⟨j0,y0,hj0,hy0,hty,huq2⟩:=hh j y hy
  have hox:bF x0=true:=by
   rcases htx with⟨rfl,_⟩|⟨a',c',rfl,rfl,_⟩
   .exact ox
   .rfl
  have hoy:bF y0=true:=by
   rcases hty with⟨rfl,_⟩|⟨a',c',rfl,rfl,_⟩
   .exact oy
   .rfl
  rw[(hM i i0 hi0 (hR.inv.fh i0 x0 hx0).1).2,(hM j j0 hj0 (hR.inv.fh j0 y0 hy0).1).2];refine hR.inv.jq i0 j0 x0 y0 hx0 hy0 hox hoy fun e=>hne ?_;subst e;exact hun i j i0 hi0 huq hj0 huq2
 .intro i sz sl k x hi hp;obtain⟨i0,x0,hi0,hx0,htx,huq⟩:=hh i _ hi;rcases htx with⟨rfl,_⟩|⟨a',c',e,_⟩
  case inr=>cases e
  rw[(hM i i0 hi0 (hR.inv.fh i0 _ hx0).1).2]at hp;obtain⟨p1,p2⟩:=hR.inv.pw i0 sz sl k x hx0 hp;refine⟨fun j b hj hb=>?_,fun j sz' sl' k' hj hp'=>?_⟩
  .obtain ⟨j0,y0,hj0,hy0,hty,_⟩:=hh j b hj
   have hoy:bF y0=true:=by
    rcases hty with⟨rfl,_⟩|⟨a',c',rfl,rfl,_⟩
    .exact hb
    .rfl
   rw[(hM j j0 hj0 (hR.inv.fh j0 y0 hy0).1).2];exact p1 j0 y0 hy0 hoy
  .obtain ⟨j0,y0,hj0,hy0,hty,huq2⟩:=hh j _ hj;rcases hty with⟨rfl,_⟩|⟨a',c',e,_⟩
   case inr=>cases e
   rw[(hM j j0 hj0 (hR.inv.fh j0 _ hy0).1).2]at hp';obtain⟨e1,e2⟩:=p2 j0 sz' sl' k' hy0 hp';subst e1;exact⟨hun j i j0 hj0 huq2 hi0 huq,e2⟩
 .obtain ⟨x0,h1,h2⟩:=he t x hx;exact wJ.rc hM x x0 _ h2 (hR.bS t x0 h1)
 .have hj:n''<=j:=hj;rcases hk with⟨hlt,_⟩|⟨b,hb,rfl,_⟩
  .omega
  .have:=hn b hb;omega
 .rcases hg.get i c hc with e|⟨d,h1,h2⟩
  .exact .inl e
  .rcases hR.gh i d v h1 hv with rfl|hr
   .left;cases c with
    |jy f l=>obtain⟨m,h3,h4⟩:=h2;simp only[lP,C.jy.injEq]at h4;obtain⟨rfl,rfl⟩:=h4;cases l with|nil=>rfl|cons x l=>obtain⟨_,_,_,_,e⟩:=h3;simp at e
    |d x=>exact absurd (show lP=C.d x from h2) (by simp[lP])
    |_=>obtain⟨_,_,e⟩:=h2;simp[lP]at e
   .exact .inr (lV.rc hM c d v h2 hr)
theorem v6{α:Type}{l:List (Nat×α)}{t:Nat}(h:∀p∈l,p.1≠t):bv l t=none:=by cases hx:bv l t with|none=>rfl|some x=>exact absurd rfl (h _ (p7 hx))
theorem G5{ds:List Nat}{t:Nat}:bv (ds.map fun t=>(t,V.gn)) t=if t∈ds then some .gn else none:=by
 induction ds with
 |nil=>rfl
 |cons d ds ih=>
  simp only[am,bv,ih];by_cases e:d=t
  .subst e;simp
  .have e':(d==t)=false:=by simpa using e
   have:t≠d:=fun q=>e q.symm;simp[e',this]
theorem Iv{kl:List Nat}{h:H2}{i:Nat}:fO (kl.map (fun i=>(i,none))++h) i=if i∈kl then none else fO h i:=by
 induction kl with
 |nil=>rfl
 |cons k kl ih=>
  rw[am,aK,bI,ih];by_cases e:k=i
  .subst e;simp
  .have:i≠k:=fun q=>e q.symm;simp[e,this]
open Classical in
theorem Hx{j:J}{ds w:List Nat}{s1 s1':St}{s0 s' s'':S2}{l:List V}(hr0:R2 s1 s0)(hr:R2 s1' s')(hf:pG ds w s1 s1' s0 s')(hw:∀i∈w,s0.next<=i\/i∈j.kl)(hc:Tg j s0 s'=some l)(hs:nw j ds s0 l=some s''):
  ∃s1'' w',Sub s1' s1''/\R2 s1'' s''/\s''.wo=w'++s0.wo/\pG ds w' s1 s1'' s0 s''/\∀i∈w',s0.next<=i\/i∈j.kl:=by
 unfold Tg at hc;split at hc
 case h_2=>simp at hc
 rename_i l1 m1 hvs;split at hc
 case h_2=>simp at hc
 rename_i l2 m2 hgs;split at hc
 case h_2=>simp at hc
 rename_i l3 mf hos;obtain⟨hchk,hc⟩:=aD hc;obtain rfl:=aa hc;simp only[ae,aL]at hchk;obtain⟨_,hbm⟩:=hchk;unfold nw at hs;split at hs
 case h_2=>simp at hs
 rename_i e r1 hev;split at hs
 case h_2=>simp at hs
 rename_i g' r2 hgv;split at hs
 case h_2=>simp at hs
 rename_i hl r3 hov;obtain rfl:=aa hs
 -- the bindings
 have hm12:=(pj _ _ _ _ _ _ hgs).1;have hm2f:=(nE _ _ _ _ _ hos).1;have hinj:th mf:=(nE _ _ _ _ _ hos).2 ((pj _ _ _ _ _ _ hgs).2 ((rz _ _ _ _ hvs).2 (fun b hb=>by simp at hb)))
 have hbj:∀b∈mf,s0.next+b.j<s0.next+j.os.length:=fun b hb=>by
  have:=(hbm b hb).1;have:b.j<j.os.length:=by simpa[Nat.blt_eq]using this
  omega
 have hbid:∀b∈mf,∀i,b.id=some i->s0.next<=i\/i∈j.kl:=fun b hb i hid=>by have:=(hbm b hb).2;rw[hid]at this;simpa[Nat.ble_eq]using this
 -- what is left of the rows
 have hx0:=JM (h':=s'.heap) hbj;obtain⟨rfl,_⟩:=ru hr hx0 j.vs [] l1 m1 (l2++l3) e r1 hvs (fun b hb=>hm2f b (hm12 b hb)) hev;have hle:s0.next<=s0.next+j.os.length:=ff _ _;have hst0:fF s0.next s0.heap []:=⟨fun i o _ ho=>by simp[fO,bv]at ho⟩
 have hrg:r2=l3:=(NW (n':=s'.next) (hz:=s0.heap) hx0 (fun i _ h=>absurd rfl h) (fun _ _=>trivial) (fun v hv=>WI hle hst0 hv) j.gs s0.gh s'.gh m1 l2 m2 l3 g' r2 s1'.gh hgs hm2f hr0.gh.2 hr.gh.1 hr.gh.2 hgv).1;subst hrg;obtain⟨hap,hge⟩:=yC hr.hr hbj j.os 0 m2 r2 mf [] hl r3 hos (fun b hb=>hb) (by rw[List.append_nil];exact hov);clear hx0
 -- the heap
 generalize hh2:hl++j.kl.map (fun i=>(i,none))++s0.heap=h''
 have hfo:∀i,fO h'' i=match bv hl i with|some o=>o|none=>if i∈j.kl then none else fO s0.heap i:=fun i=>by
  rw[<-hh2,aI];have:fO (hl++(j.kl.map (fun i=>(i,none))++s0.heap)) i=match bv hl i with|some o=>o|none=>fO (j.kl.map (fun i=>(i,none))++s0.heap) i:=by simp only[fO,eh hl];cases bv hl i<;>rfl
  rw[this,Iv]
 have hhl:∀i,i<s0.next->bv hl i=none:=fun i hi=>v6 fun p hp e=>by have:=hge p hp;omega
 have hfl:∀i,i<s0.next->fO h'' i=if i∈j.kl then none else fO s0.heap i:=fun i hi=>by rw[hfo,hhl i hi]
 have hwk:∀i,i<s0.next->i∉j.kl->i∉w:=fun i hi hk hm=>by
  rcases hw i hm with h|h
  .omega
  .exact hk h
 have c9:fF s0.next s0.heap h'':=⟨fun i o hi ho=>by
  rw[hfl i hi]at ho;split at ho
  .simp at ho
  .exact .inl ⟨o,ho,lW.refl _⟩⟩
 have hnb:∀i,i<s0.next->fO s0.heap i=none->fO h'' i=none:=fun i hi h=>by
  rw[hfl i hi];split
  .rfl
  .exact h
 have hlow:∀i,i<s0.next->fO h'' i≠none->fO h'' i=fO s'.heap i:=fun i hi h=>by
  rw[hfl i hi]at h|-;split at h
  .exact absurd rfl h
  .rename_i hk;rw[if_neg hk,(hf.ob i hi (hwk i hi hk)).1]
 generalize hMd:(fun(i j:Nat)=>(i=j/\j<s0.next)\/∃b∈mf,b.id=some j/\i=s0.next+b.j)=M;have hM1:∀i,i<s0.next->M i i:=fun i hi=>by rw[<-hMd];exact .inl ⟨rfl,hi⟩
 have hnew:∀b∈mf,∀o,fO h'' (s0.next+b.j)=some o->AP s'.heap s0.next mf b o:=fun b hb o ho=>by
  rw[hfo]at ho;split at ho
  .rename_i o' hx;obtain⟨o2,rfl,b2,hb2,e2,ha⟩:=hap _ _ hx;obtain rfl:=aa ho;rw[(hinj b hb b2 hb2).1 (by omega)];exact ha
  .split at ho
   .simp at ho
   .have:=(hr0.hr.ob _ _ ho).1;omega
 have cx:Cx s'.heap h'' s0.next (s0.next+j.os.length) mf M:=by
  refine⟨fun b hb i hid=>by rw[<-hMd];exact .inr ⟨b,hb,hid,rfl⟩,hbj,fun b hb i hid c' hc'=>?_,fun b hb i hid c' hc'=>?_,fun b hb hid c' hc'=>?_⟩
  .cases ho:fO h'' (s0.next+b.j)with
   |none=>rw[ho]at hc';simp[sq]at hc'
   |some o=>
    rw[ho]at hc';have ha:=hnew b hb o ho;cases o with
    |ar t s v=>
     obtain⟨_,⟨h1,_⟩|⟨id,ver,h1,h2⟩⟩:=ha
     .rw [hid]at h1;cases h1
     .rw [hid]at h1;obtain rfl:=aa h1;exact⟨t,s,(aa hc').symm,ii (.inl h2)⟩
    |im=>exact ha.elim
    |_=>simp[sq]at hc'
  .cases ho:fO h'' (s0.next+b.j)with
   |none=>rw[ho]at hc';simp[wQ]at hc'
   |some o=>rw[ho]at hc';have ha:=hnew b hb o ho;cases o with|rw t s ln=>obtain⟨_,id,h1,h2⟩:=ha;rw[hid]at h1;obtain rfl:=aa h1;exact⟨t,s,(aa hc').symm,Sp h2⟩|_=>simp[wQ]at hc'
  .cases ho:fO h'' (s0.next+b.j)with
   |none=>rw[ho]at hc';simp[sq]at hc'
   |some o=>
    rw[ho]at hc';have ha:=hnew b hb o ho;cases o with
    |ar t s v=>
     obtain⟨_,⟨_,rfl,_⟩|⟨id,ver,h1,_⟩⟩:=ha
     .rw [<-aa hc'];rfl
     .rw [hid]at h1;cases h1
    |im=>exact ha.elim
    |_=>simp[sq]at hc'
 have hkv:∀v,cX s0.next s0.heap v->cX (s0.next+j.os.length) h'' v:=fun v hv=>WI hle c9 hv;obtain⟨_,hE0⟩:=ru hr cx j.vs [] l1 m1 (l2++r2) e (l2++r2) hvs (fun b hb=>hm2f b (hm12 b hb)) hev;obtain⟨_,hgk,cs',hgR,hgT⟩:=NW (n':=s'.next) cx hlow hM1 hkv j.gs s0.gh s'.gh m1 l2 m2 r2 g' r2 s1'.gh hgs hm2f hr0.gh.2 hr.gh.1 hr.gh.2 hgv
 -- the abstract machine's objects
 have hob0:∀i,∃ob,∀o,bv hl i=some (some o)->KB h'' o ob/\uC (s0.next+j.os.length) h'' o/\∀o1,ob=some o1->∃b∈mf,i=s0.next+b.j/\∃id o0,b.id=some id/\ak s1'.heap id=some o0/\FC M o1 o0:=by intro i;cases hx:bv hl i with|none=>exact⟨none,fun o h=>by cases h⟩|some o'=>obtain⟨o,rfl,b,hb,e2,ha⟩:=hap i o' hx;obtain⟨ob,g1,g2,g3⟩:=IQ hr.hr cx ha;refine⟨ob,fun o2 h=>?_⟩;obtain rfl:=aa (aa h);exact⟨g1,g2,fun o1 h1=>⟨b,hb,e2,g3 o1 h1⟩⟩
 obtain⟨fob,hfob⟩:∃f:Nat->Option Ob,∀i o,bv hl i=some (some o)->KB h'' o (f i)/\uC (s0.next+j.os.length) h'' o/\∀o1,f i=some o1->∃b∈mf,i=s0.next+b.j/\∃id o0,b.id=some id/\ak s1'.heap id=some o0/\FC M o1 o0:=⟨fun i=>fg (hob0 i),fun i=>cW (hob0 i)⟩
 have hF:∃H:aY,∀i,ak H i=match bv hl i with
   |some _=>fob i
   |none=>if i<s0.next/\i∉j.kl then(match ak s1'.heap i with|some o=>if zt s0.next o then some o else none|none=>none)else none:=by
  refine EW _ (hl.map (·.1)++s1'.heap.map (·.1)) fun i hi=>?_;cases hx:bv hl i with|some o=>exact az _ (p8 (by rw[hx];simp))|none=>rw[hx]at hi;refine av _ (Cv fun e=>hi ?_);simp only[e,ite_self]
 obtain⟨H,hH⟩:=hF;have hHn:∀i o,bv hl i=some (some o)->ak H i=fob i:=fun i o h=>by rw[hH i,h]
 have hHl:∀i,i<s0.next->i∉j.kl->(∀x,ak s1'.heap i=some x->zt s0.next x->ak H i=ak s1'.heap i)/\(ak s1'.heap i=none->ak H i=none):=fun i hi hk=>by rw[hH i,hhl i hi];simp only[hi,hk,not_false_eq_true,and_self,if_true];refine⟨fun x hx hlo=>by rw[hx];simp only[hlo,if_true],fun hx=>by rw[hx]⟩
 have hHR:∀i,i<s0.next->i∉j.kl->∀o,fO s0.heap i=some o->∀g,KB g o (ak s1.heap i)->KB g o (ak H i):=fun i hi hk o ho g hg=>by have h1:=(hf.ob i hi (hwk i hi hk)).2 o ho;obtain⟨_,h2,h3⟩:=hr0.hr.ob i o ho;exact EK (h1 _ h2) h3 (hHl i hi hk) g (h1 g hg)
 -- its temporaries
 have hE1:∀t,∃x',∀v,bv e t=some v->cX (s0.next+j.os.length) h'' v/\dD h'' v x'/\∃x,bv s1'.bS t=some x/\wJ M x' x/\∀l,x'≠.fm l:=by intro t;cases hx:bv e t with|none=>exact⟨.fm [],fun v h=>by cases h⟩|some v=>obtain⟨h1,x,x',h2,h3,h4,h5⟩:=hE0 t v hx;refine⟨x',fun v2 h=>?_⟩;obtain rfl:=aa h;exact⟨h1,h3,x,h2,h4,h5⟩
 obtain⟨fe,hfe⟩:∃f:Nat->TV,∀t v,bv e t=some v->cX (s0.next+j.os.length) h'' v/\dD h'' v (f t)/\∃x,bv s1'.bS t=some x/\wJ M (f t) x/\∀l,f t≠.fm l:=⟨fun t=>fg (hE1 t),fun t=>cW (hE1 t)⟩
 have hG:∃E:fN,∀t,bv E t=match bv e t with
   |some _=>some (fe t)
   |none=>(match bv s1'.bS t with|some x=>if∀i∈Rz x,i<s0.next then some x else none|none=>none):=by
  refine BI _ (e.map (·.1)++s1'.bS.map (·.1)) fun t ht=>?_;cases hx:bv e t with|some o=>exact az _ (p8 (by rw[hx];simp))|none=>rw[hx]at ht;refine av _ (p8 fun e=>ht ?_);simp only[e]
 obtain⟨E,hE⟩:=hG;have hEn:∀t v,bv e t=some v->bv E t=some (fe t):=fun t v h=>by rw[hE t,h]
 have hEl:∀t x,bv e t=none->bv s1'.bS t=some x->(∀i∈Rz x,i<s0.next)->bv E t=some x:=fun t x h1 h2 h3=>by rw[hE t,h1,h2];exact if_pos h3
 have hsub:Sub s1' ⟨E,H,s0.next+j.os.length,cs'⟩:=by
  refine Es (aF:=s0.next) hinj hbj hle (fun t x' hx=>?_) (fun i o' ho=>?_) (by rw[hMd];exact hgT)
  .rw [hMd];rw[hE t]at hx;split at hx
   .rename_i v hv;obtain⟨_,_,x,h3,h4,_⟩:=hfe t v hv;rw[<-aa hx];exact⟨x,h3,h4⟩
   .split at hx
    .rename_i x hx1;split at hx
     .rename_i hlo;obtain rfl:=aa hx;exact⟨x,hx1,wJ.cK x fun i hi=>hM1 i (hlo i hi)⟩
     .simp at hx
    .simp at hx
  .rw [hMd];cases hx:bv hl i with
   |some o2=>obtain⟨o,rfl,_⟩:=hap i o2 hx;rw[hHn i o hx]at ho;obtain⟨_,_,h3⟩:=hfob i o hx;obtain⟨b,hb,e2,id,o0,hid,h4,h5⟩:=h3 o' ho;refine⟨id,o0,.inr ⟨b,hb,hid,e2⟩,h4,h5,fun b2 hb2 hid2=>?_⟩;rw[(hinj b2 hb2 b hb).2 id hid2 hid];exact e2
   |none=>
    rw[hH i,hx]at ho;simp only at ho;split at ho
    .rename_i hik;split at ho
     .rename_i o hlo;split at ho
      .rename_i hlow1;obtain rfl:=aa ho;refine⟨i,o,.inl ⟨rfl,hik.1⟩,hlo,?_,fun b hb hid=>?_⟩
       .cases o with|box cs=>exact .inr ⟨cs,cs,rfl,rfl,jt.cK cs fun i hi=>hM1 i (hlow1 i hi)⟩|nst sz sl=>exact .inl ⟨rfl,by simp,fun k q len hk=>hM1 q (hlow1 k q len hk)⟩|_=>exact .inl ⟨rfl,by simp,trivial⟩
       .rcases hbid b hb i hid with h|h
        .have:=hik.1;omega
        .exact absurd h hik.2
      .simp at ho
     .simp at ho
    .simp at ho
 refine⟨⟨E,H,s0.next+j.os.length,cs'⟩,hl.map (·.1)++j.kl,hsub,⟨fun t v ht=>?_,⟨fun i o ho=>?_⟩,ai _,hgR,hgk⟩,rfl,⟨hle,c9,?_,fun i hi hi2=>?_,fun t x ht hx hk=>?_⟩,fun i hi=>?_⟩
 .have ht:bv (e++ds.map (fun t=>(t,V.gn))++s0.bS) t=some v:=ht;rw[aI,eh]at ht;cases hx:bv e t with
  |some v2=>rw[hx]at ht;obtain rfl:=aa ht;obtain⟨h1,h2,_⟩:=hfe t v2 hx;exact⟨h1,fun _=>⟨_,hEn t v2 hx,h2⟩⟩
  |none=>
   rw[hx]at ht;simp only at ht;rw[eh,G5]at ht;by_cases hds:t∈ds
   .rw [if_pos hds]at ht;obtain rfl:=aa ht;exact⟨trivial,fun h=>by rcases h with h|h<;>simp[eT]at h⟩
   .rw [if_neg hds]at ht;obtain⟨h1,h2⟩:=hr0.bS t v ht;refine⟨hkv v h1,fun ha=>?_⟩;obtain⟨x,h3,h4⟩:=h2 (ha.imp (ot c9 hnb h1) fun q=>q);have h5:=nJ c9 h1 h4
    have hids:∀i∈Rz x,i<s0.next/\i∉j.kl/\fO s0.heap i≠none:=fun i hi=>by
     rcases ha with ha|rfl
     .have i1:=(yW h4 h1 i hi).1;have i2:=(yW h5 (hkv v h1) i hi).2 ha;rw[hfl i i1]at i2;split at i2
      .exact absurd rfl i2
      .exact ⟨i1,by assumption,i2⟩
     .obtain rfl:x=.fm []:=h4;simp[Rz,Rz.rW]at hi
    have h6:=hf.bS t x hds h3 fun i hi=>⟨(hids i hi).1,hwk i (hids i hi).1 (hids i hi).2.1,(hids i hi).2.2⟩;exact⟨x,hEl t x hx h6 fun i hi=>(hids i hi).1,h5⟩
 .have ho:fO h'' i=some o:=ho;show i<s0.next+j.os.length/\KB h'' o (ak H i)/\uC (s0.next+j.os.length) h'' o;have ho2:=ho;rw[hfo i]at ho;split at ho
  .rename_i o2 hx;subst ho;obtain⟨h1,h2,_⟩:=hfob i o hx;obtain⟨_,_,b,hb,e2,_⟩:=hap i _ hx;rw[hHn i o hx];exact⟨by have:=hbj b hb;omega,h1,h2⟩
  .split at ho
   .simp at ho
   .rename_i hk;obtain⟨h1,h2,h3⟩:=hr0.hr.ob i o ho;exact⟨by omega,hHR i h1 hk o ho _ (jV c9 h3 h2),jf hle c9 h3⟩
 .show cs'.length=_;rw[hgT.len];exact hf.gl
 .simp only[ah,not_or]at hi2;refine⟨?_,hHR i hi hi2.2⟩;show fO h'' i=_;rw[hfl i hi,if_neg hi2.2]
 .have h6:=hf.bS t x ht hx fun i hi=>by obtain⟨i1,i2,i3⟩:=hk i hi;simp only[ah,not_or]at i2;exact⟨i1,hwk i i1 i2.2,i3⟩
  cases he:bv e t with
  |none=>exact hEl t x he h6 fun i hi=>(hk i hi).1
  |some v=>
   show bv E t=some x;rw[hEn t v he];obtain⟨_,_,x0,h3,h4,h5⟩:=hfe t v he;rw[h6]at h3;obtain rfl:=aa h3;refine congrArg some (wJ.J3 (fun i=>s0.next<=i\/i∈j.kl) (fun a b hab=>?_) h4 h5 fun i hi hB=>?_)
   .rw [<-hMd]at hab;rcases hab with⟨rfl,_⟩|⟨bb,hb,hid,_⟩
    .exact .inl rfl
    .exact .inr (hbid bb hb b hid)
   .obtain ⟨i1,i2,_⟩:=hk i hi;simp only[ah,not_or]at i2;rcases hB with h|h
    .omega
    .exact i2.2 h
 .rcases ah.1 hi with hi|hi
  .obtain ⟨p,hp,rfl⟩:=c8.1 hi;exact .inl (hge p hp)
  .exact .inr hi
end Go.Ev
