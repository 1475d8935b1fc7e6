/- Regions: what an operation leaves. Conditions: as stated. -/
import Derived.Test.YtjjajcecekocdaaGreatFz
open Bool renaming and_eq_true->ah,not_eq_true'->fB
open Classical renaming choose->iJ,choose_spec->eV
open List renaming all_eq_true->aV,append_assoc->aS,cons_append->aO,contains_eq_mem->lg,getElem?_drop->bL,getElem?_take->eK,length_map->aR,map_cons->ap,mem_append->ak,mem_append_left->aG,mem_append_right->aD,mem_cons->aJ,mem_cons_of_mem->aC,mem_filterMap->gL,mem_map->eh,nil_append->bB,singleton_inj->fg
open List.cons renaming inj->cf
open Nat renaming ble->gZ,le_refl->am,le_succ->a_,le_trans->e9,lt_of_lt_of_le->dY,lt_succ_self->aQ,zero_add->bk
open Option.some renaming inj->aa,injEq->bS
open Prod.mk renaming inj->ad
namespace Go.Ev
theorem R2.mono{s1:St}{s:S2}(hr:R2 s1 s){n:Nat}(hn:s.next<=n):R2 s1 {s with next:=n}:=⟨fun t v ht=>(hr.cR t v ht).imp (gy hn (jq.refl _ _)) id,hr.hr.mono hn,e9 hr.next hn,hr.gh.1,gy hn (jq.refl _ _) hr.gh.2⟩
theorem R2.nx{s1:St}{s:S2}(hr:R2 s1 s){n:Nat}(hn:n<=s.next):R2 {s1 with next:=n} s:=⟨hr.cR,hr.hr,hn,hr.gh⟩
theorem R2.wo{s1:St}{s:S2}(hr:R2 s1 s)(w:List Nat):R2 s1 {s with wo:=w}:=⟨hr.cR,hr.hr,hr.next,hr.gh⟩
theorem sq.mono{s1:St}{s:S2}{q:Rg}(hr:sq s1 s q){n:Nat}(hn:s.next<=n):sq s1 {s with next:=n} q:=⟨hr.r.mono hn,hr.kn,fun t g b v h=>let⟨c,h1,h2⟩:=hr.cd t g b v h;⟨c,h1,fun e=>let⟨x,h3,h4,h5⟩:=h2 e;⟨x,h3,h4,gy hn (jq.refl _ _) h5⟩⟩⟩
theorem sq.nx{s1:St}{s:S2}{q:Rg}(hr:sq s1 s q){n:Nat}(hn:n<=s.next):sq {s1 with next:=n} s q:=⟨hr.r.nx hn,hr.kn,hr.cd⟩
theorem sq.none{s1:St}{s:S2}(hr:R2 s1 s):sq s1 s ⟨[],[]⟩:=⟨hr,fun g b h=>by simp[M9,bQ]at h,fun t g b v h=>by simp[bQ]at h⟩
theorem sq.SK{s1:St}{s:S2}{q:Rg}(hr:sq s1 s q){g:Nat}{c:Bool}(hg:bQ s1.cR g=some (tB c)):sq s1 s ⟨(g,c)::q.kn,q.cd⟩:=by
 refine⟨hr.r,fun g' b h=>?_,hr.cd⟩;simp only[M9,bQ]at h;by_cases e:g=g'
 .subst e;have:c=b:=by simpa using h
  rw[<-this];exact hg
 .have e':(g==g')=false:=by simpa using e
  rw[e',cond_false]at h;exact hr.kn g' b h
theorem En{α:Type}{d:Nat}:∀{l:List (Nat×α)}{t:Nat}{x:α},bQ (l.filter fun e=>!(e.1==d)) t=some x->t≠d/\bQ l t=some x:=by
 intro l;induction l with
 |nil=>intro t x h;simp[bQ]at h
 |cons p l ih=>
  obtain⟨a,y⟩:=p;intro t x h;by_cases e:a=d
  .rw [List.filter_cons,if_neg (by simp[e])]at h;obtain⟨h1,h2⟩:=ih h;refine⟨h1,?_⟩;simp only[bQ];have e':(a==t)=false:=by simpa using fun q=>h1 (q.symm.trans e)
   rw[e',cond_false];exact h2
  .rw [List.filter_cons,if_pos (by simp[e])]at h;simp only[bQ]at h|-;by_cases e2:a=t
   .subst e2;have e':(a==a)=true:=by simp
    rw[e',cond_true]at h|-;exact⟨e,h⟩
   .have e':(a==t)=false:=by simpa using e2
    rw[e',cond_false]at h|-;exact ih h
theorem xx{α:Type}:∀{l:List (Nat×α)}{t:Nat}{x:α},bQ l t=some x->(t,x)∈l:=by
 intro l;induction l with
 |nil=>intro t x h;simp[bQ]at h
 |cons p l ih=>
  obtain⟨a,y⟩:=p;intro t x h;simp only[bQ]at h;by_cases e2:a=t
  .subst e2;have:y=x:=by simpa using h
   subst this;exact List.mem_cons_self
  .have e':(a==t)=false:=by simpa using e2
   rw[e',cond_false]at h;exact aC _ (ih h)
theorem C4{q q':Rg}{d:Option Nat}(h:Lw q d=some q'):q'.kn=q.kn/\(∀t y,bQ q'.cd t=some y->d≠some t/\bQ q.cd t=some y/\d≠some y.1)/\∀g b,M9 q.kn g=some b->d≠some g:=by
 cases d with
 |none=>obtain rfl:=aa h;exact⟨rfl,fun t y hy=>⟨by simp,hy,by simp⟩,fun _ _ _=>by simp⟩
 |some d=>
  simp only[Lw]at h;cases hc:(q.cd.any (fun e=>e.2.1==d)||q.kn.any (fun e=>e.1==d))with
  |true=>rw[hc]at h;simp at h
  |false=>
   rw[hc,cond_false]at h;obtain rfl:=aa h;simp only[Bool.or_eq_false_iff,List.any_eq_false,beq_iff_eq]at hc;refine⟨rfl,fun t y hy=>?_,fun g b hg e=>?_⟩
   .obtain ⟨h1,h2⟩:=En hy;exact⟨fun e=>h1 (aa e).symm,h2,fun e=>hc.1 _ (xx h2) (aa e).symm⟩
   .exact hc.2 _ (xx hg) (aa e).symm
theorem CJ{s:S2}{d:Option Nat}{v:V}(t:Nat):bQ (ua s d v).cR t=if d=some t then some v else bQ s.cR t:=by
 cases d with
 |none=>simp[ua]
 |some d=>
  simp only[ua,bQ];by_cases h:d=t
  .simp [h]
  .have h':(d==t)=false:=by simpa using h
   simp[h,h']
theorem qT{s:S2}{d:Option Nat}{v:V}:(ua s d v).heap=s.heap/\(ua s d v).next=s.next/\(ua s d v).gh=s.gh/\(ua s d v).wo=s.wo:=by cases d<;>exact⟨rfl,rfl,rfl,rfl⟩
theorem sq.oV{s1:St}{s s':S2}{q q':Rg}(hr:sq s1 s q){x:TV}{u:eg}{au:List Nat}{m:Nat}{v:V}{l:List Nat}(hd:qK s s' s1.heap x u au m v l){d:Option Nat}(hq:Lw q d=some q'):
  sq ⟨put s1.cR d x,u++s1.heap,m,s1.gh⟩ (ua s' d v) q':=by
 obtain⟨c1,c2,c3⟩:=C4 hq;obtain⟨p1,p2,p3,p4⟩:=qT (s:=s') (d:=d) (v:=v);refine⟨⟨fun t w ht=>?_,by rw[p1,p2];exact hd.hr,by rw[p2];exact hd.m,?_⟩,fun g b hg=>?_,fun t g b w ht=>?_⟩
 .rw [CJ]at ht;rw[p1,p2];show _/\(_->∃y,bQ (put s1.cR d x) t=some y/\_);rw[lm];split at ht
  .rename_i e;obtain rfl:=aa ht;rw[if_pos e];exact⟨hd.Td,fun _=>⟨x,rfl,hd.val⟩⟩
  .rename_i e;rw[if_neg e];rw[hd.cR]at ht;obtain⟨h1,h2⟩:=hr.r.cR t w ht;refine⟨gy hd.le hd.eG h1,fun ha=>?_⟩;obtain⟨y,h3,h4⟩:=h2 (ha.imp (vF hd.eG hd.nb h1) id);exact⟨y,h3,u4 hd.eG h1 h4⟩
 .rw [p3,p1,p2,hd.gh];exact⟨CF hd.eG hd.nb hr.r.gh.2 hr.r.gh.1,gy hd.le hd.eG hr.r.gh.2⟩
 .rw [c1]at hg;show bQ (put s1.cR d x) g=_;rw[lm,if_neg (c3 g b hg)];exact hr.kn g b hg
 .obtain ⟨e1,e2,e3⟩:=c2 t _ ht;obtain⟨c,h1,h2⟩:=hr.cd t g b w e2;show∃c,bQ (put s1.cR d x) g=_/\(c=b->∃y,bQ (put s1.cR d x) t=some y/\_);rw[lm,lm,if_neg e3,if_neg e1,p1,p2];refine⟨c,h1,fun e=>?_⟩;obtain⟨y,h3,h4,h5⟩:=h2 e;exact⟨y,h3,u4 hd.eG h5 h4,gy hd.le hd.eG h5⟩
theorem Ew{s1:St}{s:S2}{q:Rg}(hr:sq s1 s q):qK s s s1.heap (.gB []) [] [] s.next .no []:=qK.pure hr.r.hr rfl trivial fun i hi=>by simp at hi
theorem sq.N9{s1:St}{s:S2}{q q':Rg}(hr:sq s1 s q){d g:Nat}{b c:Bool}{v:V}{x:TV}{m:Nat}(hm:m<=s.next)(hq:Lw q (some d)=some q')(hg:bQ s1.cR g=some (tB c))(hgd:g≠d)
  (hx:c=b->ft s.heap v x/\eW s.next s.heap v):sq ⟨put s1.cR (some d) x,s1.heap,m,s1.gh⟩ (ua s (some d) .gn) ⟨q'.kn,(d,g,b,v)::q'.cd⟩:=by
 obtain⟨c1,c2,c3⟩:=C4 hq;refine⟨⟨fun t w ht=>?_,hr.r.hr,hm,hr.r.gh⟩,fun g' b' hg'=>?_,fun t g' b' w ht=>?_⟩
 .rw [CJ]at ht;show _/\(_->∃y,bQ (put s1.cR (some d) x) t=some y/\_);rw[lm];split at ht
  .obtain rfl:=aa ht;exact⟨trivial,fun h=>by rcases h with h|h<;>simp[ig,ua]at h⟩
  .rename_i e;rw[if_neg e];exact hr.r.cR t w ht
 .rw [show(⟨q'.kn,(d,g,b,v)::q'.cd⟩:Rg).kn=q.kn from c1]at hg';show bQ (put s1.cR (some d) x) g'=_;rw[lm,if_neg (c3 g' b' hg')];exact hr.kn g' b' hg'
 .show ∃c,bQ (put s1.cR (some d) x) g'=_/\(c=b'->∃y,bQ (put s1.cR (some d) x) t=some y/\_);simp only[bQ]at ht;rw[lm,lm];by_cases e:d=t
  .subst e;obtain⟨rfl,rfl,rfl⟩:g=g'/\b=b'/\v=w:=by simpa using ht
   rw[if_pos rfl,if_neg (by simpa using Ne.symm hgd)];exact⟨c,hg,fun e=>⟨x,rfl,hx e⟩⟩
  .have e':(d==t)=false:=by simpa using e
   rw[e',cond_false]at ht;obtain⟨_,e2,e3⟩:=c2 t _ ht;obtain⟨c',h1,h2⟩:=hr.cd t g' b' w e2;rw[if_neg e3,if_neg (by simpa using e)];exact⟨c',h1,h2⟩
def Tp(e:hZ)(gd:Option (Nat×Bool)):GV->Prop
 |.run=>jy e gd=some true/\∀g b,gd=some (g,b)->bQ e g=some (tB b)
 |.skip=>jy e gd=some false
 |.N9 g b c=>gd=some (g,b)/\bQ e g=some (tB c)
theorem pk{e:hZ}{g:Nat}{b c:Bool}(h:bQ e g=some (tB c)):jy e (some (g,b))=some (c==b):=by simp only[jy,h,tB]
theorem I3{e:hZ}{g:Nat}{b c:Bool}(h:bQ e g=some (tB c)):Tp e (some (g,b)) (bif c==b then .run else .skip):=by
 have hw:=pk (b:=b) h;cases hc:(c==b)with
 |true=>
  rw[hc]at hw;refine⟨hw,fun g' b' e'=>?_⟩;obtain⟨rfl,rfl⟩:=ad (aa e');obtain rfl:c=b:=by simpa using hc
  exact h
 |false=>rw[hc]at hw;exact hw
theorem yD{s1:St}{s:S2}{q:Rg}(hr:sq s1 s q){gd:Option (Nat×Bool)}{r:GV}(h:SN s.cR q.kn gd=some r):Tp s1.cR gd r:=by
 unfold SN at h;split at h
 .obtain rfl:=aa h;exact⟨rfl,fun _ _ e=>by simp at e⟩
 .rename_i g b;split at h
  .rename_i c hk;obtain rfl:=aa h;exact I3 (hr.kn g c hk)
  .split at h
   .rename_i c he;obtain rfl:=aa h;obtain⟨x,h1,h2⟩:=(hr.r.cR g _ he).2 (.inl rfl);rw[vP h2]at h1;exact I3 h1
   .rename_i c he;obtain rfl:=aa h;obtain⟨x,h1,h2⟩:=(hr.r.cR g _ he).2 (.inl rfl);rw[E2 h2]at h1;exact⟨rfl,h1⟩
   .rename_i he;obtain rfl:=aa h;obtain⟨x,h1,h2⟩:=(hr.r.cR g _ he).2 (.inr rfl);rw[show x=.gB []from h2]at h1;show jy s1.cR _=_;simp only[jy,h1]
   .simp at h
structure wZ(ds w:List Nat)(s1 s1':St)(s s':S2):Prop where
 le:s.next<=s'.next
 eG:jq s.next s.heap s'.heap
 gl:s1'.gh.length=s1.gh.length
 ob:∀i,i<s.next->i∉w->fO s'.heap i=fO s.heap i/\∀o,fO s.heap i=some o->∀g,vp g o (ao s1.heap i)->vp g o (ao s1'.heap i)
 cR:∀t x,t∉ds->bQ s1.cR t=some x->(∀i∈lR x,i<s.next/\i∉w/\fO s.heap i≠none)->bQ s1'.cR t=some x
def Fr(ds:List Nat)(s1 s1':St)(s s':S2):Prop:=∃w,s'.wo=w++s.wo/\wZ ds w s1 s1' s s'
theorem wZ.next{ds w:List Nat}{s1:St}{s:S2}{n m:Nat}(hn:s.next<=n):wZ ds w s1 {s1 with next:=m} s {s with next:=n}:=⟨hn,jq.refl _ _,rfl,fun _ _ _=>⟨rfl,fun _ _ _ h=>h⟩,fun _ _ _ h _=>h⟩
theorem wZ.trans{ds w w':List Nat}{s1 s2 s3:St}{s s' s'':S2}(a:wZ ds w s1 s2 s s')(b:wZ ds w' s2 s3 s' s''):wZ ds (w'++w) s1 s3 s s'':=by
 refine⟨e9 a.le b.le,a.eG.trans a.le b.eG,b.gl.trans a.gl,fun i hi hw=>?_,fun t x ht hx hc=>?_⟩
 .simp only[ak,not_or]at hw;obtain⟨h1,h2⟩:=a.ob i hi hw.2;obtain⟨h3,h4⟩:=b.ob i (dY hi a.le) hw.1;exact⟨h3.trans h1,fun o ho g hg=>h4 o (h1.trans ho) g (h2 o ho g hg)⟩
 .refine b.cR t x ht (a.cR t x ht hx fun i hi=>?_) fun i hi=>?_
  .obtain ⟨h1,h2,h3⟩:=hc i hi;simp only[ak,not_or]at h2;exact⟨h1,h2.2,h3⟩
  .obtain ⟨h1,h2,h3⟩:=hc i hi;simp only[ak,not_or]at h2;exact⟨dY h1 a.le,h2.1,by rw[(a.ob i h1 h2.2).1];exact h3⟩
theorem wZ.mono{ds ds' w w':List Nat}{s1 s2:St}{s s':S2}(a:wZ ds w s1 s2 s s')(hd:∀t∈ds,t∈ds')(hw:∀i∈w,i∈w'):wZ ds' w' s1 s2 s s':=⟨a.le,a.eG,a.gl,fun i hi h=>a.ob i hi fun q=>h (hw i q),fun t x ht hx hc=>a.cR t x (fun q=>ht (hd t q)) hx fun i hi=>⟨(hc i hi).1,fun q=>(hc i hi).2.1 (hw i q),(hc i hi).2.2⟩⟩
theorem Fr.refl{ds:List Nat}{s1:St}{s:S2}:Fr ds s1 s1 s s:=⟨[],rfl,wZ.next (am _)⟩
theorem Fr.trans{ds:List Nat}{s1 s2 s3:St}{s s' s'':S2}(a:Fr ds s1 s2 s s')(b:Fr ds s2 s3 s' s''):Fr ds s1 s3 s s'':=by obtain⟨w,h1,h2⟩:=a;obtain⟨w',h3,h4⟩:=b;exact⟨w'++w,by rw[h3,h1,aS],h2.trans h4⟩
theorem Fr.mono{ds ds':List Nat}{s1 s2:St}{s s':S2}(a:Fr ds s1 s2 s s')(hd:∀t∈ds,t∈ds'):Fr ds' s1 s2 s s':=let⟨w,h1,h2⟩:=a;⟨w,h1,h2.mono hd fun _ h=>h⟩
theorem Fr.PA{s1:St}{s s':S2}{x:TV}{u:eg}{au:List Nat}{m:Nat}{v v':V}{l:List Nat}(hd:qK s s' s1.heap x u au m v l)(d:Option Nat):Fr d.toList s1 ⟨put s1.cR d x,u++s1.heap,m,s1.gh⟩ s (ua s' d v'):=by
 obtain⟨w,h1,h2,h3⟩:=hd.wo;obtain⟨p1,p2,p3,p4⟩:=qT (s:=s') (d:=d) (v:=v');refine⟨w,p4.trans h1,by rw[p2];exact hd.le,by rw[p1];exact hd.eG,rfl,fun i hi hw=>⟨by rw[p1];exact h3 i hw,fun o ho g hg=>?_⟩,fun t y ht hy _=>?_⟩
 .show vp g o (ao (u++s1.heap) i);rw[wd (u:=u) (i:=i) fun p hp e=>hw (e▸h2 p hp)];exact hg
 .show bQ (put s1.cR d x) t=_;rw[lm,if_neg fun e=>ht (by simp[e])];exact hy
def JX(P:Program)(o:l6)(s1:St)(s s':S2)(q':Rg)(t:List Nat×List Nat):Prop:=
 (jy s1.cR o.guard=some true/\∃call x u au m,kD P call/\bX call o.k (o.args.map (jB s1.cR)) s1.heap s.next=some (x,u,au,m)/\(∀i∈au,i∈t.1)/\(∀p∈u,p.1∈t.2)/\
  sq ⟨put s1.cR o.dst x,u++s1.heap,m,s1.gh⟩ s' q'/\Fr o.dst.toList s1 ⟨put s1.cR o.dst x,u++s1.heap,m,s1.gh⟩ s s')\/
 (jy s1.cR o.guard=some false/\sq ⟨drop s1.cR o.dst,s1.heap,s.next,s1.gh⟩ s' q'/\Fr o.dst.toList s1 ⟨drop s1.cR o.dst,s1.heap,s.next,s1.gh⟩ s s')
section
variable{P:Program}{β:Type}{tb:Dj}{dr:Option Nat}{o:OP}{r:List OP}{i:Nat}{s1:St}{s s0:S2}{q:Rg}{tr:Hx}{k:S2->Hx->Option β}{z:β}
theorem A4(htb:pM P tb)(hg:lU)(hr:sq s1 s q)(hw:jy s1.cR o.o.guard=some true)(hgc:∀g b,o.o.guard=some (g,b)->bQ s1.cR g=some (tB b))
  (hz:(PS tb o s q o.o.guard fun v s1 l=>
   bif GL dr i s1 then(match Lw q o.o.dst with
    |some q=>mT tb dr r (i+1) (ua s1 o.o.dst v) q (tr++[(l,s1.wo.take (s1.wo.length-s.wo.length))]) k
    |none=>none)else none)=some z):
  ∃s' q' t,mT tb dr r (i+1) s' q' (tr++[t]) k=some z/\GL dr i s'=true/\JX P o.o s1 s s' q' t:=by
 obtain⟨v,s',l,h1,call,hc,x,u,au,m,h2,hd⟩:=Jd htb hg hr hgc hz;obtain⟨hb,h1⟩:=aH h1;split at h1
 .rename_i q' hq;refine⟨_,_,_,h1,?_,.inl ⟨hw,call,x,u,au,m,hc,h2,hd.au,fun p hp=>?_,hr.oV hd hq,Fr.PA hd _⟩⟩
  .unfold GL at hb|-;rw[qT.2.1];exact hb
  .obtain ⟨w,h3,h4,_⟩:=hd.wo;have:=h4 p hp;show p.1∈s'.wo.take (s'.wo.length-s.wo.length);rw[h3];simpa using this
 .simp at h1
theorem AT(hr:sq s1 s q)(hb:GL dr i s=true)(hw:jy s1.cR o.o.guard=some false)
  (hz:(match Lw q o.o.dst with|some q=>mT tb dr r (i+1) (ua s o.o.dst .no) q (tr++[([],[])]) k|none=>none)=some z):
  ∃s' q' t,mT tb dr r (i+1) s' q' (tr++[t]) k=some z/\GL dr i s'=true/\JX P o.o s1 s s' q' t:=by
 split at hz
 .rename_i q' hq;refine⟨_,_,_,hz,?_,.inr ⟨hw,?_⟩⟩
  .unfold GL at hb|-;rw[qT.2.1];exact hb
  .exact ⟨hr.oV (Ew hr) hq,Fr.PA (Ew hr) _⟩
 .simp at hz
theorem JG{α:Type}{c:Bool}{x:Option α}{y:α}(h:(bif c then none else x)=some y):x=some y:=by cases c with|true=>simp at h|false=>exact h
theorem B7(htb:pM P tb)(hg:lU)(hr:sq s1 (J3 dr i s0) q)(hb:GL dr i (J3 dr i s0)=true)(hz:mT tb dr (o::r) i s0 q tr k=some z):
  ∃s' q' t,mT tb dr r (i+1) s' q' (tr++[t]) k=some z/\GL dr i s'=true/\JX P o.o s1 (J3 dr i s0) s' q' t:=by
 simp only[mT]at hz;split at hz
 .simp at hz
 .rename_i hgd;obtain⟨h1,h2⟩:=yD hr hgd;exact A4 htb hg hr h1 h2 hz
 .rename_i hgd;exact AT hr hb (yD hr hgd) hz
 .rename_i g b c hgd;obtain⟨h1,h2⟩:=yD hr hgd;split at hz
  .rename_i v l ht;have ht:=JG ht;split at hz
   .rename_i q' d hq hd;cases hgd2:Nat.beq g d with
    |true=>rw[hgd2]at hz;simp at hz
    |false=>
     rw[hgd2,cond_false]at hz;have hne:g≠d:=fun e=>by rw[e]at hgd2;simp at hgd2
     rw[hd]at hq;refine⟨_,_,_,hz,?_,?_⟩
     .unfold GL at hb|-;rw[qT.2.1];exact hb
     .by_cases hcb:c=b
      .subst hcb;obtain⟨x,au,e1,e2,e3,e4⟩:=zN hg hr (gc:=some (g,c)) (fun g' b' e=>by obtain⟨rfl,rfl⟩:=ad (aa e);exact h2) ht cX (J3 dr i s0).next
       refine .inl ⟨by rw[h1,pk h2];simp,cX,x,[],au,_,mz,e1,e4,fun p hp=>by simp at hp,?_⟩;rw[hd];exact⟨hr.N9 (am _) hq h2 hne fun _=>⟨e2,e3⟩,Fr.PA (qK.pure hr.r.hr e2 e3 e4) _⟩
      .refine .inr ⟨by rw[h1,pk h2];simpa using hcb,?_⟩;rw[hd];exact⟨hr.N9 (am _) hq h2 hne fun e=>absurd e hcb,Fr.PA (Ew hr) _⟩
   .simp at hz
  .have hkn:=hr.SK h2;cases b with
   |true=>cases c with|true=>exact A4 htb hg hkn (by rw[h1,pk h2];rfl) (fun g' b' e=>by rw[h1]at e;obtain⟨rfl,rfl⟩:=ad (aa e);exact h2) hz|false=>exact AT hkn hb (by rw[h1,pk h2];rfl) hz
   |false=>cases c with|true=>exact AT hkn hb (by rw[h1,pk h2];rfl) hz|false=>exact A4 htb hg hkn (by rw[h1,pk h2];rfl) (fun g' b' e=>by rw[h1]at e;obtain⟨rfl,rfl⟩:=ad (aa e);exact h2) hz
theorem Gh(htb:pM P tb)(hg:lU):∀(ops:List OP)(i:Nat)(s1:St)(s:S2)(q:Rg)(tr:Hx),mT tb none ops i s q tr k=some z->sq s1 s q->
  WO P (ops.map (·.o)) s1 fun s1'=>∃s' tr',R2 s1' s'/\Fr (ops.filterMap (·.o.dst)) s1 s1' s s'/\k s' tr'=some z:=by
 intro ops;induction ops with
 |nil=>intro i s1 s q tr hz hr;exact wk.of ⟨s,tr,hr.r,Fr.refl,hz⟩
 |cons o r ih=>
  intro i s1 s q tr hz hr;have hsub:Sub s1 {s1 with next:=s.next}:=Sub.heap (fun _=>.inl rfl) hr.r.next;have hr1:sq {s1 with next:=s.next} s q:=hr.nx (am _);obtain⟨s',q',t,h1,_,h2⟩:=B7 (dr:=none) (i:=i) htb hg (show sq {s1 with next:=s.next} (J3 none i s) q from hr1) rfl hz;simp only[ap,WO];have hfs:∀t∈o.o.dst.toList,t∈(o::r).filterMap (·.o.dst):=fun t ht=>by rw[Option.mem_toList]at ht;exact gL.2 ⟨o,by simp,ht⟩
  have hrs:∀t∈r.filterMap (·.o.dst),t∈(o::r).filterMap (·.o.dst):=fun t ht=>by obtain⟨p,hp,hpt⟩:=gL.1 ht;exact gL.2 ⟨p,by simp[hp],hpt⟩
  have key:∀s2,Fr o.o.dst.toList {s1 with next:=s.next} s2 s s'->sq s2 s' q'->WO P (r.map (·.o)) s2 fun s1'=>∃s' tr',R2 s1' s'/\Fr ((o::r).filterMap (·.o.dst)) s1 s1' s s'/\k s' tr'=some z:=by
   intro s2 hf hr2;refine WO.mono (fun s1'⟨s3,tr3,g1,g2,g3⟩=>⟨s3,tr3,g1,?_,g3⟩) (ih _ _ _ _ _ h1 hr2);have f0:Fr ((o::r).filterMap (·.o.dst)) s1 {s1 with next:=s.next} s s:=⟨[],rfl,wZ.next (am _)⟩
   exact(f0.trans (hf.mono hfs)).trans (g2.mono hrs)
  refine⟨_,hsub,?_⟩;rcases h2 with⟨hw,call,x,u,au,m,hc,he,_,_,hr2,hf⟩|⟨hw,hr2,hf⟩
  .exact .inl ⟨hw,call,x,u,au,m,hc,he,key _ hf hr2⟩
  .exact .inr ⟨hw,key _ hf hr2⟩
def Bt:Tr->Hx->Prop
 |[],[]=>True
 |a::x,b::y=>(∀i∈a.1,i∈b.1)/\(∀i∈a.2,i∈b.2)/\Bt x y
 |_,_=>False
theorem Bt.Od:∀{x:Tr}{y:Hx}{a b:List Nat×List Nat},Bt x y->(∀i∈a.1,i∈b.1)->(∀i∈a.2,i∈b.2)->Bt (x++[a]) (y++[b]):=by
 intro x;induction x with
 |nil=>intro y a b h h1 h2;cases y with|nil=>exact⟨h1,h2,trivial⟩|cons=>exact h.elim
 |cons c x ih=>intro y a b h h1 h2;cases y with|nil=>exact h.elim|cons d y=>exact⟨h.1,h.2.1,ih h.2.2 h1 h2⟩
theorem Bt.get:∀{x:Tr}{y:Hx}(i:Nat){a:List Nat×List Nat},Bt x y->x[i]?=some a->∃b,y[i]?=some b/\(∀i∈a.1,i∈b.1)/\(∀i∈a.2,i∈b.2):=by
 intro x;induction x with
 |nil=>intro y i a _ h;simp at h
 |cons c x ih=>
  intro y i a hl h;cases y with
  |nil=>exact hl.elim
  |cons d y=>cases i with|zero=>obtain rfl:=aa h;exact⟨d,rfl,hl.1,hl.2.1⟩|succ i=>exact ih i hl.2.2 (by simpa using h)
theorem JQ{a b c d:List Nat×List Nat}(h:lT c d=true)(a1:∀i∈a.1,i∈c.1)(a2:∀i∈a.2,i∈c.2)(b1:∀i∈b.1,i∈d.1)(b2:∀i∈b.2,i∈d.2):lT a b=true:=by simp only[lT,ah,aV,fB,lg,decide_eq_false_iff_not]at h|-;exact⟨fun i hi=>⟨fun e=>(h.1 i (a2 i hi)).1 (b1 i e),fun e=>(h.1 i (a2 i hi)).2 (b2 i e)⟩,fun i hi e=>h.2 i (b2 i hi) (a1 i e)⟩
def JZ(ops:List OP)(tr:Tr):Prop:=∀(j:Nat)(o:OP)(a:List Nat×List Nat),ops[j]?=some o->tr[j]?=some a->IT o.o.k=true->a.1.length<=1
theorem M2{c:Call}{k:K}{vs:List (Option TV)}{h:bh}{n:Nat}{x:TV}{u:eg}{au:List Nat}{m:Nat}(he:bX c k vs h n=some (x,u,au,m))(hk:IT k=true):au.length<=1:=by
 cases k<;>simp[IT]at hk;rename_i ka ks va zero ok;unfold bX at he;split at he<;>first|(simp at he;done)|skip
 all_goals first
  |(rename_i e;cases e;done)
  |skip
 rename_i e;cases e;split at he
 .rename_i v i hv;obtain⟨_,e⟩:=ad (aa he);obtain⟨_,e⟩:=ad e;obtain⟨rfl,_⟩:=ad e;unfold ia at hv;split at hv
  .split at hv
   .obtain ⟨_,rfl⟩:=ad (aa hv);simp
   .simp at hv
  .split at hv
   .split at hv
    .split at hv
     .split at hv
      .obtain ⟨_,rfl⟩:=ad (aa hv);simp
      .simp at hv
     .split at hv
      .obtain ⟨_,rfl⟩:=ad (aa hv);simp
      .simp at hv
     .simp at hv
    .simp at hv
   .simp at hv
  .simp at hv
 .simp at he
theorem Ny{ops:List OP}{x:Tr}{y:Hx}{dyn:List (Nat×Nat)}(hl:Bt x y)(hk:JZ ops x)(hd:Nz ops y dyn=true):yK x dyn=true:=by
 simp only[Nz,yK,aV]at hd|-;intro p hp;have hp2:=hd p hp;obtain⟨i,j⟩:=p;have key:∀(j':Nat)a b c d,x[i]?=some a->x[j']?=some b->y[i]?=some c->y[j']?=some d->lT c d=true->lT a b=true:=by intro j' a b c d ha hb hc hd h;obtain⟨c',h1,h2,h3⟩:=hl.get i ha;obtain⟨d',h4,h5,h6⟩:=hl.get j' hb;rw[hc]at h1;rw[hd]at h4;obtain rfl:=aa h1;obtain rfl:=aa h4;exact JQ h h2 h3 h5 h6
 by_cases hj:1000<=j
 .have hb:gZ 1000 j=true:=Nat.ble_eq_true_of_le hj;simp only[hb,cond_true]at hp2;simp only[hj,if_true,DA];split
  .rename_i a b ha hb;obtain⟨c,hc,c1,c2⟩:=hl.get i ha;obtain⟨d,hd,_,_⟩:=hl.get (j-1000) hb;rw[hc,hd]at hp2;simp only[Bool.or_eq_true]at hp2|-;rcases hp2 with hp2|hp2
   .exact .inl (key _ a b c d ha hb hc hd hp2)
   .unfold L1 at hp2;split at hp2
    .rename_i o id ho hc2;rw[hc]at hc2;obtain rfl:=aa hc2;simp only[ah]at hp2;have hlen:=hk i o a ho ha hp2.1;obtain⟨a1,a2⟩:=a;obtain rfl:a2=[]:=List.eq_nil_iff_forall_not_mem.2 fun q hq=>by have:=c2 q hq;simp at this
     match a1,hlen,c1 with
     |[],_,_=>left;simp[lT]
     |[q],_,c1=>
      obtain rfl:q=id:=by have:=c1 q (by simp);simpa using this
      right;refine aV.2 fun z hz=>?_;obtain⟨n,hn⟩:=List.getElem?_of_mem hz;rw[bL,eK]at hn;split at hn
      .rename_i hlt;obtain⟨z2,hz2,_,z3⟩:=hl.get _ hn;have hm:z2∈(y.take (j-1000)).drop (i+1):=by refine List.mem_of_getElem? (i:=n) ?_;rw[bL,eK,if_pos hlt];exact hz2
       have:=aV.1 hp2.2 z2 hm;simp only[fB,lg,decide_eq_false_iff_not]at this|-;exact fun q=>this (z3 _ q)
      .simp at hn
    .simp at hp2
  .rfl
 .have hb:gZ 1000 j=false:=by cases h:gZ 1000 j with|false=>rfl|true=>exact absurd (Nat.le_of_ble_eq_true h) hj
  simp only[hb,cond_false]at hp2;simp only[hj,if_false];split
  .rename_i a b ha hb;obtain⟨c,hc,_⟩:=hl.get i ha;obtain⟨d,hd,_⟩:=hl.get j hb;rw[hc,hd]at hp2;exact key _ a b c d ha hb hc hd hp2
  .rfl
theorem WD.mono{P:Program}{aK:Nat}{ops:List l6}{i:Nat}{e:hZ}{h:bh}{tr:Tr}{Q Q':hZ->bh->Tr->Prop}(hq:∀e h tr,Q e h tr->Q' e h tr)(hw:WD P aK ops i e h tr Q):WD P aK ops i e h tr Q':=let⟨calls,h1,e',h',tr',h2,h3⟩:=hw;⟨calls,h1,e',h',tr',h2,hq _ _ _ h3⟩
theorem IB{ops:List OP}{tr:Tr}{o:OP}{t:List Nat×List Nat}(h:JZ ops tr)(ho:ops[tr.length]?=some o)(ht:IT o.o.k=true->t.1.length<=1):JZ ops (tr++[t]):=by
 intro j o' a hj ha hl;by_cases hlt:j<tr.length
 .rw [List.getElem?_append_left hlt]at ha;exact h j o' a hj ha hl
 .rw [List.getElem?_append_right (by omega)]at ha;have:j=tr.length:=by have:=(List.getElem?_eq_some_iff.1 ha).1;simp at this;omega
  subst this;rw[ho]at hj;obtain rfl:=aa hj;simp at ha;rw[<-ha];exact ht hl
theorem Gi(htb:pM P tb)(hg:lU){b:Nat}(ops0:List OP):∀(ops:List OP)(i:Nat)(e:hZ)(h:bh)(n:Nat)(gh:List C)(s:S2)(q:Rg)(tr:Hx)(tr1:Tr),mT tb (some b) ops i s q tr k=some z->sq ⟨e,h,n,gh⟩ s q->s.next<=b+eL*i->Bt tr1 tr->(∀j,ops[j]?=ops0[i+j]?)->tr1.length=i->JZ ops0 tr1->
  WD P b (ops.map (·.o)) i e h tr1 fun e' h' tr1'=>∃s' tr' n',R2 ⟨e',h',n',gh⟩ s'/\Fr (ops.filterMap (·.o.dst)) ⟨e,h,n,gh⟩ ⟨e',h',n',gh⟩ s s'/\s'.next<=b+eL*(i+ops.length)/\Bt tr1' tr'/\JZ ops0 tr1'/\k s' tr'=some z:=by
 intro ops;induction ops with
 |nil=>intro i e h n gh s q tr tr1 hz hr hn ht _ _ hlk;exact PH ⟨s,tr,n,hr.r,Fr.refl,hn,ht,hlk,hz⟩
 |cons o r ih=>
  intro i e h n gh s q tr tr1 hz hr hn ht hops hlen1 hlk;have ho0:ops0[tr1.length]?=some o:=by have:=hops 0;rw[hlen1];simpa using this.symm
  have hops2:∀j,r[j]?=ops0[i+1+j]?:=fun j=>by have:=hops (j+1);rw[show i+1+j=i+(j+1)by omega,<-this];rfl
  have hr1:sq ⟨e,h,n,gh⟩ (J3 (some b) i s) q:=hr.mono hn;have hb:GL (some b) i (J3 (some b) i s)=true:=by simpa[GL,J3]using Kv (aK:=b) (i:=i)
  obtain⟨s',q',t,h1,hb2,h2⟩:=B7 (dr:=some b) htb hg hr1 hb hz;have hb3:s'.next<=b+eL*(i+1):=by simpa[GL]using hb2
  have hlen:i+(o::r).length=i+1+r.length:=by simp only[List.length_cons];omega
  rw[hlen];have hfs:∀t∈o.o.dst.toList,t∈(o::r).filterMap (·.o.dst):=fun t ht=>by rw[Option.mem_toList]at ht;exact gL.2 ⟨o,by simp,ht⟩
  have hrs:∀t∈r.filterMap (·.o.dst),t∈(o::r).filterMap (·.o.dst):=fun t ht=>by obtain⟨p,hp,hpt⟩:=gL.1 ht;exact gL.2 ⟨p,by simp[hp],hpt⟩
  have f0:Fr ((o::r).filterMap (·.o.dst)) ⟨e,h,n,gh⟩ ⟨e,h,n,gh⟩ s (J3 (some b) i s):=⟨[],rfl,wZ.next hn⟩
  rcases h2 with⟨hw,call,x,u,au,m,hc,he,hi,hu,hr2,hf⟩|⟨hw,hr2,hf⟩
  .have hm:m<=b+eL*(i+1):=e9 hr2.r.next hb3;refine Jm hc ?_ (WD.mono (fun e' h' tr1'⟨s3,tr3,n3,g1,g2,g3⟩=>⟨s3,tr3,n3,g1,(f0.trans (hf.mono hfs)).trans (g2.mono hrs),g3⟩) (ih (i+1) _ _ _ _ _ _ _ (tr1++[(au,u.map (·.1))]) h1 hr2 hb3 (ht.Od hi fun j hj=>?_) hops2 (by simp[hlen1]) (IB hlk ho0 fun hl=>M2 he hl)))
   .simp only[BM,hw];have he':bX call o.o.k (o.o.args.map (jB e)) h (b+eL*i)=some (x,u,au,m):=he;rw[he'];exact NZ hm
   .obtain ⟨p,hp,rfl⟩:=eh.1 hj;exact hu p hp
  .refine Jm mz ?_ (WD.mono (fun e' h' tr1'⟨s3,tr3,n3,g1,g2,g3⟩=>⟨s3,tr3,n3,g1,(f0.trans (hf.mono hfs)).trans (g2.mono hrs),g3⟩) (ih (i+1) _ _ _ _ _ _ _ (tr1++[([],[])]) h1 hr2 hb3 (ht.Od (fun i hi=>by simp at hi) fun i hi=>by simp at hi) hops2 (by simp[hlen1]) (IB hlk ho0 fun _=>Nat.zero_le _)));simp only[BM,hw]
end
def mC:C2->CC
 |.skip=>.skip
 |.Kz ops none _=>.region (ops.map (·.o)) []
 |.Kz ops (some dyn) _=>.drawn (ops.map (·.o)) dyn []
 |.seq a b _=>.seq (mC a) (mC b)
 |.cond c a b=>.cond c (mC a) (mC b)
 |.block id a=>.block id (mC a)
 |.loop _ _ a=>.loop [] (mC a)
 |.exit id=>.exit id
 |.ret=>.ret
 |.fG=>.fG
theorem LU{s1:St}{s s':S2}{id:Nat}(hz:N0 s id=some s')(hr:R2 s1 s):∃s1',Sub s1 s1'/\R2 s1' s'/\Fr [] s1 s1' s s':=by
 unfold N0 at hz;split at hz
 .rename_i t v m id2 ho;split at hz
  .rename_i u r ver ho2;split at hz
   .rename_i r' hr';obtain rfl:=aa hz;obtain⟨e,e2⟩:=cE hr';cases e;obtain rfl:r'=r:=e2;obtain⟨_,⟨d1,d2,d3⟩,hlen,hid2,hkk⟩:=hr.hr.ob id _ ho;obtain⟨_,⟨_,_,c3⟩,_⟩:=hr.hr.ob id2 _ ho2;obtain⟨k1,k2⟩:=hkk _ _ _ (.inl ho2);have hne:id2≠id:=fun e=>by rw[e,ho]at ho2;cases ho2
    cases v with
    |nil=>simp[Sl.l]at hlen
    |mk l=>
     have hlen:m<l.length:=hlen;have d3:=d3 l rfl
     have fin:∀(u:eg),(∀p∈u,p.1=id\/p.1=id2)->ao (u++s1.heap) id=some (.nst (bG t) ((dO t l (some (m,id2))).set m (nn t r')))->Sub s1 ⟨s1.cR,u++s1.heap,s1.next,s1.gh⟩->
       ∃s1',Sub s1 s1'/\R2 s1' (c8 (c8 s id2 none) id (some (.rw t (.mk (l.set m r')) none)))/\Fr [] s1 s1' s (c8 (c8 s id2 none) id (some (.rw t (.mk (l.set m r')) none))):=by
      intro u hu hb hsub;have d:=(yd (au:=[]) hr.hr ho ho2 hne (by simp[E5]) hu hb (fun i hi=>by simp at hi)).nx (q:=s1.next) hr.next;exact⟨_,hsub,((sq.none hr).oV d (d:=none) (q':=⟨[],[]⟩) rfl).r,Fr.PA d none (v':=.no)⟩
     have hl:(dO t l (some (m,id2)))[m]?=some (zt id2 (gt l m)):=by simp only[dO];rw[List.getElem?_set_self (by rw[aR];exact hlen)]
     cases r' with
     |nil=>
      refine fin [] (fun p hp=>by simp at hp) ?_ (Sub.refl _);have:gt l m=.nil:=by have k1:true=(gt l m).eS:=k1;cases hg:gt l m with|nil=>rfl|mk=>rw[hg]at k1;cases k1
      rw[bB,d3,HS (by rw[hl,this];rfl)]
     |mk rr=>
      have c3:=c3 rr rfl;refine fin [(id,some (.nst (bG t) ((dO t l (some (m,id2))).set m (nn t (.mk rr))))),(id2,none)] (fun p hp=>by simp at hp;rcases hp with rfl|rfl<;>simp) (by rw[aO,ck,if_pos rfl]) ?_;have:zt id2 (gt l m)=.kU id2 (rr.map (aP t)).length:=by have k1:false=(gt l m).eS:=k1;cases hg:gt l m with|nil=>rw[hg]at k1;cases k1|mk q=>have k2:rr.length=(gt l m).l.length:=k2;rw[hg]at k2;simp only[zt,aR];rw[show rr.length=q.length from k2]
      exact Dx d3 (by rw[hl,this]) c3
   .simp at hz
  .simp at hz
 .obtain rfl:=aa hz;exact⟨s1,Sub.refl _,hr,Fr.refl⟩
theorem LV:∀(l:List Nat){s1:St}{s s':S2},Bs l s=some s'->R2 s1 s->∃s1',Sub s1 s1'/\R2 s1' s'/\Fr [] s1 s1' s s':=by
 intro l;induction l with
 |nil=>intro s1 s s' hz hr;obtain rfl:=aa hz;exact⟨s1,Sub.refl _,hr,Fr.refl⟩
 |cons id l ih=>
  intro s1 s s' hz hr;simp only[Bs]at hz;split at hz
  .rename_i s2 h2;obtain⟨t1,a1,a2,a3⟩:=LU h2 hr;obtain⟨t2,b1,b2,b3⟩:=ih hz a2;exact⟨t2,a1.trans b1,b2,a3.trans b3⟩
  .simp at hz
theorem B0{P:Program}{β:Type}{tb:Dj}(htb:pM P tb)(hg:lU){ops:List OP}{dr:Option (List (Nat×Nat))}{jn:Option J}{s1:St}{s:S2}{k:S2->Option β}{z:β}(hz:FF tb ops dr s k=some z)(hr:R2 s1 s):
  W P (mC (.Kz ops dr jn)) s1 fun o s1'=>o=.normal/\∃s',R2 s1' s'/\Fr (ops.filterMap (·.o.dst)) s1 s1' s s'/\k s'=some z:=by
 have fin:∀{s1':St}{s':S2},R2 s1' s'->Fr (ops.filterMap (·.o.dst)) s1 s1' s s'->(N1 s s').bind k=some z->
   wk (fun t=>ql.normal=ql.normal/\∃s',R2 t s'/\Fr (ops.filterMap (·.o.dst)) s1 t s s'/\k s'=some z) s1':=by
  intro s1' s' h1 h2 h3;obtain⟨s2,h4,h5⟩:=qN h3;obtain⟨t,a1,a2,a3⟩:=LV _ h4 h1;exact⟨t,a1,rfl,s2,a2,h2.trans (a3.mono fun i hi=>by simp at hi),h5⟩
 cases dr with
 |none=>refine HA (WO.mono (fun s1'⟨s',tr',h1,h2,h3⟩=>fin h1 h2 h3) (Gh htb hg ops 0 s1 s _ [] hz (sq.none hr)))
 |some dyn=>
  refine W.sub (s':={s1 with next:=s.next}) (Sub.heap (fun _=>.inl rfl) hr.next) (J9 (WD.mono (fun e' h' tr1 hq=>?_) (Gi htb hg ops ops 0 s1.cR s1.heap s1.next s1.gh s _ [] [] hz (sq.none hr) (Nat.le_add_right _ _) trivial (fun j=>by rw[bk]) rfl (fun j o a _ h=>by simp at h))));obtain⟨s',tr',n',h1,h2,h3,h4,hlk,h5⟩:=hq;obtain⟨h6,h7⟩:=aH h5;have hn:s'.next<=s.next+eL*ops.length:=by rw[bk]at h3;exact h3
  have hlen:s.next+eL*(ops.map (·.o)).length=s.next+eL*ops.length:=by rw[aR]
  rw[hlen];refine⟨Ny h4 hlk h6,fin ((h1.mono hn).nx (am _)) ?_ h7⟩;obtain⟨w,e1,e2⟩:=h2;refine⟨w,e1,?_⟩;have a:wZ (ops.filterMap (·.o.dst)) [] s1 ⟨s1.cR,s1.heap,s1.next,s1.gh⟩ s s:=wZ.next (am _);have b:wZ (ops.filterMap (·.o.dst)) [] ⟨e',h',n',s1.gh⟩ ⟨e',h',s.next+eL*ops.length,s1.gh⟩ s' {s' with next:=s.next+eL*ops.length}:=wZ.next hn;simpa using e2.trans b
theorem I1(l:List D):eN.mG (l.map C.d)=[]:=by induction l with|nil=>rfl|cons a l ih=>simp only[ap,eN.mG,eN,bB];exact ih
theorem I2(a b:List C):eN.mG (a++b)=eN.mG a++eN.mG b:=by induction a with|nil=>rfl|cons c a ih=>simp only[aO,eN.mG,ih,aS]
theorem nY(c:C):eN.mG [c]=eN c:=by simp[eN.mG]
theorem C8{h:H2}{n:Nat}:∀{v:V}{cs:List C},eY h v cs->eW n h v->∀i∈eN.mG cs,i<n/\(ig h v=true->fO h i≠none):=by
 have ex:∀id,(match fO h id with|some _=>true|none=>false)=true->fO h id≠none:=by intro id ha e;rw[e]at ha;simp at ha
 intro v;induction v with
 |x t v=>rintro cs ⟨_,rfl⟩ _ i hi;rw[I1]at hi;simp at hi
 |kb c=>rintro cs rfl _ i hi;simp[eN.mG,eN]at hi
 |nl k=>rintro cs rfl _ i hi;simp[eN.mG,z7,eN]at hi
 |so id=>rintro cs ⟨c,rfl,_,hc⟩ hk i hi;rw[nY]at hi;obtain rfl:=hc i hi;refine⟨hk,fun ha e=>?_⟩;simp[ig,e]at ha
 |sr id=>rintro cs ⟨c,rfl,_,hc⟩ hk i hi;rw[nY]at hi;obtain rfl:=hc i hi;refine⟨hk,fun ha e=>?_⟩;simp[ig,e]at ha
 |sb id ver lo t r=>rintro cs ⟨c,rfl,_,hc⟩ hk i hi;rw[nY]at hi;obtain rfl:=hc i hi;refine⟨hk.1,fun ha e=>?_⟩;simp[ig,e]at ha
 |op id t p=>
  rintro cs rfl hk i hi;rw[nY]at hi;obtain rfl:i=id:=by simpa[eN]using hi
  exact⟨hk.1,ex _⟩
 |ep id m t p=>
  rintro cs rfl hk i hi;rw[nY]at hi;obtain rfl:i=id:=by simpa[eN]using hi
  exact⟨hk.1,ex _⟩
 |om id=>
  rintro cs rfl hk i hi;rw[nY]at hi;obtain rfl:i=id:=by simpa[eN]using hi
  exact⟨hk,ex _⟩
 |pt t v=>rintro cs ⟨_,rfl⟩ _ i hi;simp[eN.mG,eN]at hi
 |fn z f l ih=>intro cs hc hk i hi;cases z with|true=>obtain⟨ds,_,rfl⟩:=hc;simp[eN.mG,eN]at hi|false=>obtain⟨xs,h1,rfl⟩:=hc;rw[nY]at hi;exact ih h1 hk i (by simpa[eN]using hi)
 |rc l ih=>intro cs hc hk;exact ih hc hk
 |fl l=>
  rintro cs ⟨_,rfl⟩ _ i hi;have:eQ l=(l.map D.lit).map C.d:=by simp[eQ]
  rw[this,I1]at hi;simp at hi
 |ni=>rintro cs rfl _ i hi;simp[eN.mG]at hi
 |co a r iha ihr=>
  rintro cs ⟨x,y,rfl,h1,h2⟩ ⟨k1,k2⟩ i hi;rw[I2,ak]at hi;simp only[ig,ah];rcases hi with hi|hi
  .exact ⟨(iha h1 k1 i hi).1,fun ha=>(iha h1 k1 i hi).2 ha.1⟩
  .exact ⟨(ihr h2 k2 i hi).1,fun ha=>(ihr h2 k2 i hi).2 ha.2⟩
 |tp l=>intro cs hc;exact hc.elim
 |no=>intro cs hc;exact hc.elim
 |gn=>intro cs hc;exact hc.elim
theorem xJ{h:H2}{n:Nat}{v:V}{x:TV}(hx:sF h v x)(hk:eW n h v):∀i∈lR x,i<n/\(ig h v=true->fO h i≠none):=by obtain⟨cs,h1,h2,h3⟩:=hx;intro i hi;refine C8 h1 hk i ?_;cases ha:tw v with|true=>rw[h2 ha]at hi;exact hi|false=>obtain⟨c,rfl,rfl⟩:=h3 ha;rw[nY];exact hi
theorem HH{h:H2}{n:Nat}:∀{v:V}{xs:List TV},AF h v xs->eW n h v->∀i∈lR.zy xs,i<n/\(ig h v=true->fO h i≠none):=by
 intro v;induction v with
 |ni=>rintro xs rfl _ i hi;simp[lR.zy]at hi
 |co a r _ ihr=>
  rintro xs ⟨x,ys,rfl,h1,h2⟩ ⟨k1,k2⟩ i hi;simp only[lR.zy,ak]at hi;simp only[ig,ah];rcases hi with hi|hi
  .exact ⟨(xJ h1 k1 i hi).1,fun ha=>(xJ h1 k1 i hi).2 ha.1⟩
  .exact ⟨(ihr h2 k2 i hi).1,fun ha=>(ihr h2 k2 i hi).2 ha.2⟩
 |_=>intro xs h;exact h.elim
theorem E1{h:H2}{n:Nat}{v:V}{x:TV}(hx:ft h v x)(hk:eW n h v):∀i∈lR x,i<n/\(ig h v=true->fO h i≠none):=by cases v with|tp l=>obtain⟨xs,rfl,h2⟩:=hx;intro i hi;exact HH (v:=l) h2 hk i hi|no=>obtain rfl:=hx;intro i hi;simp[lR,lR.zy]at hi|gn=>exact hx.elim|_=>exact xJ hx hk
mutual
def sB(M:Nat->Nat->Prop):C->C->Prop
 |.d x,y=>y=.d x
 |.bP a i b c,y=>∃j,M i j/\y=.bP a j b c
 |.ep i b c,y=>∃j,M i j/\y=.ep j b c
 |.op i b,y=>∃j,M i j/\y=.op j b
 |.om i,y=>∃j,M i j/\y=.om j
 |.oL f l,y=>∃m,ou M l m/\y=.oL f m
def ou(M:Nat->Nat->Prop):List C->List C->Prop
 |[],m=>m=[]
 |c::l,m=>∃d r,sB M c d/\ou M l r/\m=d::r
end
mutual
def Di(M:Nat->Nat->Prop):TV->TV->Prop
 |.c x,y=>∃d,sB M x d/\y=.c d
 |.agg l,y=>∃m,ou M l m/\y=.agg m
 |.gB l,y=>∃m,zH M l m/\y=.gB m
def zH(M:Nat->Nat->Prop):List TV->List TV->Prop
 |[],m=>m=[]
 |c::l,m=>∃d r,Di M c d/\zH M l r/\m=d::r
end
section
variable{M:Nat->Nat->Prop}
theorem ou.d(l:List D):ou M (l.map .d) (l.map .d):=by induction l with|nil=>rfl|cons a l ih=>exact⟨_,_,rfl,ih,rfl⟩
theorem ou.Od{a b x y:List C}(h1:ou M a x)(h2:ou M b y):ou M (a++b) (x++y):=by induction a generalizing x with|nil=>obtain rfl:=h1;exact h2|cons c a ih=>obtain⟨d,r,h3,h4,rfl⟩:=h1;exact⟨d,r++y,h3,ih h4,rfl⟩
theorem ou.one{c d:C}(h:sB M c d):ou M [c] [d]:=⟨d,[],h,rfl,rfl⟩
mutual
theorem sB.dW:∀(c:C),(∀i∈eN c,M i i)->sB M c c
 |.d x,_=>rfl
 |.bP a i b c,h=>⟨i,h i (by simp[eN]),rfl⟩
 |.ep i b c,h=>⟨i,h i (by simp[eN]),rfl⟩
 |.op i b,h=>⟨i,h i (by simp[eN]),rfl⟩
 |.om i,h=>⟨i,h i (by simp[eN]),rfl⟩
 |.oL f l,h=>⟨l,ou.dW l (fun i hi=>h i (by simpa[eN]using hi)),rfl⟩
theorem ou.dW:∀(l:List C),(∀i∈eN.mG l,M i i)->ou M l l
 |[],_=>rfl
 |c::l,h=>⟨c,l,sB.dW c (fun i hi=>h i (by simp[eN.mG,hi])),ou.dW l (fun i hi=>h i (by simp[eN.mG,hi])),rfl⟩
end
mutual
theorem Di.dW:∀(x:TV),(∀i∈lR x,M i i)->Di M x x
 |.c x,h=>⟨x,sB.dW x h,rfl⟩
 |.agg l,h=>⟨l,ou.dW l h,rfl⟩
 |.gB l,h=>⟨l,zH.dW l h,rfl⟩
theorem zH.dW:∀(l:List TV),(∀i∈lR.zy l,M i i)->zH M l l
 |[],_=>rfl
 |c::l,h=>⟨c,l,Di.dW c (fun i hi=>h i (by simp[lR.zy,hi])),zH.dW l (fun i hi=>h i (by simp[lR.zy,hi])),rfl⟩
end
mutual
theorem sB.sM{i' i:Nat}(hm:M i' i):∀(c:C),(∀j∈eN c,j=i)->∃c',sB M c' c/\∀j∈eN c',j=i'
 |.d x,_=>⟨.d x,rfl,fun j hj=>by simp[eN]at hj⟩
 |.bP a j b c,h=>by obtain rfl:=h j (by simp[eN]);exact⟨.bP a i' b c,⟨_,hm,rfl⟩,fun j hj=>by simpa[eN]using hj⟩
 |.ep j b c,h=>by obtain rfl:=h j (by simp[eN]);exact⟨.ep i' b c,⟨_,hm,rfl⟩,fun j hj=>by simpa[eN]using hj⟩
 |.op j b,h=>by obtain rfl:=h j (by simp[eN]);exact⟨.op i' b,⟨_,hm,rfl⟩,fun j hj=>by simpa[eN]using hj⟩
 |.om j,h=>by obtain rfl:=h j (by simp[eN]);exact⟨.om i',⟨_,hm,rfl⟩,fun j hj=>by simpa[eN]using hj⟩
 |.oL f l,h=>by obtain⟨l',h1,h2⟩:=ou.sM hm l (fun j hj=>h j (by simpa[eN]using hj));exact⟨.oL f l',⟨l,h1,rfl⟩,fun j hj=>h2 j (by simpa[eN]using hj)⟩
theorem ou.sM{i' i:Nat}(hm:M i' i):∀(l:List C),(∀j∈eN.mG l,j=i)->∃l',ou M l' l/\∀j∈eN.mG l',j=i'
 |[],_=>⟨[],rfl,fun j hj=>by simp[eN.mG]at hj⟩
 |c::l,h=>by obtain⟨c',h1,h2⟩:=sB.sM hm c (fun j hj=>h j (by simp[eN.mG,hj]));obtain⟨l',h3,h4⟩:=ou.sM hm l (fun j hj=>h j (by simp[eN.mG,hj]));refine⟨c'::l',⟨c,l,h1,h3,rfl⟩,fun j hj=>?_⟩;simp only[eN.mG,ak]at hj;exact hj.elim (h2 j) (h4 j)
end
mutual
theorem sB.eq(B:Nat->Prop)(hM:∀i j,M i j->i=j\/B j):∀(c' c:C),sB M c' c->(∀i∈eN c,¬B i)->c'=c
 |.d x,c,h,_=>h.symm
 |.bP a i b e,c,h,hb=>by
  obtain⟨j,h1,rfl⟩:=h;rcases hM i j h1 with rfl|q
  .rfl
  .exact absurd q (hb j (by simp[eN]))
 |.ep i b e,c,h,hb=>by
  obtain⟨j,h1,rfl⟩:=h;rcases hM i j h1 with rfl|q
  .rfl
  .exact absurd q (hb j (by simp[eN]))
 |.op i b,c,h,hb=>by
  obtain⟨j,h1,rfl⟩:=h;rcases hM i j h1 with rfl|q
  .rfl
  .exact absurd q (hb j (by simp[eN]))
 |.om i,c,h,hb=>by
  obtain⟨j,h1,rfl⟩:=h;rcases hM i j h1 with rfl|q
  .rfl
  .exact absurd q (hb j (by simp[eN]))
 |.oL f l,c,h,hb=>by obtain⟨m,h1,rfl⟩:=h;rw[ou.eq B hM l m h1 fun i hi=>hb i (by simpa[eN]using hi)]
theorem ou.eq(B:Nat->Prop)(hM:∀i j,M i j->i=j\/B j):∀(l' l:List C),ou M l' l->(∀i∈eN.mG l,¬B i)->l'=l
 |[],l,h,_=>h.symm
 |c::r,l,h,hb=>by obtain⟨d,m,h1,h2,rfl⟩:=h;rw[sB.eq B hM c d h1 fun i hi=>hb i (by simp[eN.mG,hi]),ou.eq B hM r m h2 fun i hi=>hb i (by simp[eN.mG,hi])]
end
theorem Di.TI(B:Nat->Prop)(hM:∀i j,M i j->i=j\/B j){x' x:TV}(h:Di M x' x)(hn:∀l,x'≠.gB l)(hb:∀i∈lR x,¬B i):x'=x:=by cases x' with|c a=>obtain⟨d,h1,rfl⟩:=h;rw[sB.eq B hM a d h1 hb]|agg a=>obtain⟨d,h1,rfl⟩:=h;rw[ou.eq B hM a d h1 hb]|gB l=>exact absurd rfl (hn l)
theorem ou.len:∀{l m:List C},ou M l m->l.length=m.length
 |[],m,h=>by obtain rfl:=h;rfl
 |c::l,m,h=>by obtain⟨d,r,_,h2,rfl⟩:=h;simp[ou.len h2]
section
variable{S:Nat->Prop}{w:World}{Kn Kn':Nat->Prop}{φ φ':Nat->gi}
mutual
theorem sB.rc(hM:∀i j,M i j->Kn j->Kn' i/\φ' i=φ j):∀(c' c:C)(v:Value),sB M c' c->RC S w Kn φ c v->RC S w Kn' φ' c' v
 |.d x,c,v,h,hr=>by obtain rfl:=h;cases hr with|d hd=>exact .d hd
 |.bP a i b e,c,v,h,hr=>by obtain⟨j,h1,rfl⟩:=h;obtain⟨cap,addr,rfl,rfl,hk,hcap,haddr,hext,hcl⟩:=hr.gW;obtain⟨e2,e1⟩:=hM i j h1 hk;have:=RC.bP (S:=S) (w:=w) (Kn:=Kn') (φ:=φ') (id:=i) (off:=b) (len:=e) (cap:=cap) (addr:=addr) e2 hcap (by rw[e1];exact haddr) (by rw[e1];exact hext) (by rw[e1];exact hcl);rw[e1]at this;exact this
 |.ep i b e,c,v,h,hr=>by obtain⟨j,h1,rfl⟩:=h;cases hr with|ep hk=>obtain⟨e2,e1⟩:=hM i j h1 hk;have:=RC.ep (S:=S) (w:=w) (Kn:=Kn') (φ:=φ') (id:=i) (eU:=b) (off:=e) e2;rw[e1]at this;exact this
 |.op i b,c,v,h,hr=>by obtain⟨j,h1,rfl⟩:=h;cases hr with|op hk=>obtain⟨e2,e1⟩:=hM i j h1 hk;have:=RC.op (S:=S) (w:=w) (Kn:=Kn') (φ:=φ') (id:=i) (off:=b) e2;rw[e1]at this;exact this
 |.om i,c,v,h,hr=>by obtain⟨j,h1,rfl⟩:=h;cases hr with|om hk=>obtain⟨e2,e1⟩:=hM i j h1 hk;have:=RC.om (S:=S) (w:=w) (Kn:=Kn') (φ:=φ') (id:=i) e2;rw[e1]at this;exact this
 |.oL f l,c,v,h,hr=>by obtain⟨m,h1,rfl⟩:=h;cases hr with|oL hlen hrc=>exact .oL ((ou.len h1).trans hlen) (ou.rc hM l m _ h1 hrc)
theorem ou.rc(hM:∀i j,M i j->Kn j->Kn' i/\φ' i=φ j):∀(l' l:List C)(f:Nat->Value),ou M l' l->(∀(i:Nat)(x:C),l[i]?=some x->RC S w Kn φ x (f i))->∀(i:Nat)(x:C),l'[i]?=some x->RC S w Kn' φ' x (f i)
 |[],l,f,h,_=>fun i x hi=>by simp at hi
 |c::r,l,f,h,hr=>by
  obtain⟨d,m,h1,h2,rfl⟩:=h;intro i x hi;cases i with
  |zero=>
   obtain rfl:c=x:=by simpa using hi
   exact sB.rc hM c d _ h1 (hr 0 d rfl)
  |succ i=>exact ou.rc hM r m (fun i=>f (i+1)) h2 (fun i x hi=>hr (i+1) x (by simpa using hi)) i x (by simpa using hi)
end
mutual
theorem Di.rc(hM:∀i j,M i j->Kn j->Kn' i/\φ' i=φ j):∀(x' x:TV)(v:Value),Di M x' x->e_ S w Kn φ x v->e_ S w Kn' φ' x' v
 |.c a,x,v,h,hr=>by obtain⟨d,h1,rfl⟩:=h;cases hr with|c hr=>exact .c (sB.rc hM a d v h1 hr)
 |.agg a,x,v,h,hr=>by obtain⟨d,h1,rfl⟩:=h;cases hr with|agg hlen hr=>exact .agg ((ou.len h1).trans hlen) (ou.rc hM a d _ h1 hr)
 |.gB a,x,v,h,hr=>by obtain⟨d,h1,rfl⟩:=h;cases hr with|gB hlen hr=>obtain⟨e1,e2⟩:=zH.rc hM a d _ h1 hr;exact .gB (e1.trans hlen) e2
theorem zH.rc(hM:∀i j,M i j->Kn j->Kn' i/\φ' i=φ j):∀(l' l:List TV)(f:Nat->Value),zH M l' l->(∀(i:Nat)(x:TV),l[i]?=some x->e_ S w Kn φ x (f i))->l'.length=l.length/\∀(i:Nat)(x:TV),l'[i]?=some x->e_ S w Kn' φ' x (f i)
 |[],l,f,h,_=>by obtain rfl:=h;exact⟨rfl,fun i x hi=>by simp at hi⟩
 |c::r,l,f,h,hr=>by
  obtain⟨d,m,h1,h2,rfl⟩:=h;obtain⟨e1,e2⟩:=zH.rc hM r m (fun i=>f (i+1)) h2 (fun i x hi=>hr (i+1) x (by simpa using hi));refine⟨by simp[e1],fun i x hi=>?_⟩;cases i with
  |zero=>
   obtain rfl:c=x:=by simpa using hi
   exact Di.rc hM c d _ h1 (hr 0 d rfl)
  |succ i=>exact e2 i x (by simpa using hi)
end
end
end
theorem Jp{s1 s1':St}{s:S2}(hr:R2 s1 s){t id ver lo v0:Nat}{u u0:Ty}{x:Sl (El u)}{s0:Sl (El u0)}(hid:id<s.next)(he:∀t',t'≠t->bQ s1'.cR t'=bQ s1.cR t')(ht1:bQ s1'.cR t=some (.c (kr (bG u) (aP u) s.next x)))
  (hh:∀i,i≠id->i≠s.next->ao s1'.heap i=ao s1.heap i) (hn:∀g,vp g (.ar u x 0) (ao s1'.heap s.next)) (hnx:s1'.next<=s.next+1) (hgh:s1'.gh=s1.gh) (hte:∀x0,bQ s1.cR t=some x0->id∉lR x0->bQ s1'.cR t=some x0):
  R2 s1' ⟨(t,.so s.next)::s.cR,(s.next,some (.ar u x 0))::(id,none)::s.heap,s.next+1,s.next::id::s.wo,s.gh⟩/\
  Fr [] s1 s1' s ⟨(t,.so s.next)::s.cR,(s.next,some (.ar u x 0))::(id,none)::s.heap,s.next+1,s.next::id::s.wo,s.gh⟩:=by
 have hfo:∀i,fO ((s.next,some (.ar u x 0))::(id,none)::s.heap) i=if s.next=i then some (.ar u x 0)else if id=i then none else fO s.heap i:=fun i=>by rw[cC,cC]
 have eG:jq s.next s.heap ((s.next,some (.ar u x 0))::(id,none)::s.heap):=⟨fun i o' hi ho=>by
  rw[hfo,if_neg (by omega)]at ho;split at ho
  .simp at ho
  .exact .inl ⟨o',ho,sf.refl _⟩⟩
 have hnb:∀i,i<s.next->fO s.heap i=none->fO ((s.next,some (.ar u x 0))::(id,none)::s.heap) i=none:=fun i hi h=>by
  rw[hfo,if_neg (by omega)];split
  .rfl
  .exact h
 refine⟨⟨fun t' v ht'=>?_,⟨fun i o ho=>?_⟩,hnx,?_⟩,?_⟩
 .simp only[bQ]at ht';by_cases e:t=t'
  .subst e;have e':(t==t)=true:=by simp
   rw[e',cond_true]at ht';obtain rfl:=aa ht';exact⟨aQ _,fun _=>⟨_,ht1,v9⟩⟩
  .have e':(t==t')=false:=by simpa using e
   rw[e',cond_false]at ht';obtain⟨h1,h2⟩:=hr.cR t' v ht';refine⟨gy (a_ _) eG h1,fun ha=>?_⟩;obtain⟨y,h3,h4⟩:=h2 (ha.imp (vF eG hnb h1) fun q=>q);exact⟨y,(he t' fun q=>e q.symm).trans h3,u4 eG h1 h4⟩
 .have ho':=ho;rw[hfo]at ho;split at ho
  .rename_i e;subst e;obtain rfl:=aa ho;exact⟨aQ _,hn _,trivial⟩
  .rename_i e;split at ho
   .simp at ho
   .rename_i e2;obtain⟨h1,h2,h3⟩:=hr.hr.ob i o ho;rw[hh i (fun q=>e2 q.symm) (fun q=>e q.symm)];exact⟨Nat.lt_succ_of_lt h1,pw eG h3 h2,nW (a_ _) eG h3⟩
 .rw [hgh];exact⟨CF eG hnb hr.gh.2 hr.gh.1,gy (a_ _) eG hr.gh.2⟩
 .refine ⟨[s.next,id],rfl,a_ _,eG,by rw[hgh],fun i hi hw=>?_,fun t' y _ hy hk=>?_⟩
  .simp only[aJ,List.not_mem_nil,or_false,not_or]at hw;refine⟨?_,fun o _ g hg=>by rw[hh i hw.2 hw.1];exact hg⟩;show fO ((s.next,some (.ar u x 0))::(id,none)::s.heap) i=_;rw[hfo,if_neg fun q=>hw.1 q.symm,if_neg fun q=>hw.2 q.symm]
  .by_cases e:t'=t
   .subst e;exact hte y hy fun q=>(hk id q).2.1 (by simp)
   .rw [he t' e];exact hy
theorem Lr{s1:St}{s:S2}(hr:R2 s1 s){t id ver lo v0:Nat}{u u0:Ty}{x:Sl (El u)}{s0:Sl (El u0)}(ht:bQ s.cR t=some (.sb id ver lo u x))(ho:fO s.heap id=some (.ar u0 s0 v0))(hd:jW u=true)(hv:(v0==ver)=true):
  ∃s1',Sub s1 s1'/\R2 s1' ⟨(t,.so s.next)::s.cR,(s.next,some (.ar u x 0))::(id,none)::s.heap,s.next+1,s.next::id::s.wo,s.gh⟩/\
   Fr [] s1 s1' s ⟨(t,.so s.next)::s.cR,(s.next,some (.ar u x 0))::(id,none)::s.heap,s.next+1,s.next::id::s.wo,s.gh⟩:=by
 obtain⟨hk,hx⟩:=hr.cR t _ ht;have ha:ig s.heap (.sb id ver lo u x)=true:=by simp only[ig,ho,hd,hv,Bool.and_self]
 obtain⟨y,hy,hty⟩:=hx (.inl ha);obtain rfl:=qo hty ha;obtain⟨hid,hk2⟩:=hk;obtain⟨_,hcut⟩:=hk2 u0 s0 v0 (.inl ho);obtain⟨hsz,hcut⟩:=hcut (by simpa using hv);obtain⟨hd0,hs0,hlk⟩:=(hr.hr.ob id _ ho).2.1;have hne:id≠s.next:=Nat.ne_of_lt hid;cases s0 with
 |nil=>cases x with|mk l=>exact hcut.elim|nil=>refine⟨{s1 with next:=s.next},Sub.heap (fun _=>.inl rfl) hr.next,Jp (v0:=0) (ver:=0) (lo:=0) (u0:=u) (s0:=.nil) hr hid (fun _ _=>rfl) hy (fun _ _ _=>rfl) (fun g=>⟨hd,hsz▸hs0,fun l e=>by cases e⟩) (a_ _) rfl fun x0 h0 _=>h0⟩
 |mk l0=>
  cases x with
  |nil=>exact hcut.elim
  |mk l=>
   obtain⟨h1,h2⟩:=hcut;have hlk:=hlk l0 rfl;have hsub:=Kj (n:=s.next) (gh:=s1.gh) (rows':=l.map (aP u)) hy hlk (by rw[aR];exact h2) (by rw[aR,aR];exact h1);refine⟨_,Sub.trans (Sub.heap (fun _=>.inl rfl) hr.next) hsub,Jp (v0:=0) (ver:=0) (lo:=0) (u0:=u) (s0:=.nil) hr hid (fun t' ht'=>?_) ?_ (fun i h3 h4=>?_) (fun g=>⟨hd,hsz▸hs0,fun l' e=>?_⟩) (am _) rfl fun x0 h0 h3=>?_⟩
   .have e':(t==t')=false:=by simpa using fun q:t=t'=>ht' q.symm
    simp only[bQ,e',cond_false]
   .simp only[bQ,kr];simp
   .simp only[ck];rw[if_neg fun q=>h3 q.symm,if_neg fun q=>h4 q.symm]
   .cases e;simp only[ck];rw[if_neg hne];simp
   .rw [hy]at h0;obtain rfl:=aa h0;exact absurd (by simp[lR,xp,eN]) h3
theorem Am:∀(vs:List (Nat×JV))(s1:St)(s:S2),R2 s1 s->∃s1',Sub s1 s1'/\R2 s1' (zD vs s)/\Fr [] s1 s1' s (zD vs s):=by
 intro vs;induction vs with
 |nil=>intro s1 s hr;exact⟨s1,Sub.refl _,hr,Fr.refl⟩
 |cons p r ih=>
  obtain⟨t,jv⟩:=p;intro s1 s hr;cases jv with
  |so j=>
   simp only[zD];split
   .rename_i id ver lo u x ht;split
    .rename_i u0 s0 v0 ho;cases hc:(jW u&&v0==ver)with|false=>exact ih s1 s hr|true=>simp only[ah]at hc;obtain⟨s2,h1,h2,h3⟩:=Lr hr ht ho hc.1 hc.2;obtain⟨s3,h4,h5,h6⟩:=ih s2 _ h2;exact⟨s3,h1.trans h4,h5,h3.trans h6⟩
    .exact ih s1 s hr
   .exact ih s1 s hr
  |_=>exact ih s1 s hr
def Az(m:List Bd):Prop:=∀b∈m,∀c∈m,(b.j=c.j->b=c)/\∀i,b.id=some i->c.id=some i->b=c
theorem yU:∀{m:List Bd}{j:Nat}{b:Bd},JH m j=some b->b∈m/\b.j=j:=by
 intro m;induction m with
 |nil=>intro j b h;simp[JH]at h
 |cons c m ih=>intro j b h;simp only[JH]at h;cases hc:(c.j==j)with|true=>rw[hc,cond_true]at h;obtain rfl:=aa h;exact⟨by simp,by simpa using hc⟩|false=>rw[hc,cond_false]at h;exact⟨aC _ (ih h).1,(ih h).2⟩
theorem Db:∀{m:List Bd}{j:Nat},JH m j=none->∀b∈m,b.j≠j:=by
 intro m;induction m with
 |nil=>intro j _ b hb;simp at hb
 |cons c m ih=>
  intro j h b hb;simp only[JH]at h;cases hc:(c.j==j)with
  |true=>rw[hc]at h;simp at h
  |false=>
   rw[hc,cond_false]at h;rcases aJ.1 hb with rfl|hb
   .simpa using hc
   .exact ih h b hb
theorem k8{m m':List Bd}{b:Bd}(h:uq m b=some m'):b∈m'/\(∀c∈m,c∈m')/\(Az m->Az m'):=by
 unfold uq at h;split at h
 .rename_i hn;have hn:=Db hn;have hfresh:m'=b::m/\∀c∈m,∀i,b.id=some i->c.id≠some i:=by obtain⟨hc,h⟩:=aH h;obtain rfl:=aa h;refine⟨rfl,fun c hcm i hi e=>?_⟩;rw[hi]at hc;have:=aV.1 hc c hcm;rw[e]at this;simp at this
  obtain⟨rfl,hf⟩:=hfresh;refine⟨by simp,fun c hc=>aC _ hc,fun hi x hx y hy=>?_⟩;rcases aJ.1 hx with ex|hx2<;>rcases aJ.1 hy with ey|hy2
  .subst ex;subst ey;exact⟨fun _=>rfl,fun _ _ _=>rfl⟩
  .subst ex;exact⟨fun e=>absurd e.symm (hn y hy2),fun i h1 h2=>absurd h2 (hf y hy2 i h1)⟩
  .subst ey;exact⟨fun e=>absurd e (hn x hx2),fun i h1 h2=>absurd h1 (hf x hx2 i h2)⟩
  .exact hi x hx2 y hy2
 .rename_i c hc;obtain⟨h1,h2⟩:=yU hc;split at h
  .rename_i i i' hi hi';obtain⟨he,h⟩:=aH h;obtain rfl:=aa h;obtain rfl:i=i':=by simpa using he
   have:b=c:=by cases b;cases c;simp only at hi hi' h2;subst hi;subst hi';subst h2;rfl
   exact⟨this▸h1,fun _ h=>h,fun h=>h⟩
  .simp at h
theorem t5:∀(jv:JV)(ln:Bool)(v:V)(m:List Bd)(l:List V)(m1:List Bd),di jv ln v m=some (l,m1)->(∀c∈m,c∈m1)/\(Az m->Az m1):=by
 have b1:∀(m:List Bd)(b:Bd)(l:List V)(m1:List Bd),(match uq m b with|some m=>some (([]:List V),m)|none=>none)=some (l,m1)->(∀c∈m,c∈m1)/\(Az m->Az m1):=by
  intro m b l m1 h;split at h
  .rename_i m' hm;obtain⟨_,rfl⟩:=ad (aa h);exact(k8 hm).2
  .simp at h
 intro jv;induction jv with
 |co a r iha ihr=>
  intro ln v m l m1 h;cases ln with
  |false=>cases v<;>simp[di]at h
  |true=>
   cases v with
   |co x y=>
    simp only[di]at h;split at h
    .rename_i l2 m2 h2;split at h
     .rename_i l3 m3 h3;obtain⟨_,rfl⟩:=ad (aa h);obtain⟨a1,a2⟩:=iha _ _ _ _ _ h2;obtain⟨c1,c2⟩:=ihr _ _ _ _ _ h3;exact⟨fun c hc=>c1 c (a1 c hc),fun hi=>c2 (a2 hi)⟩
     .simp at h
    .simp at h
   |_=>simp[di]at h
 |rc a ih=>
  intro ln v m l m1 h;cases ln with
  |true=>cases v<;>simp[di]at h
  |false=>
   cases v with
   |rc l'=>exact ih _ _ _ _ _ h
   |x t v=>cases t<;>first|exact ih _ _ _ _ _ h|simp[di]at h
   |_=>simp[di]at h
 |fn z f a ih=>
  intro ln v m l m1 h;cases ln with
  |true=>cases v<;>simp[di]at h
  |false=>cases v with|fn z' f' l'=>simp only[di]at h;obtain⟨_,h⟩:=aH h;exact ih _ _ _ _ _ h|_=>simp[di]at h
 |so j=>
  intro ln v m l m1 h;cases ln with
  |true=>cases v<;>simp[di]at h
  |false=>
   cases v with
   |so id=>exact b1 _ _ _ _ h
   |nl k=>cases k with|zero=>exact b1 _ _ _ _ h|succ=>simp[di]at h
   |x t v=>cases t with|sl u=>exact b1 _ _ _ _ (aH h).2|_=>simp[di]at h
   |_=>simp[di]at h
 |om j=>
  intro ln v m l m1 h;cases ln with
  |true=>cases v<;>simp[di]at h
  |false=>cases v with|om id=>exact b1 _ _ _ _ h|_=>simp[di]at h
 |sr j=>
  intro ln v m l m1 h;cases ln with
  |true=>cases v<;>simp[di]at h
  |false=>
   cases v with
   |sr id=>exact b1 _ _ _ _ h
   |nl k=>cases k with|zero=>exact b1 _ _ _ _ h|succ=>simp[di]at h
   |_=>simp[di]at h
 |op j t p=>
  intro ln v m l m1 h;cases ln with
  |true=>cases v<;>simp[di]at h
  |false=>cases v with|op id u q=>simp only[di]at h;obtain⟨_,h⟩:=aH h;exact b1 _ _ _ _ h|_=>simp[di]at h
 |x t=>
  intro ln v m l m1 h;cases ln with
  |true=>cases v<;>simp[di]at h
  |false=>
   simp only[di]at h;split at h
   .obtain ⟨_,rfl⟩:=ad (aa h);exact⟨fun _ h=>h,fun h=>h⟩
   .simp at h
 |pt t=>
  intro ln v m l m1 h;cases ln with
  |true=>cases v<;>simp[di]at h
  |false=>
   cases v with
   |pt u v=>
    simp only[di]at h;split at h
    .obtain ⟨_,rfl⟩:=ad (aa h);exact⟨fun _ h=>h,fun h=>h⟩
    .simp at h
   |_=>simp[di]at h
 |nl k=>
  intro ln v m l m1 h;cases ln with
  |true=>cases v<;>simp[di]at h
  |false=>cases v with|nl k'=>simp only[di]at h;obtain⟨_,h⟩:=aH h;obtain⟨_,rfl⟩:=ad (aa h);exact⟨fun _ h=>h,fun h=>h⟩|_=>simp[di]at h
 |ni=>
  intro ln v m l m1 h;cases ln with
  |false=>cases v<;>simp[di]at h
  |true=>cases v with|ni=>obtain⟨_,rfl⟩:=ad (aa h);exact⟨fun _ h=>h,fun h=>h⟩|_=>simp[di]at h
 |sm=>intro ln v m l m1 h;cases ln<;>cases v<;>simp[di]at h
 |gn=>intro ln v m l m1 h;cases ln<;>cases v<;>simp[di]at h
structure Cx(h' h'':H2)(aK n'':Nat)(mf:List Bd)(M:Nat->Nat->Prop):Prop where
 m:∀b∈mf,∀i,b.id=some i->M (aK+b.j) i
 n:∀b∈mf,aK+b.j<n''
 so:∀b∈mf,∀i,b.id=some i->∀c',zQ (aK+b.j) (fO h'' (aK+b.j))=some c'->∃t s,c'=kr (bG t) (aP t) (aK+b.j) s/\zQ i (fO h' i)=some (kr (bG t) (aP t) i s)
 sr:∀b∈mf,∀i,b.id=some i->∀c',zg (aK+b.j) (fO h'' (aK+b.j))=some c'->∃(t:Ty)(s:Sl (Sl (El t))),c'=kr 1 (aP (.sl t)) (aK+b.j) s/\zg i (fO h' i)=some (kr 1 (aP (.sl t)) i s)
 nr:∀b∈mf,b.id=none->∀c',zg (aK+b.j) (fO h'' (aK+b.j))=some c'->c'=z7 0
 nl:∀b∈mf,b.id=none->∀c',zQ (aK+b.j) (fO h'' (aK+b.j))=some c'->c'=z7 0
theorem DU:∀{q:pS}{p:List Nat},B2 q=some p->q=p.map .fd:=by
 intro q;induction q with
 |nil=>intro p h;obtain rfl:=aa h;rfl
 |cons a q ih=>
  intro p h;cases a with
  |ix=>simp[B2]at h
  |fd i=>
   simp only[B2]at h;split at h
   .rename_i l hl;obtain rfl:=aa h;rw[ih hl];rfl
   .simp at h
theorem HY{b:Nat}{a r:JV}{l:List V}{v0 v':V}{r':List V}(h:iL b (.co a r) true l v0=some (v',r')):∃x0 y0 v l1 w,iL b a false l x0=some (v,l1)/\iL b r true l1 y0=some (w,r')/\v'=.co v w:=by
 have key:∀(x0 y0:V),(match iL b a false l x0 with|some (v,l)=>(match iL b r true l y0 with|some (w,l)=>some (V.co v w,l)|none=>none)|none=>none)=some (v',r')->∃x0 y0 v l1 w,iL b a false l x0=some (v,l1)/\iL b r true l1 y0=some (w,r')/\v'=.co v w:=by
  intro x0 y0 h;split at h
  .rename_i v l1 h1;split at h
   .rename_i w l2 h2;obtain⟨rfl,rfl⟩:=ad (aa h);exact⟨x0,y0,v,l1,w,h1,h2,rfl⟩
   .simp at h
  .simp at h
 cases v0 with|co x y=>exact key x y h|_=>exact key .gn .ni h
theorem OE{b:Nat}{t:Ty}{y:El t}{rest:List V}{v0 v':V}{r':List V}(h:iL b (.x t) false (.x t y::rest) v0=some (v',r')):jW t=true/\v'=.x t y/\r'=rest:=by simp only[iL]at h;obtain⟨h1,h⟩:=aH h;obtain⟨rfl,rfl⟩:=ad (aa h);simp only[decide_true,Bool.true_and]at h1;exact⟨h1,rfl,rfl⟩
theorem HX{b:Nat}{t:Ty}{y:El t}{rest:List V}{v0 v':V}{r':List V}(h:iL b (.pt t) false (.x t y::rest) v0=some (v',r')):jW t=true/\v'=.pt t y/\r'=rest:=by simp only[iL]at h;obtain⟨h1,h⟩:=aH h;obtain⟨rfl,rfl⟩:=ad (aa h);simp only[decide_true,Bool.true_and]at h1;exact⟨h1,rfl,rfl⟩
theorem Hf{aK:Nat}:∀(jv:JV)(v:V)(m:List Bd)(l:List V)(m1:List Bd)(rest:List V)(v0 v':V)(r':List V)(ds:List D),di jv true v m=some (l,m1)->qD v=some ds->iL aK jv true (l++rest) v0=some (v',r')->
  r'=rest/\qD v'=some ds/\∀n h,eW n h v':=by
 intro jv;induction jv with
 |co a r _ ihr=>
  intro v m l m1 rest v0 v' r' ds hc hd hr;cases v with
  |co x y=>
   simp only[di]at hc;split at hc
   .rename_i l1 m2 h1;split at hc
    .rename_i l2 m3 h2;obtain⟨rfl,rfl⟩:=ad (aa hc);obtain⟨x0,y0,w1,r1,w2,e1,e2,rfl⟩:=HY hr;simp only[qD]at hd;split at hd
     .rename_i d1 d2 hd1 hd2;obtain rfl:=aa hd;rw[aS]at e1
      have hx:∃t z,x=.pt t z/\jW t=true/\d1=[.pt (aP t z)]:=by
       cases x with
       |pt t z=>
        simp only[qD]at hd1;split at hd1
        .exact ⟨t,z,rfl,by assumption,(aa hd1).symm⟩
        .simp at hd1
       |ni=>cases a<;>simp[di]at h1<;>simp[rx,kH,gX]at h1
       |co=>cases a<;>simp[di]at h1<;>simp[rx,kH,gX]at h1
       |_=>simp[qD]at hd1
      obtain⟨t,z,rfl,hdt,rfl⟩:=hx
      have ha:∃u z',fF t u z=some z'/\a=.pt u/\l1=[.x u z']:=by
       cases a with
       |pt u=>
        simp only[di]at h1;split at h1
        .rename_i z' hz';obtain⟨rfl,_⟩:=ad (aa h1);exact⟨u,z',hz',rfl,rfl⟩
        .simp at h1
       |x u=>simp only[di]at h1;split at h1<;>rename_i hh<;>simp[rx,kH,gX]at hh;simp at h1
       |_=>simp[di]at h1
      obtain⟨u,z',hz',rfl,rfl⟩:=ha;obtain⟨rfl,rfl⟩:=cE hz';obtain⟨_,rfl,rfl⟩:=HX e1;obtain⟨rfl,g2,g3⟩:=ihr _ _ _ _ _ _ _ _ _ h2 hd2 e2;refine⟨rfl,?_,fun n h=>⟨trivial,g3 n h⟩⟩;simp only[qD,hdt,if_true,g2]
     .simp at hd
    .simp at hc
   .simp at hc
  |_=>simp[di]at hc
 |ni=>intro v m l m1 rest v0 v' r' ds hc hd hr;cases v with|ni=>obtain⟨rfl,_⟩:=ad (aa hc);simp only[iL]at hr;obtain⟨rfl,rfl⟩:=ad (aa hr);exact⟨rfl,hd,fun _ _=>trivial⟩|_=>simp[di]at hc
 |_=>intro v m l m1 rest v0 v' r' ds hc hd hr;cases v<;>simp[di]at hc
section
variable{h' h'':H2}{n' n'' aK:Nat}{mf:List Bd}{M:Nat->Nat->Prop}
theorem Mz(cx:Cx h' h'' aK n'' mf M){b:Bd}(hb:b∈mf){i:Nat}(hi:b.id=some i){c:C}(hc:(∀c',zQ i (fO h' i)=some c'->c=c')/\Nd i c):∃c',eY h'' (.so (aK+b.j)) [c']/\sB M c' c:=by
 obtain⟨c',h1,h2⟩:=sB.sM (cx.m b hb i hi) c hc.2;refine⟨c',⟨c',rfl,fun c2 hc2=>?_,h2⟩,h1⟩;obtain⟨t,s,rfl,h4⟩:=cx.so b hb i hi c2 hc2;obtain rfl:=hc.1 _ h4;cases s with
 |nil=>cases c' with|d x=>have:kr (bG t) (aP t) i (.nil:Sl (El t))=.d x:=h1;rw[<-this];rfl|_=>simp[kr,sB]at h1
 |mk l=>
  cases c' with
  |bP a i2 b2 e=>obtain⟨j,_,e2⟩:=h1;have e3:=h2 i2 (by simp[eN]);simp only[kr,C.bP.injEq]at e2|-;exact⟨e2.1.symm,e3,e2.2.2.1.symm,e2.2.2.2.symm⟩
  |d x=>simp[kr,sB]at h1
  |_=>simp[kr,sB]at h1
theorem My(cx:Cx h' h'' aK n'' mf M){b:Bd}(hb:b∈mf){i:Nat}(hi:b.id=some i){c:C}(hc:(∀c',zg i (fO h' i)=some c'->c=c')/\Nd i c):∃c',eY h'' (.sr (aK+b.j)) [c']/\sB M c' c:=by
 obtain⟨c',h1,h2⟩:=sB.sM (cx.m b hb i hi) c hc.2;refine⟨c',⟨c',rfl,fun c2 hc2=>?_,h2⟩,h1⟩;obtain⟨t,s,rfl,h4⟩:=cx.sr b hb i hi c2 hc2;obtain rfl:=hc.1 _ h4;cases s with
 |nil=>cases c' with|d x=>have:kr 1 (aP (.sl t)) i (.nil:Sl (Sl (El t)))=.d x:=h1;rw[<-this];rfl|_=>simp[kr,sB]at h1
 |mk l=>
  cases c' with
  |bP a i2 b2 e=>obtain⟨j,_,e2⟩:=h1;have e3:=h2 i2 (by simp[eN]);simp only[kr,C.bP.injEq]at e2|-;exact⟨e2.1.symm,e3,e2.2.2.1.symm,e2.2.2.2.symm⟩
  |d x=>simp[kr,sB]at h1
  |_=>simp[kr,sB]at h1
theorem t4(cx:Cx h' h'' aK n'' mf M):∀(jv:JV)(ln:Bool)(v:V)(m:List Bd)(l:List V)(m1:List Bd)(rest:List V)(v0 v':V)(r':List V)(cs:List C),di jv ln v m=some (l,m1)->(∀b∈m1,b∈mf)->eY h' v cs->eW n' h' v->iL aK jv ln (l++rest) v0=some (v',r')->
  r'=rest/\eW n'' h'' v'/\tw v'=tw v/\(∀l,v'≠.tp l)/\∃cs',eY h'' v' cs'/\ou M cs' cs:=by
 intro jv;induction jv with
 |x t=>
  intro ln v m l m1 rest v0 v' r' cs hc hm hv hk hr;cases ln with
  |true=>cases v<;>simp[di]at hc
  |false=>
   simp only[di]at hc;split at hc
   .rename_i y hy;obtain⟨rfl,rfl⟩:=ad (aa hc);obtain⟨hd,rfl,rfl⟩:=OE hr;obtain rfl:=iN v false t y cs hy hv;exact⟨rfl,trivial,(wv hy).symm,by simp,_,⟨hd,rfl⟩,ou.d _⟩
   .simp at hc
 |pt t=>
  intro ln v m l m1 rest v0 v' r' cs hc hm hv hk hr;cases ln with
  |true=>cases v<;>simp[di]at hc
  |false=>
   cases v with
   |pt u v=>
    simp only[di]at hc;split at hc
    .rename_i y hy;obtain⟨rfl,rfl⟩:=cE hy;obtain⟨rfl,rfl⟩:=ad (aa hc);obtain⟨hd,rfl,rfl⟩:=HX hr;obtain⟨_,rfl⟩:=hv;exact⟨rfl,trivial,rfl,by simp,_,⟨hd,rfl⟩,ou.one rfl⟩
    .simp at hc
   |_=>simp[di]at hc
 |sr j=>
  intro ln v m l m1 rest v0 v' r' cs hc hm hv hk hr;cases ln with
  |true=>cases v<;>simp[di]at hc
  |false=>
   have hr2:∀l2:List V,iL aK (.sr j) false l2 v0=some (.sr (aK+j),l2):=fun l2=>by simp only[iL]
   cases v with
   |sr id=>
    simp only[di]at hc;split at hc
    .rename_i m2 hb;obtain⟨rfl,rfl⟩:=ad (aa hc);rw[hr2]at hr;obtain⟨rfl,rfl⟩:=ad (aa hr);have hbm:=hm _ (k8 hb).1;obtain⟨c,rfl,h1⟩:=hv;obtain⟨c',h2,h3⟩:=My cx hbm rfl h1;exact⟨rfl,cx.n _ hbm,rfl,by simp,_,h2,ou.one h3⟩
    .simp at hc
   |nl k=>
    cases k with
    |succ=>simp[di]at hc
    |zero=>
     simp only[di]at hc;split at hc
     .rename_i m2 hb;obtain⟨rfl,rfl⟩:=ad (aa hc);rw[hr2]at hr;obtain⟨rfl,rfl⟩:=ad (aa hr);have hbm:=hm _ (k8 hb).1;obtain rfl:=hv;exact⟨rfl,cx.n _ hbm,rfl,by simp,_,⟨z7 0,rfl,fun c' hc'=>(cx.nr _ hbm rfl c' hc').symm,fun i hi=>by simp[z7,eN]at hi⟩,ou.one rfl⟩
     .simp at hc
   |_=>simp[di]at hc
 |so j=>
  intro ln v m l m1 rest v0 v' r' cs hc hm hv hk hr;cases ln with
  |true=>cases v<;>simp[di]at hc
  |false=>
   have hr2:∀l2:List V,iL aK (.so j) false l2 v0=some (.so (aK+j),l2):=fun l2=>by simp only[iL]
   cases v with
   |so id=>
    simp only[di]at hc;split at hc
    .rename_i m2 hb;obtain⟨rfl,rfl⟩:=ad (aa hc);rw[hr2]at hr;obtain⟨rfl,rfl⟩:=ad (aa hr);have hbm:=hm _ (k8 hb).1;obtain⟨c,rfl,h1⟩:=hv;obtain⟨c',h2,h3⟩:=Mz cx hbm rfl h1;exact⟨rfl,cx.n _ hbm,rfl,by simp,_,h2,ou.one h3⟩
    .simp at hc
   |nl k=>
    cases k with
    |succ=>simp[di]at hc
    |zero=>
     simp only[di]at hc;split at hc
     .rename_i m2 hb;obtain⟨rfl,rfl⟩:=ad (aa hc);rw[hr2]at hr;obtain⟨rfl,rfl⟩:=ad (aa hr);have hbm:=hm _ (k8 hb).1;obtain rfl:=hv;exact⟨rfl,cx.n _ hbm,rfl,by simp,_,⟨z7 0,rfl,fun c' hc'=>(cx.nl _ hbm rfl c' hc').symm,fun i hi=>by simp[z7,eN]at hi⟩,ou.one rfl⟩
     .simp at hc
   |x t v=>
    cases t with
    |sl u=>
     simp only[di]at hc;obtain⟨hnil,hc⟩:=aH hc;split at hc
     .rename_i m2 hb;obtain⟨rfl,rfl⟩:=ad (aa hc);rw[hr2]at hr;obtain⟨rfl,rfl⟩:=ad (aa hr);have hbm:=hm _ (k8 hb).1;obtain⟨_,rfl⟩:=hv;have hv:v=Sl.nil:=by cases v with|nil=>rfl|mk l=>simp[Sl.eS]at hnil
      subst hv;exact⟨rfl,cx.n _ hbm,rfl,by simp,_,⟨z7 0,rfl,fun c' hc'=>(cx.nl _ hbm rfl c' hc').symm,fun i hi=>by simp[z7,eN]at hi⟩,ou.one rfl⟩
     .simp at hc
    |_=>simp[di]at hc
   |_=>simp[di]at hc
 |om j=>
  intro ln v m l m1 rest v0 v' r' cs hc hm hv hk hr;cases ln with
  |true=>cases v<;>simp[di]at hc
  |false=>
   have hr2:∀l2:List V,iL aK (.om j) false l2 v0=some (.om (aK+j),l2):=fun l2=>by simp only[iL]
   cases v with
   |om id=>
    simp only[di]at hc;split at hc
    .rename_i m2 hb;obtain⟨rfl,rfl⟩:=ad (aa hc);rw[hr2]at hr;obtain⟨rfl,rfl⟩:=ad (aa hr);have hbm:=hm _ (k8 hb).1;obtain rfl:=hv;exact⟨rfl,cx.n _ hbm,rfl,by simp,_,rfl,ou.one ⟨id,cx.m _ hbm id rfl,rfl⟩⟩
    .simp at hc
   |_=>simp[di]at hc
 |op j t p=>
  intro ln v m l m1 rest v0 v' r' cs hc hm hv hk hr;cases ln with
  |true=>cases v<;>simp[di]at hc
  |false=>
   have hr2:∀l2:List V,iL aK (.op j t p) false l2 v0=some (.op (aK+j) t (p.map .fd),l2):=fun l2=>by simp only[iL]
   cases v with
   |op id u q=>
    simp only[di]at hc;obtain⟨hq,hc2⟩:=aH hc;clear hc;have hc:=hc2;clear hc2;simp only[ah,decide_eq_true_eq]at hq;obtain⟨rfl,hq⟩:=hq;obtain rfl:=DU hq;split at hc
    .rename_i m2 hb;obtain⟨rfl,rfl⟩:=ad (aa hc);rw[hr2]at hr;obtain⟨rfl,rfl⟩:=ad (aa hr);have hbm:=hm _ (k8 hb).1;obtain rfl:=hv;exact⟨rfl,⟨cx.n _ hbm,hk.2⟩,rfl,by simp,_,rfl,ou.one ⟨id,cx.m _ hbm id rfl,rfl⟩⟩
    .simp at hc
   |_=>simp[di]at hc
 |nl k=>
  intro ln v m l m1 rest v0 v' r' cs hc hm hv hk hr;cases ln with
  |true=>cases v<;>simp[di]at hc
  |false=>
   cases v with
   |nl k'=>
    simp only[di]at hc;obtain⟨hq,hc2⟩:=aH hc;clear hc;have hc:=hc2;clear hc2;obtain rfl:k=k':=by simpa using hq
    obtain⟨rfl,rfl⟩:=ad (aa hc);have hr2:∀l2:List V,iL aK (.nl k) false l2 v0=some (.nl k,l2):=fun l2=>by simp only[iL]
    rw[hr2]at hr;obtain⟨rfl,rfl⟩:=ad (aa hr);obtain rfl:=hv;exact⟨rfl,trivial,rfl,by simp,_,rfl,ou.one rfl⟩
   |_=>simp[di]at hc
 |fn z f a ih=>
  intro ln v m l m1 rest v0 v' r' cs hc hm hv hk hr;cases ln with
  |true=>cases v<;>simp[di]at hc
  |false=>
   cases v with
   |fn z' f' l'=>
    simp only[di]at hc;obtain⟨hq,hc2⟩:=aH hc;clear hc;have hc:=hc2;clear hc2;simp only[ah,beq_iff_eq]at hq;obtain⟨rfl,rfl⟩:=hq;simp only[iL]at hr;split at hr
    .rename_i w l2 hw;obtain⟨rfl,rfl⟩:=ad (aa hr);cases z with|true=>obtain⟨ds,hd,rfl⟩:=hv;obtain⟨rfl,g1,g2⟩:=Hf a l' m l m1 rest .ni w l2 ds hc hd hw;exact⟨rfl,g2 _ _,rfl,by simp,_,⟨ds,g1,rfl⟩,ou.one rfl⟩|false=>obtain⟨xs,hx,rfl⟩:=hv;obtain⟨rfl,g1,_,_,cs',g2,g3⟩:=ih true l' m l m1 rest .ni w l2 xs hc hm hx hk hw;exact⟨rfl,g1,rfl,by simp,_,⟨cs',g2,rfl⟩,ou.one ⟨xs,g3,rfl⟩⟩
    .simp at hr
   |_=>simp[di]at hc
 |rc a ih=>
  intro ln v m l m1 rest v0 v' r' cs hc hm hv hk hr;cases ln with
  |true=>cases v<;>simp[di]at hc
  |false=>
   simp only[iL]at hr;split at hr
   .rename_i w l2 hw;obtain⟨rfl,rfl⟩:=ad (aa hr);cases v with
    |rc l'=>obtain⟨rfl,g1,_,_,cs',g2,g3⟩:=ih true l' m l m1 rest .ni w l2 cs hc hm hv hk hw;exact⟨rfl,g1,rfl,by simp,cs',g2,g3⟩
    |x t v=>cases t with|st t=>obtain⟨hd,rfl⟩:=hv;obtain⟨rfl,g1,_,_,cs',g2,g3⟩:=ih true (F0 t v) m l m1 rest .ni w l2 _ hc hm (AG t v hd) (Dw t v) hw;exact⟨rfl,g1,rfl,by simp,cs',g2,g3⟩|_=>simp[di]at hc
    |_=>simp[di]at hc
   .simp at hr
 |ni=>
  intro ln v m l m1 rest v0 v' r' cs hc hm hv hk hr;cases ln with
  |false=>cases v<;>simp[di]at hc
  |true=>cases v with|ni=>obtain⟨rfl,_⟩:=ad (aa hc);simp only[iL]at hr;obtain⟨rfl,rfl⟩:=ad (aa hr);exact⟨rfl,trivial,rfl,by simp,cs,hv,by obtain rfl:=hv;rfl⟩|_=>simp[di]at hc
 |co a r iha ihr=>
  intro ln v m l m1 rest v0 v' r' cs hc hm hv hk hr;cases ln with
  |false=>cases v<;>simp[di]at hc
  |true=>
   cases v with
   |co x y=>
    simp only[di]at hc;split at hc
    .rename_i l1 m2 h1;split at hc
     .rename_i l2 m3 h2;obtain⟨rfl,rfl⟩:=ad (aa hc);obtain⟨x0,y0,w1,r1,w2,e1,e2,rfl⟩:=HY hr;rw[aS]at e1;obtain⟨cx1,cy,rfl,hx,hy⟩:=hv;obtain⟨rfl,g1,_,_,cs1,g2,g3⟩:=iha _ _ _ _ _ _ _ _ _ _ h1 (fun b hb=>hm b ((t5 _ _ _ _ _ _ h2).1 b hb)) hx hk.1 e1;obtain⟨rfl,k1,_,_,cs2,k2,k3⟩:=ihr _ _ _ _ _ _ _ _ _ _ h2 hm hy hk.2 e2;exact⟨rfl,⟨g1,k1⟩,rfl,by simp,_,⟨cs1,cs2,rfl,g2,k2⟩,g3.Od k3⟩
     .simp at hc
    .simp at hc
   |_=>simp[di]at hc
 |_=>intro ln v m l m1 rest v0 v' r' cs hc;cases ln<;>cases v<;>simp[di]at hc
theorem LI(cx:Cx h' h'' aK n'' mf M){jv:JV}{v:V}{m:List Bd}{l:List V}{m1:List Bd}{rest:List V}{v0 v':V}{r':List V}{x:TV}(hc:di jv false v m=some (l,m1))(hm:∀b∈m1,b∈mf)(hv:ft h' v x)(hk:eW n' h' v)(hr:iL aK jv false (l++rest) v0=some (v',r')):
  r'=rest/\eW n'' h'' v'/\∃x',ft h'' v' x'/\Di M x' x/\∀l,x'≠.gB l:=by
 have h1:sF h' v x:=by cases v with|tp l=>cases jv<;>simp[di]at hc;split at hc<;>rename_i hh<;>simp[rx,kH,gX]at hh;simp at hc|no=>cases jv<;>simp[di]at hc;split at hc<;>rename_i hh<;>simp[rx,kH,gX]at hh;simp at hc|gn=>exact hv.elim|_=>exact hv
 obtain⟨cs,h2,h3,h4⟩:=h1;obtain⟨rfl,g1,g2,g3,cs',g4,g5⟩:=t4 cx jv false v m l m1 rest v0 v' r' cs hc hm h2 hk hr;refine⟨rfl,g1,?_⟩;cases ha:tw v with
 |true=>obtain rfl:=h3 ha;exact⟨.agg cs',bU ⟨cs',g4,fun _=>rfl,fun e=>by rw[g2,ha]at e;cases e⟩,⟨cs,g5,rfl⟩,by simp⟩
 |false=>
  obtain⟨c,rfl,rfl⟩:=h4 ha
  match cs',g5 with
  |[],g5=>exact absurd (show[c]=[]from g5) (by simp)
  |c'::r,g5=>obtain⟨d,r2,e1,e2,e3⟩:=g5;obtain⟨rfl,rfl⟩:=cf e3;cases r with|nil=>exact⟨.c c',bU ⟨[c'],g4,fun e=>(by rw[g2,ha]at e;cases e),fun _=>⟨c',rfl,rfl⟩⟩,⟨c,e1,rfl⟩,by simp⟩|cons=>obtain⟨_,_,_,_,e⟩:=e2;simp at e
end
theorem HK{α:Type}(G:Nat->Option α)(ks:List Nat)(hk:∀t,G t≠none->t∈ks):∃e:List (Nat×α),∀t,bQ e t=G t:=by
 have key:∀ks:List Nat,∃e:List (Nat×α),∀t,bQ e t=if t∈ks then G t else none:=by
  intro ks;induction ks with
  |nil=>exact⟨[],fun t=>by simp[bQ]⟩
  |cons k ks ih=>
   obtain⟨e,he⟩:=ih;cases hg:G k with
   |none=>
    refine⟨e,fun t=>?_⟩;rw[he];by_cases h:t=k
    .subst h;simp[hg]
    .simp [h]
   |some x=>
    refine⟨(k,x)::e,fun t=>?_⟩;simp only[bQ];by_cases h:k=t
    .subst h;simp[hg]
    .have h':(k==t)=false:=by simpa using h
     rw[h',cond_false,he];have:t≠k:=fun q=>h q.symm;simp[this]
 obtain⟨e,he⟩:=key ks;refine⟨e,fun t=>?_⟩;rw[he];split
 .rfl
 .rename_i h;cases hg:G t with|none=>rfl|some x=>exact absurd (hk t (by simp[hg])) h
theorem K8(F:Nat->Option Ob)(ks:List Nat)(hk:∀t,F t≠none->t∈ks):∃h:bh,∀t,ao h t=F t:=by obtain⟨e,he⟩:=HK (fun t=>(F t).map some) ks fun t ht=>hk t fun e=>ht (by simp[e]);refine⟨e,fun t=>?_⟩;simp only[ao,he];cases F t<;>rfl
theorem xy{α:Type}:∀{l:List (Nat×α)}{t:Nat},bQ l t≠none->t∈l.map (·.1):=by intro l t h;cases hx:bQ l t with|none=>exact absurd hx h|some x=>exact eh.2 ⟨_,xx hx,rfl⟩
theorem Iz{h:bh}{t:Nat}(hl:ao h t≠none):t∈h.map (·.1):=xy fun e=>hl (by simp[ao,e])
theorem It{α β:Type}{ka va:Bool}{k:α->List Value}{v:β->List D}{m:Mp α β}{cs:List C}(h:some (Ob.box cs)=xu ka va k v m):False:=by cases m<;>simp[xu]at h
section
variable{h' h'':H2}{n' n'' aK:Nat}{mf:List Bd}{M:Nat->Nat->Prop}
theorem Tn(hj:∀b∈mf,aK+b.j<n''):Cx h' [] aK n'' mf (fun _ _=>True):=⟨fun _ _ _ _=>trivial,hj,fun b _ i _ c' hc=>by simp[fO,bQ,zQ]at hc,fun b _ i _ c' hc=>by simp[fO,bQ,zg]at hc,fun b _ _ c' hc=>by simp[fO,bQ,zg]at hc,fun b _ _ c' hc=>by simp[fO,bQ,zQ]at hc⟩
theorem Ar{j:Nat}{o:JO}{m:List Bd}{l:List V}{m1:List Bd}(h:JA h' j o m=some (l,m1)):(∀c∈m,c∈m1)/\(Az m->Az m1):=by
 have id1:∀{a:List V},some (a,m)=some (l,m1)->(∀c∈m,c∈m1)/\(Az m->Az m1):=fun e=>by obtain⟨_,rfl⟩:=ad (aa e);exact⟨fun _ h=>h,fun h=>h⟩
 unfold JA at h;split at h
 .split at h
  .exact id1 (aH h).2
  .split at h
   .split at h
    .exact id1 h
    .simp at h
   .simp at h
  .exact id1 (aH h).2
  .split at h
   .split at h
    .exact id1 h
    .simp at h
   .simp at h
  .split at h
   .exact t5 _ _ _ _ _ _ (aH h).2
   .simp at h
  .split at h
   .split at h
    .exact id1 h
    .simp at h
   .simp at h
  .simp at h
 .simp at h
def AP(h':H2)(aK:Nat)(m1:List Bd)(b:Bd):O->Prop
 |.ar t s v=>v=0/\((b.id=none/\s=.nil/\zi t=true)\/∃id ver,b.id=some id/\fO h' id=some (.ar t s ver))
 |.bx t w=>∃id v c m0 l0 m2 rest r0,b.id=some id/\fO h' id=some (.bx t v)/\di c false v m0=some (l0,m2)/\(∀b∈m2,b∈m1)/\iL aK c false (l0++rest) .gn=some (w,r0)/\eH w false t=true
 |.mp k v y=>∃id,b.id=some id/\fO h' id=some (.mp k v y)
 |.rw t s ln=>ln=none/\((b.id=none/\s=.nil/\zi t=true)\/∃id,b.id=some id/\fO h' id=some (.rw t s none))
 |_=>False
theorem He{H1:bh}(hr:HR n' H1 h')(hj:∀b∈mf,aK+b.j<n''){j:Nat}{o:JO}{m:List Bd}{l:List V}{m1:List Bd}{rest:List V}{o':O}{r':List V}(hc:JA h' j o m=some (l,m1))(hm:∀b∈m1,b∈mf)(hs:BW aK o (l++rest)=some (o',r')):
  r'=rest/\∃b∈mf,b.j=j/\AP h' aK mf b o':=by
 have hmm:=(Ar hc).1;unfold JA at hc;split at hc
 .rename_i b hb;obtain⟨hb1,hb2⟩:=yU hb;have hbm:=hm _ (hmm _ hb1);split at hc
  .rename_i t hid;obtain⟨hok,hc⟩:=aH hc;obtain⟨rfl,_⟩:=ad (aa hc);simp only[aO,bB,BW]at hs;obtain⟨_,hs⟩:=aH hs;obtain⟨rfl,rfl⟩:=ad (aa hs);exact⟨rfl,b,hbm,hb2,rfl,.inl ⟨hid,rfl,hok⟩⟩
  .rename_i t id hid;split at hc
   .rename_i u s ver ho;split at hc
    .rename_i s2 hs2;obtain⟨rfl,_⟩:=ad (aa hc);obtain⟨e,rfl⟩:=cE hs2;cases e;simp only[aO,bB,BW]at hs;obtain⟨_,hs⟩:=aH hs;obtain⟨rfl,rfl⟩:=ad (aa hs);exact⟨rfl,b,hbm,hb2,rfl,.inr ⟨id,ver,hid,ho⟩⟩
    .simp at hc
   .simp at hc
  .rename_i t hid;obtain⟨hok,hc⟩:=aH hc;obtain⟨rfl,_⟩:=ad (aa hc);simp only[aO,bB,BW]at hs;obtain⟨_,hs⟩:=aH hs;obtain⟨rfl,rfl⟩:=ad (aa hs);exact⟨rfl,b,hbm,hb2,rfl,.inl ⟨hid,rfl,hok⟩⟩
  .rename_i t id hid;split at hc
   .rename_i u s ho;split at hc
    .rename_i s2 hs2;obtain⟨rfl,_⟩:=ad (aa hc);obtain⟨e,rfl⟩:=cE hs2;cases e;simp only[aO,bB,BW]at hs;obtain⟨_,hs⟩:=aH hs;obtain⟨rfl,rfl⟩:=ad (aa hs);exact⟨rfl,b,hbm,hb2,rfl,.inr ⟨id,hid,ho⟩⟩
    .simp at hc
   .simp at hc
  .rename_i t c id hid;split at hc
   .rename_i u v ho;obtain⟨hu,hc2⟩:=aH hc;clear hc;have hc:=hc2;clear hc2;obtain rfl:u=t:=by simpa using hu
    simp only[BW]at hs;split at hs
    .rename_i w l2 hw;obtain⟨hf,hs⟩:=aH hs;obtain⟨rfl,rfl⟩:=ad (aa hs);obtain⟨_,hob,hko⟩:=hr.ob id _ ho;obtain⟨cs,_,hcs,_⟩:=hob;obtain⟨rfl,_⟩:=t4 (Tn (h':=h') hj) c false v m l m1 rest .gn w l2 cs hc hm hcs hko hw;exact⟨rfl,b,hbm,hb2,id,v,c,m,l,m1,_,_,hid,ho,hc,hm,hw,hf⟩
    .simp at hs
   .simp at hc
  .rename_i k v id hid;split at hc
   .rename_i k' v' y ho;split at hc
    .rename_i y2 hy2;obtain⟨rfl,_⟩:=ad (aa hc);obtain⟨e,rfl⟩:=cE hy2;cases e;simp only[aO,bB,BW]at hs;obtain⟨_,hs⟩:=aH hs;obtain⟨rfl,rfl⟩:=ad (aa hs);exact⟨rfl,b,hbm,hb2,id,hid,ho⟩
    .simp at hc
   .simp at hc
  .simp at hc
 .simp at hc
theorem uQ:∀(os:List JO)(j:Nat)(m:List Bd)(l:List V)(m1:List Bd),Aq h' os j m=some (l,m1)->(∀c∈m,c∈m1)/\(Az m->Az m1):=by
 intro os;induction os with
 |nil=>intro j m l m1 h;obtain⟨_,rfl⟩:=ad (aa h);exact⟨fun _ h=>h,fun h=>h⟩
 |cons o os ih=>
  intro j m l m1 h;simp only[Aq]at h;split at h
  .rename_i l1 m2 h1;split at h
   .rename_i l2 m3 h2;obtain⟨_,rfl⟩:=ad (aa h);obtain⟨a1,a2⟩:=Ar h1;obtain⟨c1,c2⟩:=ih _ _ _ _ h2;exact⟨fun c hc=>c1 c (a1 c hc),fun hi=>c2 (a2 hi)⟩
   .simp at h
  .simp at h
theorem EH{H1:bh}(hr:HR n' H1 h')(hj:∀b∈mf,aK+b.j<n''):∀(os:List JO)(j:Nat)(m:List Bd)(l:List V)(m1:List Bd)(rest:List V)(hl:H2)(r':List V),Aq h' os j m=some (l,m1)->(∀b∈m1,b∈mf)->BV aK os j (l++rest)=some (hl,r')->
  (∀i o',bQ hl i=some o'->∃o,o'=some o/\∃b∈mf,i=aK+b.j/\AP h' aK mf b o)/\(∀p∈hl,aK<=p.1):=by
 intro os;induction os with
 |nil=>intro j m l m1 rest hl r' hc hm hs;obtain⟨rfl,_⟩:=ad (aa hc);simp only[BV]at hs;obtain⟨rfl,_⟩:=ad (aa hs);exact⟨fun i o' h=>by simp[bQ]at h,fun p hp=>by simp at hp⟩
 |cons o os ih=>
  intro j m l m1 rest hl r' hc hm hs;simp only[Aq]at hc;split at hc
  .rename_i l1 m2 h1;split at hc
   .rename_i l2 m3 h2;obtain⟨rfl,rfl⟩:=ad (aa hc);simp only[BV,aS]at hs;split at hs
    .rename_i o1 r1 ho1;split at hs
     .rename_i hl1 r2 hhl;obtain⟨rfl,rfl⟩:=ad (aa hs);obtain⟨rfl,b,hb,hbj,hap⟩:=He hr hj h1 (fun b hb=>hm b ((uQ _ _ _ _ _ h2).1 b hb)) ho1;obtain⟨g1,g2⟩:=ih _ _ _ _ _ _ _ h2 hm hhl;refine⟨fun i o' h=>?_,fun p hp=>?_⟩
      .simp only[bQ]at h;by_cases e:aK+j=i
       .have e':(aK+j==i)=true:=by simpa using e
        rw[e',cond_true]at h;exact⟨o1,(aa h).symm,b,hb,by rw[hbj,e],hap⟩
       .have e':(aK+j==i)=false:=by simpa using e
        rw[e',cond_false]at h;exact g1 i o' h
      .rcases aJ.1 hp with rfl|hp
       .exact Nat.le_add_right _ _
       .exact g2 p hp
     .simp at hs
    .simp at hs
   .simp at hc
  .simp at hc
def Ru(M:Nat->Nat->Prop):Ob->Prop
 |.nst _ sl=>∀(k id len:Nat),sl[k]?=some (ko.kU id len)->M id id
 |_=>True
theorem xS{t:Ty}{l:List (Sl (El t))}{ln:Option (Nat×Nat)}{k i len:Nat}(h:(dO t l ln)[k]?=some (.kU i len)):∃m,ln=some (m,i):=by
 have no:¬(l.map (nn t))[k]?=some (.kU i len):=fun h=>by
  rw[List.getElem?_map]at h;cases hx:l[k]?with
  |none=>rw[hx]at h;cases h
  |some s=>rw[hx]at h;cases s<;>cases h
 cases ln with
 |none=>exact absurd h no
 |some q=>
  obtain⟨m,j⟩:=q;simp only[dO]at h;rw[List.getElem?_set]at h;split at h
  .split at h
   .cases hg:gt l m<;>rw[hg]at h<;>cases h;exact⟨m,rfl⟩
   .cases h
  .exact absurd h no
def LW(M:Nat->Nat->Prop)(o1 o0:Ob):Prop:=(o1=o0/\(∀cs,o0≠.box cs)/\Ru M o0)\/∃a c,o1=.box a/\o0=.box c/\ou M a c
theorem PN{H1:bh}(hr:HR n' H1 h')(cx:Cx h' h'' aK n'' mf M){b:Bd}{o:O}(ha:AP h' aK mf b o):
  ∃ob,vp h'' o ob/\By n'' h'' o/\∀o1,ob=some o1->∃id o0,b.id=some id/\ao H1 id=some o0/\LW M o1 o0:=by
 cases o with
 |ar t s v=>
  obtain⟨_,⟨_,rfl,hok⟩|⟨id,ver,hid,ho⟩⟩:=ha
  .obtain ⟨h1,h2⟩:=nQ hok;exact⟨none,⟨h1,h2,fun l e=>by cases e⟩,trivial,fun o1 e=>by cases e⟩
  .obtain ⟨_,⟨h1,h2,h3⟩,_⟩:=hr.ob id _ ho;cases s with|nil=>exact⟨none,⟨h1,h2,fun l e=>by cases e⟩,trivial,fun o1 e=>by cases e⟩|mk l=>refine⟨_,⟨h1,h2,fun l' e=>by cases e;rfl⟩,trivial,fun o1 e=>⟨id,_,hid,h3 l rfl,.inl ⟨(aa e).symm,by simp,trivial⟩⟩⟩
 |rw t s ln=>
  obtain⟨rfl,⟨_,rfl,hok⟩|⟨id,hid,ho⟩⟩:=ha
  .obtain ⟨h1,h2⟩:=nQ hok;exact⟨none,⟨h1,h2,fun l e=>by cases e⟩,trivial,fun o1 e=>by cases e⟩
  .obtain ⟨_,⟨h1,h2,h3⟩,_⟩:=hr.ob id _ ho;cases s with|nil=>exact⟨none,⟨h1,h2,fun l e=>by cases e⟩,trivial,fun o1 e=>by cases e⟩|mk l=>refine⟨_,⟨h1,h2,fun l' e=>by cases e;rfl⟩,trivial,fun o1 e=>⟨id,_,hid,h3 l rfl,.inl ⟨(aa e).symm,by simp,fun k i len hk=>?_⟩⟩⟩;obtain⟨m,e2⟩:=xS hk;cases e2
 |bx t w=>obtain⟨id,v,c,m0,l0,m2,rest,r0,hid,ho,hc,hm,hs,hf⟩:=ha;obtain⟨_,⟨cs,h1,h2,h3⟩,hk⟩:=hr.ob id _ ho;obtain⟨rfl,g1,_,_,cs',g2,g3⟩:=t4 cx c false v m0 l0 m2 rest .gn w r0 cs hc hm h2 hk hs;exact⟨some (.box cs'),⟨cs',rfl,g2,hf⟩,g1,fun o1 e=>⟨id,_,hid,h1,.inr ⟨cs',cs,(aa e).symm,rfl,g3⟩⟩⟩
 |mp k v y=>
  obtain⟨id,hid,ho⟩:=ha;obtain⟨_,⟨h1,h2,h3⟩,_⟩:=hr.ob id _ ho;refine⟨ao H1 id,⟨h1,h2,h3⟩,trivial,fun o1 e=>⟨id,o1,hid,e,.inl ⟨rfl,fun cs e2=>?_,?_⟩⟩⟩
  .rw [e2]at e;rw[e]at h3;exact It h3
  .rw [e]at h3;simp only[xu,bS]at h3;rw[h3];trivial
 |_=>exact ha.elim
theorem yR{s:S2}:∀(vs:List (Nat×JV))(m:List Bd)(l:List V)(m1:List Bd),Ap s vs m=some (l,m1)->(∀c∈m,c∈m1)/\(Az m->Az m1):=by
 intro vs;induction vs with
 |nil=>intro m l m1 h;obtain⟨_,rfl⟩:=ad (aa h);exact⟨fun _ h=>h,fun h=>h⟩
 |cons p vs ih=>
  obtain⟨t,a⟩:=p;intro m l m1 h;simp only[Ap]at h;split at h
  .split at h
   .rename_i l1 m2 h1;split at h
    .rename_i l2 m3 h2;obtain⟨_,rfl⟩:=ad (aa h);obtain⟨a1,a2⟩:=t5 _ _ _ _ _ _ h1;obtain⟨c1,c2⟩:=ih _ _ _ h2;exact⟨fun c hc=>c1 c (a1 c hc),fun hi=>c2 (a2 hi)⟩
    .simp at h
   .simp at h
  .simp at h
theorem yQ{s1:St}{s:S2}(hr:R2 s1 s)(cx:Cx s.heap h'' aK n'' mf M):∀(vs:List (Nat×JV))(m:List Bd)(l:List V)(m1:List Bd)(rest:List V)(e:List (Nat×V))(r':List V),Ap s vs m=some (l,m1)->(∀b∈m1,b∈mf)->E_ aK vs (l++rest)=some (e,r')->
  r'=rest/\∀t v,bQ e t=some v->eW n'' h'' v/\∃x x',bQ s1.cR t=some x/\ft h'' v x'/\Di M x' x/\∀l,x'≠.gB l:=by
 intro vs;induction vs with
 |nil=>intro m l m1 rest e r' hc hm hs;obtain⟨rfl,_⟩:=ad (aa hc);obtain⟨rfl,rfl⟩:=ad (aa hs);exact⟨rfl,fun t v h=>by simp[bQ]at h⟩
 |cons p vs ih=>
  obtain⟨t,a⟩:=p;intro m l m1 rest e r' hc hm hs;simp only[Ap]at hc;split at hc
  .rename_i v hv;split at hc
   .rename_i l1 m2 h1;split at hc
    .rename_i l2 m3 h2;obtain⟨rfl,rfl⟩:=ad (aa hc);simp only[E_,aS]at hs;split at hs
     .rename_i w r1 hw;split at hs
      .rename_i e1 r2 he1;obtain⟨rfl,rfl⟩:=ad (aa hs);simp only[Hu]at hv;split at hv
       .rename_i v2 hv2;obtain⟨hal,hv⟩:=aH hv;obtain rfl:=aa hv;obtain⟨hk,hx⟩:=hr.cR t _ hv2;obtain⟨x,hx1,hx2⟩:=hx (.inl hal);obtain⟨rfl,g1,x',g2,g3,g4⟩:=LI cx h1 (fun b hb=>hm b ((yR _ _ _ _ h2).1 b hb)) hx2 hk hw;obtain⟨rfl,k1⟩:=ih _ _ _ _ _ _ h2 hm he1;refine⟨rfl,fun t' v' h=>?_⟩;simp only[bQ]at h;by_cases e:t=t'
        .subst e;have e':(t==t)=true:=by simp
         rw[e',cond_true]at h;obtain rfl:=aa h;exact⟨g1,x,x',hx1,g2,g3,g4⟩
        .have e':(t==t')=false:=by simpa using e
         rw[e',cond_false]at h;exact k1 t' v' h
       .simp at hv
      .simp at hs
     .simp at hs
    .simp at hc
   .simp at hc
  .simp at hc
theorem wA{h:H2}:∀(gs:JV)(g0 g:V)(m:List Bd)(l:List V)(m1:List Bd),pR h gs g0 g m=some (l,m1)->(∀c∈m,c∈m1)/\(Az m->Az m1):=by
 intro gs;induction gs with
 |sm=>intro g0 g m l m1 h;simp only[pR]at h;obtain⟨_,h⟩:=aH h;obtain⟨_,rfl⟩:=ad (aa h);exact⟨fun _ h=>h,fun h=>h⟩
 |ni=>intro g0 g m l m1 h;cases g0<;>cases g<;>simp[pR]at h;obtain⟨_,rfl⟩:=h;exact⟨fun _ h=>h,fun h=>h⟩
 |co a r _ ih=>
  intro g0 g m l m1 hc;cases g0 with
  |co x0 y0=>
   cases g with
   |co x y=>
    have CG:(bif ig h x then(match di a false x m with|some (l,m)=>(match pR h r y0 y m with|some (l',m)=>some (l++l',m)|none=>none)|none=>none)else none)=some (l,m1)->(∀c∈m,c∈m1)/\(Az m->Az m1):=by
     intro hc;obtain⟨_,hc⟩:=aH hc;split at hc
     .rename_i l1 m2 h1;split at hc
      .rename_i l2 m3 h2;obtain⟨_,rfl⟩:=ad (aa hc);obtain⟨a1,a2⟩:=t5 _ _ _ _ _ _ h1;obtain⟨c1,c2⟩:=ih _ _ _ _ _ h2;exact⟨fun c hc=>c1 c (a1 c hc),fun hi=>c2 (a2 hi)⟩
      .simp at hc
     .simp at hc
    cases a with|sm=>exact ih _ _ _ _ _ (aH (show(bif sh x0 x then pR h r y0 y m else none)=_ from hc)).2|gn=>exact ih _ _ _ _ _ (show pR h r y0 y m=_ from hc)|_=>exact CG hc
   |_=>simp[pR]at hc
  |_=>simp[pR]at hc
 |_=>intro g0 g m l m1 h;simp[pR]at h
def JU(M:Nat->Nat->Prop):List C->List C->Prop
 |[],m=>m=[]
 |c::l,m=>∃d r,(c=sn\/sB M c d)/\JU M l r/\m=d::r
theorem JU.len:∀{l m:List C},JU M l m->l.length=m.length
 |[],m,h=>by obtain rfl:=h;rfl
 |c::l,m,h=>by obtain⟨d,r,_,h2,rfl⟩:=h;simp[JU.len h2]
theorem JU.get:∀{l m:List C},JU M l m->∀(i:Nat)(c:C),l[i]?=some c->c=sn\/∃d,m[i]?=some d/\sB M c d
 |[],m,h,i,c,hi=>by simp at hi
 |c::l,m,h,i,c',hi=>by
  obtain⟨d,r,h1,h2,rfl⟩:=h;cases i with
  |zero=>
   obtain rfl:c=c':=by simpa using hi
   exact h1.imp id fun h=>⟨d,rfl,h⟩
  |succ i=>exact(JU.get h2 i c' (by simpa using hi)).imp id fun⟨d,h3,h4⟩=>⟨d,by simpa using h3,h4⟩
theorem BQ(hlow:∀i,i<aK->fO h'' i≠none->fO h'' i=fO h' i)(hM:∀i,i<aK->M i i){x0 x:V}{c:C}{hz:H2}(hs:sh x0 x=true)(hok:eW aK hz x0)(hx:ig h' x=true->eY h' x [c]):
  ∃c',(ig h'' x0=true->eY h'' x0 [c'])/\(c'=sn\/sB M c' c):=by
 by_cases ha:ig h'' x0=true
 case neg=>exact⟨sn,fun h=>absurd h ha,.inl rfl⟩
 cases x0<;>cases x<;>first|(simp[sh]at hs;done)|skip
 case nl.nl k k'=>
  obtain rfl:k=k':=by simpa[sh]using hs
  have:eY h' (.nl k) [c]:=hx rfl;obtain rfl:=fg.1 (show[c]=[z7 k]from this);exact⟨z7 k,fun _=>rfl,.inr rfl⟩
 case so.so i i'=>
  obtain rfl:i=i':=by simpa[sh]using hs
  have hi:i<aK:=hok;have hne:fO h'' i≠none:=fun e=>by simp[ig,e]at ha
  have e:=hlow i hi hne;have ha':ig h' (.so i)=true:=by simp only[ig]at ha|-;rw[<-e];exact ha
  obtain⟨c2,e2,h2,h3⟩:=hx ha';refine⟨c,fun _=>⟨c2,e2,fun c' hc'=>h2 c' (by rw[<-e];exact hc'),h3⟩,.inr (sB.dW _ fun j hj=>?_)⟩;obtain rfl:=fg.1 e2;rw[h3 j hj];exact hM i hi
 case sr.sr i i'=>
  obtain rfl:i=i':=by simpa[sh]using hs
  have hi:i<aK:=hok;have hne:fO h'' i≠none:=fun e=>by simp[ig,e]at ha
  have e:=hlow i hi hne;have ha':ig h' (.sr i)=true:=by simp only[ig]at ha|-;rw[<-e];exact ha
  obtain⟨c2,e2,h2,h3⟩:=hx ha';refine⟨c,fun _=>⟨c2,e2,fun c' hc'=>h2 c' (by rw[<-e];exact hc'),h3⟩,.inr (sB.dW _ fun j hj=>?_)⟩;obtain rfl:=fg.1 e2;rw[h3 j hj];exact hM i hi
 case op.op i t p i' t' p'=>
  have hp:i=i'/\t=t'/\p=[]/\p'=[]:=by
   cases p with
   |cons=>cases p'<;>simp[sh]at hs
   |nil=>cases p' with|cons=>simp[sh]at hs|nil=>simpa[sh]using hs
  obtain⟨rfl,rfl,rfl,rfl⟩:=hp;have hi:i<aK:=hok.1;have hne:fO h'' i≠none:=fun e=>by simp[ig,e]at ha
  have e:=hlow i hi hne;have ha':ig h' (.op i t [])=true:=by simp only[ig]at ha|-;rw[<-e];exact ha
  have h2:=hx ha';obtain rfl:=fg.1 (show[c]=[C.op i (mJ t [])]from h2);exact⟨_,fun _=>rfl,.inr ⟨i,hM i hi,rfl⟩⟩
 case gn.gn=>simp[ig]at ha
theorem DG(hlow:∀i,i<aK->fO h'' i≠none->fO h'' i=fO h' i)(hM:∀i,i<aK->M i i){hz:H2}:∀(g0 g:V)(cs:List C),xW g0 g=true->eW aK hz g0->Hw h' g cs->∃cs',Hw h'' g0 cs'/\JU M cs' cs:=by
 intro g0;induction g0 with
 |ni=>intro g cs hs _ hg;cases g<;>simp[xW]at hs;obtain rfl:=hg;exact⟨[],rfl,rfl⟩
 |co x0 y0 _ ih=>intro g cs hs hk hg;cases g with|co x y=>simp only[xW,ah]at hs;obtain⟨c,m,rfl,h1,h2⟩:=hg;obtain⟨c',h3,h4⟩:=BQ (M:=M) hlow hM hs.1 hk.1 h1;obtain⟨cs',h5,h6⟩:=ih y m hs.2 hk.2 h2;exact⟨c'::cs',⟨c',cs',rfl,h3,h5⟩,c,m,h4,h6,rfl⟩|_=>simp[xW]at hs
 |_=>intro g cs hs;cases g<;>simp[xW]at hs
theorem OF{b:Nat}{a r:JV}{l:List V}{x0 y0 v':V}{r':List V}(h:iL b (.co a r) true l (.co x0 y0)=some (v',r')):∃v l1 w,iL b a false l x0=some (v,l1)/\iL b r true l1 y0=some (w,r')/\v'=.co v w:=by
 simp only[iL]at h;split at h
 .rename_i v l1 h1;split at h
  .rename_i w l2 h2;obtain⟨rfl,rfl⟩:=ad (aa h);exact⟨v,l1,w,h1,h2,rfl⟩
  .simp at h
 .simp at h
theorem At(cx:Cx h' h'' aK n'' mf M)(hlow:∀i,i<aK->fO h'' i≠none->fO h'' i=fO h' i)(hM:∀i,i<aK->M i i){hz:H2}(eG:∀v,eW aK hz v->eW n'' h'' v):∀(gs:JV)(g0 g:V)(m:List Bd)(l:List V)(m1:List Bd)(rest:List V)(g':V)(r':List V)(cs:List C),
  pR h' gs g0 g m=some (l,m1)->(∀b∈m1,b∈mf)->eW aK hz g0->Hw h' g cs->eW n' h' g->iL aK gs true (l++rest) g0=some (g',r')->r'=rest/\eW n'' h'' g'/\∃cs',Hw h'' g' cs'/\JU M cs' cs:=by
 intro gs;induction gs with
 |sm=>intro g0 g m l m1 rest g' r' cs hc hm hk0 hg hk hs;simp only[pR]at hc;obtain⟨hsm,hc⟩:=aH hc;obtain⟨rfl,_⟩:=ad (aa hc);simp only[iL,bB]at hs;obtain⟨rfl,rfl⟩:=ad (aa hs);exact⟨rfl,eG _ hk0,DG hlow hM g0 g cs hsm hk0 hg⟩
 |ni=>intro g0 g m l m1 rest g' r' cs hc hm hk0 hg hk hs;cases g0<;>cases g<;>simp[pR]at hc;obtain⟨rfl,_⟩:=hc;simp only[iL,bB]at hs;obtain⟨rfl,rfl⟩:=ad (aa hs);obtain rfl:=hg;exact⟨rfl,trivial,[],rfl,rfl⟩
 |co a r _ ih=>
  intro g0 g m l m1 rest g' r' cs hc hm hk0 hg hk hs;cases g0 with
  |co x0 y0=>
   cases g with
   |co x y=>
    obtain⟨c,cs,rfl,hx,hg⟩:=hg;obtain⟨v,l1,w,e1,e2,rfl⟩:=OF hs
    have CG:(bif ig h' x then(match di a false x m with|some (l,m)=>(match pR h' r y0 y m with|some (l',m)=>some (l++l',m)|none=>none)|none=>none)else none)=some (l,m1)->r'=rest/\eW n'' h'' (.co v w)/\∃cs',Hw h'' (.co v w) cs'/\JU M cs' (c::cs):=by
     intro hc;obtain⟨ha,hc⟩:=aH hc;split at hc
     .rename_i l2 m2 h1;split at hc
      .rename_i l3 m3 h2;obtain⟨rfl,rfl⟩:=ad (aa hc);rw[aS]at e1;obtain⟨rfl,g1,_,_,cs1,g2,g3⟩:=t4 cx a false x m l2 m2 _ x0 v l1 [c] h1 (fun b hb=>hm b ((wA _ _ _ _ _ _ h2).1 b hb)) (hx ha) hk.1 e1;obtain⟨rfl,k1,cs2,k2,k3⟩:=ih _ _ _ _ _ _ _ _ _ h2 hm hk0.2 hg hk.2 e2
       match cs1,g3 with
       |[],g3=>exact absurd (show[c]=[]from g3) (by simp)
       |c1::t,g3=>obtain⟨d,r2,q1,q2,q3⟩:=g3;obtain⟨rfl,rfl⟩:=cf q3;cases t with|nil=>exact⟨rfl,⟨g1,k1⟩,c1::cs2,⟨c1,cs2,rfl,fun _=>g2,k2⟩,c,cs,.inr q1,k3,rfl⟩|cons=>obtain⟨_,_,_,_,e⟩:=q2;simp at e
      .simp at hc
     .simp at hc
    cases a with|sm=>obtain⟨hsm,hc⟩:=aH (show(bif sh x0 x then pR h' r y0 y m else none)=_ from hc);simp only[iL]at e1;obtain⟨rfl,rfl⟩:=ad (aa e1);obtain⟨rfl,k1,cs2,k2,k3⟩:=ih _ _ _ _ _ _ _ _ _ hc hm hk0.2 hg hk.2 e2;obtain⟨c',h3,h4⟩:=BQ (M:=M) hlow hM hsm hk0.1 hx;exact⟨rfl,⟨eG _ hk0.1,k1⟩,c'::cs2,⟨c',cs2,rfl,h3,k2⟩,c,cs,h4,k3,rfl⟩|gn=>have hc:pR h' r y0 y m=some (l,m1):=hc;simp only[iL]at e1;obtain⟨rfl,rfl⟩:=ad (aa e1);obtain⟨rfl,k1,cs2,k2,k3⟩:=ih _ _ _ _ _ _ _ _ _ hc hm hk0.2 hg hk.2 e2;exact⟨rfl,⟨trivial,k1⟩,sn::cs2,⟨sn,cs2,rfl,fun h=>by simp[ig]at h,k2⟩,c,cs,.inl rfl,k3,rfl⟩|_=>exact CG hc
   |_=>simp[pR]at hc
  |_=>simp[pR]at hc
 |_=>intro g0 g m l m1 rest g' r' cs hc;simp[pR]at hc
end
def Ft(aK:Nat):Ob->Prop
 |.box cs=>∀i∈eN.mG cs,i<aK
 |.nst _ sl=>∀(k i len:Nat),sl[k]?=some (ko.kU i len)->i<aK
 |_=>True
theorem KS{h:H2}{o:O}{aK:Nat}{b:Option Ob}{F:Option Ob}(ho:vp h o b)(hk:By aK h o)(hF:(∀x,b=some x->Ft aK x->F=b)/\(b=none->F=none)):∀g,vp g o b->vp g o F:=by
 intro g hg
 have dW:(b=none\/∃x,b=some x/\Ft aK x)->vp g o F:=by
  rintro(e|⟨x,e,hx⟩)
  .rw [hF.2 e,<-e];exact hg
  .rw [hF.1 x e hx];exact hg
 cases o with
 |ar t s v=>cases s with|nil=>exact⟨hg.1,hg.2.1,fun l e=>by cases e⟩|mk l=>exact dW (.inr ⟨_,ho.2.2 l rfl,trivial⟩)
 |im t s v=>cases s with|nil=>exact⟨hg.1,hg.2.1,fun l e=>by cases e⟩|mk l=>exact dW (.inr ⟨_,ho.2.2 l rfl,trivial⟩)
 |bx t c=>obtain⟨cs,h1,h2,_⟩:=ho;exact dW (.inr ⟨_,h1,fun i hi=>(C8 h2 hk i hi).1⟩)
 |ib t v=>exact dW (.inr ⟨_,ho.2,trivial⟩)
 |rw t s ln=>cases s with|nil=>exact⟨hg.1,hg.2.1,fun l e=>by cases e⟩|mk l=>refine dW (.inr ⟨_,ho.2.2 l rfl,fun k i len h=>?_⟩);obtain⟨m,rfl⟩:=xS h;exact hk.2.1
 |mp k v m=>exact dW (.inr ⟨_,ho.2.2,trivial⟩)
open Classical in
theorem Ky{s1:St}{aK n'':Nat}{mf:List Bd}{e':hZ}{h':bh}{g':List C}(hi:Az mf)(hn:∀b∈mf,aK+b.j<n'')(hbn:aK<=n'')
  (he:∀t x',bQ e' t=some x'->∃x,bQ s1.cR t=some x/\Di (fun i j=>(i=j/\j<aK)\/∃b∈mf,b.id=some j/\i=aK+b.j) x' x)
  (hh:∀i o',ao h' i=some o'->∃j o,((i=j/\j<aK)\/∃b∈mf,b.id=some j/\i=aK+b.j)/\ao s1.heap j=some o/\LW (fun i j=>(i=j/\j<aK)\/∃b∈mf,b.id=some j/\i=aK+b.j) o' o/\∀b∈mf,b.id=some j->i=aK+b.j)
  (hg:JU (fun i j=>(i=j/\j<aK)\/∃b∈mf,b.id=some j/\i=aK+b.j) g' s1.gh):Sub s1 ⟨e',h',n'',g'⟩:=by
 intro S K w0 Kn φ gv nt a w hR;let Kn':Nat->Prop:=fun i=>(i<aK/\Kn i)\/∃b∈mf,i=aK+b.j/\∃id,b.id=some id/\Kn id;let φ':Nat->gi:=fun i=>if i<aK then φ i else match JH mf (i-aK)with|some ⟨_,some id⟩=>φ id|_=>default
 have hbd:∀b∈mf,JH mf (aK+b.j-aK)=some b:=by intro b hb;rw[Nat.add_sub_cancel_left];cases h:JH mf b.j with|none=>exact absurd rfl (Db h b hb)|some c=>obtain⟨h1,h2⟩:=yU h;rw[(hi c h1 b hb).1 h2]
 have hM:∀i j,((i=j/\j<aK)\/∃b∈mf,b.id=some j/\i=aK+b.j)->Kn j->Kn' i/\φ' i=φ j:=by
  rintro i j (⟨rfl,hlt⟩|⟨b,hb,hid,rfl⟩) hk
  .exact ⟨.inl ⟨hlt,hk⟩,if_pos hlt⟩
  .refine ⟨.inr ⟨b,hb,rfl,j,hid,hk⟩,?_⟩;show(if aK+b.j<aK then _ else _)=_;rw[if_neg (by omega),hbd b hb];obtain⟨bj,bid⟩:=b;simp only at hid;subst hid;rfl
 have hun:∀i j i0,((i=i0/\i0<aK)\/∃b∈mf,b.id=some i0/\i=aK+b.j)->(∀b∈mf,b.id=some i0->i=aK+b.j)->((j=i0/\i0<aK)\/∃b∈mf,b.id=some i0/\j=aK+b.j)->(∀b∈mf,b.id=some i0->j=aK+b.j)->i=j:=by
  rintro i j i0 (⟨rfl,_⟩|⟨b,hb,hid,rfl⟩) hu1 h2 hu2
  .rcases h2 with⟨rfl,_⟩|⟨b,hb,hid,rfl⟩
   .rfl
   .exact hu1 b hb hid
  .exact (hu2 b hb hid).symm
 refine⟨S,Kn',φ',fX.refl S w,⟨hR.inv.sJ,hR.inv.sk,hR.inv.nh,fun i o ho=>?_,fun i j x y hx hy ox oy hne=>?_,hR.inv.A5,?_⟩,fun t x hx=>?_,hR.size,hR.defers,fun j hj hk=>?_,fun i c v hc hv=>?_⟩
 .obtain ⟨j,o0,hij,ho0,htr,_⟩:=hh i o ho;obtain⟨hk,hro⟩:=hR.inv.gF j o0 ho0;obtain⟨hk',e⟩:=hM i j hij hk;refine⟨hk',?_⟩;rw[e];rcases htr with⟨rfl,hnb⟩|⟨a',c',rfl,rfl,htl⟩
  .cases hro with
   |nst hsz hl hS hK hown hext hfit hr hv=>
    refine .nst hsz hl hS hK hown hext hfit (fun q s hs=>?_) hv;obtain⟨v,h1,h2⟩:=hr q s hs;refine⟨v,h1,?_⟩;cases h2 with
    |nil=>exact .nil
    |bi h3 h4 h5=>exact .bi h3 h4 h5
    |kU h3=>exact .kU (sB.rc hM _ _ v (sB.dW _ fun q' hq'=>by
      obtain rfl:q'=_:=by simpa[eN]using hq'
      exact hnb.2 _ _ _ hs) h3)
   |aF hsz hl hS hK hown hext hfit hr hv=>exact .aF hsz hl hS hK hown hext hfit hr hv
   |pD hsz hl hS hr=>exact .pD hsz hl hS hr
   |nZ hb hS hr=>exact .nZ hb hS hr
   |box=>exact absurd rfl (hnb.1 _)
   |map hS hK hmp hlen hr=>exact .map hS hK hmp hlen hr
   |cap hsz hl hS hK hown hext hfit hr hv hc=>exact .cap hsz hl hS hK hown hext hfit hr hv hc
  .cases hro with|box hb hS hK hown hlen hr=>exact .box hb hS hK hown ((ou.len htl).trans hlen) (ou.rc hM a' c' _ htl hr)
 .obtain ⟨i0,x0,hi0,hx0,htx,huq⟩:=hh i x hx;obtain⟨j0,y0,hj0,hy0,hty,huq2⟩:=hh j y hy
  have hox:cn x0=true:=by
   rcases htx with⟨rfl,_⟩|⟨a',c',rfl,rfl,_⟩
   .exact ox
   .rfl
  have hoy:cn y0=true:=by
   rcases hty with⟨rfl,_⟩|⟨a',c',rfl,rfl,_⟩
   .exact oy
   .rfl
  rw[(hM i i0 hi0 (hR.inv.gF i0 x0 hx0).1).2,(hM j j0 hj0 (hR.inv.gF j0 y0 hy0).1).2];refine hR.inv.nm i0 j0 x0 y0 hx0 hy0 hox hoy fun e=>hne ?_;subst e;exact hun i j i0 hi0 huq hj0 huq2
 .intro i sz sl k x hi hp;obtain⟨i0,x0,hi0,hx0,htx,huq⟩:=hh i _ hi;rcases htx with⟨rfl,_⟩|⟨a',c',e,_⟩
  case inr=>cases e
  rw[(hM i i0 hi0 (hR.inv.gF i0 _ hx0).1).2]at hp;obtain⟨p1,p2⟩:=hR.inv.uJ i0 sz sl k x hx0 hp;refine⟨fun j b hj hb=>?_,fun j sz' sl' k' hj hp'=>?_⟩
  .obtain ⟨j0,y0,hj0,hy0,hty,_⟩:=hh j b hj
   have hoy:cn y0=true:=by
    rcases hty with⟨rfl,_⟩|⟨a',c',rfl,rfl,_⟩
    .exact hb
    .rfl
   rw[(hM j j0 hj0 (hR.inv.gF j0 y0 hy0).1).2];exact p1 j0 y0 hy0 hoy
  .obtain ⟨j0,y0,hj0,hy0,hty,huq2⟩:=hh j _ hj;rcases hty with⟨rfl,_⟩|⟨a',c',e,_⟩
   case inr=>cases e
   rw[(hM j j0 hj0 (hR.inv.gF j0 _ hy0).1).2]at hp';obtain⟨e1,e2⟩:=p2 j0 sz' sl' k' hy0 hp';subst e1;exact⟨hun j i j0 hj0 huq2 hi0 huq,e2⟩
 .obtain ⟨x0,h1,h2⟩:=he t x hx;exact Di.rc hM x x0 _ h2 (hR.cR t x0 h1)
 .have hj:n''<=j:=hj;rcases hk with⟨hlt,_⟩|⟨b,hb,rfl,_⟩
  .omega
  .have:=hn b hb;omega
 .rcases hg.get i c hc with e|⟨d,h1,h2⟩
  .exact .inl e
  .rcases hR.gh i d v h1 hv with rfl|hr
   .left;cases c with
    |oL f l=>obtain⟨m,h3,h4⟩:=h2;simp only[sn,C.oL.injEq]at h4;obtain⟨rfl,rfl⟩:=h4;cases l with|nil=>rfl|cons x l=>obtain⟨_,_,_,_,e⟩:=h3;simp at e
    |d x=>exact absurd (show sn=C.d x from h2) (by simp[sn])
    |_=>obtain⟨_,_,e⟩:=h2;simp[sn]at e
   .exact .inr (sB.rc hM c d v h2 hr)
theorem CK{α:Type}{l:List (Nat×α)}{t:Nat}(h:∀p∈l,p.1≠t):bQ l t=none:=by cases hx:bQ l t with|none=>rfl|some x=>exact absurd rfl (h _ (xx hx))
theorem Nk{ds:List Nat}{t:Nat}:bQ (ds.map fun t=>(t,V.gn)) t=if t∈ds then some .gn else none:=by
 induction ds with
 |nil=>rfl
 |cons d ds ih=>
  simp only[ap,bQ,ih];by_cases e:d=t
  .subst e;simp
  .have e':(d==t)=false:=by simpa using e
   have:t≠d:=fun q=>e q.symm;simp[e',this]
theorem Pu{kl:List Nat}{h:H2}{i:Nat}:fO (kl.map (fun i=>(i,none))++h) i=if i∈kl then none else fO h i:=by
 induction kl with
 |nil=>rfl
 |cons k kl ih=>
  rw[ap,aO,cC,ih];by_cases e:k=i
  .subst e;simp
  .have:i≠k:=fun q=>e q.symm;simp[e,this]
open Classical in
theorem NM{j:J}{ds w:List Nat}{s1 s1':St}{s0 s' s'':S2}{l:List V}(hr0:R2 s1 s0)(hr:R2 s1' s')(hf:wZ ds w s1 s1' s0 s')(hw:∀i∈w,s0.next<=i\/i∈j.kl)(hc:As j s0 s'=some l)(hs:uI j ds s0 l=some s''):
  ∃s1'' w',Sub s1' s1''/\R2 s1'' s''/\s''.wo=w'++s0.wo/\wZ ds w' s1 s1'' s0 s''/\∀i∈w',s0.next<=i\/i∈j.kl:=by
 unfold As at hc;split at hc
 case h_2=>simp at hc
 rename_i l1 m1 hvs;split at hc
 case h_2=>simp at hc
 rename_i l2 m2 hgs;split at hc
 case h_2=>simp at hc
 rename_i l3 mf hos;obtain⟨hchk,hc⟩:=aH hc;obtain rfl:=aa hc;simp only[ah,aV]at hchk;obtain⟨_,hbm⟩:=hchk;unfold uI at hs;split at hs
 case h_2=>simp at hs
 rename_i e r1 hev;split at hs
 case h_2=>simp at hs
 rename_i g' r2 hgv;split at hs
 case h_2=>simp at hs
 rename_i hl r3 hov;obtain rfl:=aa hs
 -- the bindings
 have hm12:=(wA _ _ _ _ _ _ hgs).1;have hm2f:=(uQ _ _ _ _ _ hos).1;have hinj:Az mf:=(uQ _ _ _ _ _ hos).2 ((wA _ _ _ _ _ _ hgs).2 ((yR _ _ _ _ hvs).2 (fun b hb=>by simp at hb)))
 have hbj:∀b∈mf,s0.next+b.j<s0.next+j.os.length:=fun b hb=>by
  have:=(hbm b hb).1;have:b.j<j.os.length:=by simpa[Nat.blt_eq]using this
  omega
 have hbid:∀b∈mf,∀i,b.id=some i->s0.next<=i\/i∈j.kl:=fun b hb i hid=>by have:=(hbm b hb).2;rw[hid]at this;simpa[Nat.ble_eq]using this
 -- what is left of the rows
 have hx0:=Tn (h':=s'.heap) hbj;obtain⟨rfl,_⟩:=yQ hr hx0 j.vs [] l1 m1 (l2++l3) e r1 hvs (fun b hb=>hm2f b (hm12 b hb)) hev;have hle:s0.next<=s0.next+j.os.length:=Nat.le_add_right _ _;have hst0:jq s0.next s0.heap []:=⟨fun i o _ ho=>by simp[fO,bQ]at ho⟩
 have hrg:r2=l3:=(At (n':=s'.next) (hz:=s0.heap) hx0 (fun i _ h=>absurd rfl h) (fun _ _=>trivial) (fun v hv=>gy hle hst0 hv) j.gs s0.gh s'.gh m1 l2 m2 l3 g' r2 s1'.gh hgs hm2f hr0.gh.2 hr.gh.1 hr.gh.2 hgv).1;subst hrg;obtain⟨hap,hge⟩:=EH hr.hr hbj j.os 0 m2 r2 mf [] hl r3 hos (fun b hb=>hb) (by rw[List.append_nil];exact hov);clear hx0
 -- the heap
 generalize hh2:hl++j.kl.map (fun i=>(i,none))++s0.heap=h''
 have hfo:∀i,fO h'' i=match bQ hl i with|some o=>o|none=>if i∈j.kl then none else fO s0.heap i:=fun i=>by
  rw[<-hh2,aS];have:fO (hl++(j.kl.map (fun i=>(i,none))++s0.heap)) i=match bQ hl i with|some o=>o|none=>fO (j.kl.map (fun i=>(i,none))++s0.heap) i:=by simp only[fO,gG hl];cases bQ hl i<;>rfl
  rw[this,Pu]
 have hhl:∀i,i<s0.next->bQ hl i=none:=fun i hi=>CK fun p hp e=>by have:=hge p hp;omega
 have hfl:∀i,i<s0.next->fO h'' i=if i∈j.kl then none else fO s0.heap i:=fun i hi=>by rw[hfo,hhl i hi]
 have hwk:∀i,i<s0.next->i∉j.kl->i∉w:=fun i hi hk hm=>by
  rcases hw i hm with h|h
  .omega
  .exact hk h
 have eG:jq s0.next s0.heap h'':=⟨fun i o hi ho=>by
  rw[hfl i hi]at ho;split at ho
  .simp at ho
  .exact .inl ⟨o,ho,sf.refl _⟩⟩
 have hnb:∀i,i<s0.next->fO s0.heap i=none->fO h'' i=none:=fun i hi h=>by
  rw[hfl i hi];split
  .rfl
  .exact h
 have hlow:∀i,i<s0.next->fO h'' i≠none->fO h'' i=fO s'.heap i:=fun i hi h=>by
  rw[hfl i hi]at h|-;split at h
  .exact absurd rfl h
  .rename_i hk;rw[if_neg hk,(hf.ob i hi (hwk i hi hk)).1]
 generalize hMd:(fun(i j:Nat)=>(i=j/\j<s0.next)\/∃b∈mf,b.id=some j/\i=s0.next+b.j)=M;have hM1:∀i,i<s0.next->M i i:=fun i hi=>by rw[<-hMd];exact .inl ⟨rfl,hi⟩
 have hnew:∀b∈mf,∀o,fO h'' (s0.next+b.j)=some o->AP s'.heap s0.next mf b o:=fun b hb o ho=>by
  rw[hfo]at ho;split at ho
  .rename_i o' hx;obtain⟨o2,rfl,b2,hb2,e2,ha⟩:=hap _ _ hx;obtain rfl:=aa ho;rw[(hinj b hb b2 hb2).1 (by omega)];exact ha
  .split at ho
   .simp at ho
   .have:=(hr0.hr.ob _ _ ho).1;omega
 have cx:Cx s'.heap h'' s0.next (s0.next+j.os.length) mf M:=by
  refine⟨fun b hb i hid=>by rw[<-hMd];exact .inr ⟨b,hb,hid,rfl⟩,hbj,fun b hb i hid c' hc'=>?_,fun b hb i hid c' hc'=>?_,fun b hb hid c' hc'=>?_,fun b hb hid c' hc'=>?_⟩
  .cases ho:fO h'' (s0.next+b.j)with
   |none=>rw[ho]at hc';simp[zQ]at hc'
   |some o=>
    rw[ho]at hc';have ha:=hnew b hb o ho;cases o with
    |ar t s v=>
     obtain⟨_,⟨h1,_⟩|⟨id,ver,h1,h2⟩⟩:=ha
     .rw [hid]at h1;cases h1
     .rw [hid]at h1;obtain rfl:=aa h1;exact⟨t,s,(aa hc').symm,lF (.inl h2)⟩
    |im=>exact ha.elim
    |_=>simp[zQ]at hc'
  .cases ho:fO h'' (s0.next+b.j)with
   |none=>rw[ho]at hc';simp[zg]at hc'
   |some o=>
    rw[ho]at hc';have ha:=hnew b hb o ho;cases o with
    |rw t s ln=>
     obtain⟨_,⟨h1,_⟩|⟨id,h1,h2⟩⟩:=ha
     .rw [hid]at h1;cases h1
     .rw [hid]at h1;obtain rfl:=aa h1;exact⟨t,s,(aa hc').symm,sI h2⟩
    |_=>simp[zg]at hc'
  .cases ho:fO h'' (s0.next+b.j)with
   |none=>rw[ho]at hc';simp[zg]at hc'
   |some o=>
    rw[ho]at hc';have ha:=hnew b hb o ho;cases o with
    |rw t s ln=>
     obtain⟨_,⟨_,rfl,_⟩|⟨id,h1,_⟩⟩:=ha
     .rw [<-aa hc'];rfl
     .rw [hid]at h1;cases h1
    |_=>simp[zg]at hc'
  .cases ho:fO h'' (s0.next+b.j)with
   |none=>rw[ho]at hc';simp[zQ]at hc'
   |some o=>
    rw[ho]at hc';have ha:=hnew b hb o ho;cases o with
    |ar t s v=>
     obtain⟨_,⟨_,rfl,_⟩|⟨id,ver,h1,_⟩⟩:=ha
     .rw [<-aa hc'];rfl
     .rw [hid]at h1;cases h1
    |im=>exact ha.elim
    |_=>simp[zQ]at hc'
 have hkv:∀v,eW s0.next s0.heap v->eW (s0.next+j.os.length) h'' v:=fun v hv=>gy hle eG hv;obtain⟨_,hE0⟩:=yQ hr cx j.vs [] l1 m1 (l2++r2) e (l2++r2) hvs (fun b hb=>hm2f b (hm12 b hb)) hev;obtain⟨_,hgk,cs',hgR,hgT⟩:=At (n':=s'.next) cx hlow hM1 hkv j.gs s0.gh s'.gh m1 l2 m2 r2 g' r2 s1'.gh hgs hm2f hr0.gh.2 hr.gh.1 hr.gh.2 hgv
 -- the abstract machine's objects
 have hob0:∀i,∃ob,∀o,bQ hl i=some (some o)->vp h'' o ob/\By (s0.next+j.os.length) h'' o/\∀o1,ob=some o1->∃b∈mf,i=s0.next+b.j/\∃id o0,b.id=some id/\ao s1'.heap id=some o0/\LW M o1 o0:=by intro i;cases hx:bQ hl i with|none=>exact⟨none,fun o h=>by cases h⟩|some o'=>obtain⟨o,rfl,b,hb,e2,ha⟩:=hap i o' hx;obtain⟨ob,g1,g2,g3⟩:=PN hr.hr cx ha;refine⟨ob,fun o2 h=>?_⟩;obtain rfl:=aa (aa h);exact⟨g1,g2,fun o1 h1=>⟨b,hb,e2,g3 o1 h1⟩⟩
 obtain⟨fob,hfob⟩:∃f:Nat->Option Ob,∀i o,bQ hl i=some (some o)->vp h'' o (f i)/\By (s0.next+j.os.length) h'' o/\∀o1,f i=some o1->∃b∈mf,i=s0.next+b.j/\∃id o0,b.id=some id/\ao s1'.heap id=some o0/\LW M o1 o0:=⟨fun i=>iJ (hob0 i),fun i=>eV (hob0 i)⟩
 have hF:∃H:bh,∀i,ao H i=match bQ hl i with
   |some _=>fob i
   |none=>if i<s0.next/\i∉j.kl then(match ao s1'.heap i with|some o=>if Ft s0.next o then some o else none|none=>none)else none:=by
  refine K8 _ (hl.map (·.1)++s1'.heap.map (·.1)) fun i hi=>?_;cases hx:bQ hl i with|some o=>exact aG _ (xy (by rw[hx];simp))|none=>rw[hx]at hi;refine aD _ (Iz fun e=>hi ?_);simp only[e,ite_self]
 obtain⟨H,hH⟩:=hF;have hHn:∀i o,bQ hl i=some (some o)->ao H i=fob i:=fun i o h=>by rw[hH i,h]
 have hHl:∀i,i<s0.next->i∉j.kl->(∀x,ao s1'.heap i=some x->Ft s0.next x->ao H i=ao s1'.heap i)/\(ao s1'.heap i=none->ao H i=none):=fun i hi hk=>by rw[hH i,hhl i hi];simp only[hi,hk,not_false_eq_true,and_self,if_true];refine⟨fun x hx hlo=>by rw[hx];simp only[hlo,if_true],fun hx=>by rw[hx]⟩
 have hHR:∀i,i<s0.next->i∉j.kl->∀o,fO s0.heap i=some o->∀g,vp g o (ao s1.heap i)->vp g o (ao H i):=fun i hi hk o ho g hg=>by have h1:=(hf.ob i hi (hwk i hi hk)).2 o ho;obtain⟨_,h2,h3⟩:=hr0.hr.ob i o ho;exact KS (h1 _ h2) h3 (hHl i hi hk) g (h1 g hg)
 -- its temporaries
 have hE1:∀t,∃x',∀v,bQ e t=some v->eW (s0.next+j.os.length) h'' v/\ft h'' v x'/\∃x,bQ s1'.cR t=some x/\Di M x' x/\∀l,x'≠.gB l:=by intro t;cases hx:bQ e t with|none=>exact⟨.gB [],fun v h=>by cases h⟩|some v=>obtain⟨h1,x,x',h2,h3,h4,h5⟩:=hE0 t v hx;refine⟨x',fun v2 h=>?_⟩;obtain rfl:=aa h;exact⟨h1,h3,x,h2,h4,h5⟩
 obtain⟨fe,hfe⟩:∃f:Nat->TV,∀t v,bQ e t=some v->eW (s0.next+j.os.length) h'' v/\ft h'' v (f t)/\∃x,bQ s1'.cR t=some x/\Di M (f t) x/\∀l,f t≠.gB l:=⟨fun t=>iJ (hE1 t),fun t=>eV (hE1 t)⟩
 have hG:∃E:hZ,∀t,bQ E t=match bQ e t with
   |some _=>some (fe t)
   |none=>(match bQ s1'.cR t with|some x=>if∀i∈lR x,i<s0.next then some x else none|none=>none):=by
  refine HK _ (e.map (·.1)++s1'.cR.map (·.1)) fun t ht=>?_;cases hx:bQ e t with|some o=>exact aG _ (xy (by rw[hx];simp))|none=>rw[hx]at ht;refine aD _ (xy fun e=>ht ?_);simp only[e]
 obtain⟨E,hE⟩:=hG;have hEn:∀t v,bQ e t=some v->bQ E t=some (fe t):=fun t v h=>by rw[hE t,h]
 have hEl:∀t x,bQ e t=none->bQ s1'.cR t=some x->(∀i∈lR x,i<s0.next)->bQ E t=some x:=fun t x h1 h2 h3=>by rw[hE t,h1,h2];exact if_pos h3
 have hsub:Sub s1' ⟨E,H,s0.next+j.os.length,cs'⟩:=by
  refine Ky (aK:=s0.next) hinj hbj hle (fun t x' hx=>?_) (fun i o' ho=>?_) (by rw[hMd];exact hgT)
  .rw [hMd];rw[hE t]at hx;split at hx
   .rename_i v hv;obtain⟨_,_,x,h3,h4,_⟩:=hfe t v hv;rw[<-aa hx];exact⟨x,h3,h4⟩
   .split at hx
    .rename_i x hx1;split at hx
     .rename_i hlo;obtain rfl:=aa hx;exact⟨x,hx1,Di.dW x fun i hi=>hM1 i (hlo i hi)⟩
     .simp at hx
    .simp at hx
  .rw [hMd];cases hx:bQ hl i with
   |some o2=>obtain⟨o,rfl,_⟩:=hap i o2 hx;rw[hHn i o hx]at ho;obtain⟨_,_,h3⟩:=hfob i o hx;obtain⟨b,hb,e2,id,o0,hid,h4,h5⟩:=h3 o' ho;refine⟨id,o0,.inr ⟨b,hb,hid,e2⟩,h4,h5,fun b2 hb2 hid2=>?_⟩;rw[(hinj b2 hb2 b hb).2 id hid2 hid];exact e2
   |none=>
    rw[hH i,hx]at ho;simp only at ho;split at ho
    .rename_i hik;split at ho
     .rename_i o hlo;split at ho
      .rename_i hlow1;obtain rfl:=aa ho;refine⟨i,o,.inl ⟨rfl,hik.1⟩,hlo,?_,fun b hb hid=>?_⟩
       .cases o with|box cs=>exact .inr ⟨cs,cs,rfl,rfl,ou.dW cs fun i hi=>hM1 i (hlow1 i hi)⟩|nst sz sl=>exact .inl ⟨rfl,by simp,fun k q len hk=>hM1 q (hlow1 k q len hk)⟩|_=>exact .inl ⟨rfl,by simp,trivial⟩
       .rcases hbid b hb i hid with h|h
        .have:=hik.1;omega
        .exact absurd h hik.2
      .simp at ho
     .simp at ho
    .simp at ho
 refine⟨⟨E,H,s0.next+j.os.length,cs'⟩,hl.map (·.1)++j.kl,hsub,⟨fun t v ht=>?_,⟨fun i o ho=>?_⟩,am _,hgR,hgk⟩,rfl,⟨hle,eG,?_,fun i hi hi2=>?_,fun t x ht hx hk=>?_⟩,fun i hi=>?_⟩
 .have ht:bQ (e++ds.map (fun t=>(t,V.gn))++s0.cR) t=some v:=ht;rw[aS,gG]at ht;cases hx:bQ e t with
  |some v2=>rw[hx]at ht;obtain rfl:=aa ht;obtain⟨h1,h2,_⟩:=hfe t v2 hx;exact⟨h1,fun _=>⟨_,hEn t v2 hx,h2⟩⟩
  |none=>
   rw[hx]at ht;simp only at ht;rw[gG,Nk]at ht;by_cases hds:t∈ds
   .rw [if_pos hds]at ht;obtain rfl:=aa ht;exact⟨trivial,fun h=>by rcases h with h|h<;>simp[ig]at h⟩
   .rw [if_neg hds]at ht;obtain⟨h1,h2⟩:=hr0.cR t v ht;refine⟨hkv v h1,fun ha=>?_⟩;obtain⟨x,h3,h4⟩:=h2 (ha.imp (vF eG hnb h1) fun q=>q);have h5:=u4 eG h1 h4
    have hids:∀i∈lR x,i<s0.next/\i∉j.kl/\fO s0.heap i≠none:=fun i hi=>by
     rcases ha with ha|rfl
     .have i1:=(E1 h4 h1 i hi).1;have i2:=(E1 h5 (hkv v h1) i hi).2 ha;rw[hfl i i1]at i2;split at i2
      .exact absurd rfl i2
      .exact ⟨i1,by assumption,i2⟩
     .obtain rfl:x=.gB []:=h4;simp[lR,lR.zy]at hi
    have h6:=hf.cR t x hds h3 fun i hi=>⟨(hids i hi).1,hwk i (hids i hi).1 (hids i hi).2.1,(hids i hi).2.2⟩;exact⟨x,hEl t x hx h6 fun i hi=>(hids i hi).1,h5⟩
 .have ho:fO h'' i=some o:=ho;show i<s0.next+j.os.length/\vp h'' o (ao H i)/\By (s0.next+j.os.length) h'' o;have ho2:=ho;rw[hfo i]at ho;split at ho
  .rename_i o2 hx;subst ho;obtain⟨h1,h2,_⟩:=hfob i o hx;obtain⟨_,_,b,hb,e2,_⟩:=hap i _ hx;rw[hHn i o hx];exact⟨by have:=hbj b hb;omega,h1,h2⟩
  .split at ho
   .simp at ho
   .rename_i hk;obtain⟨h1,h2,h3⟩:=hr0.hr.ob i o ho;exact⟨by omega,hHR i h1 hk o ho _ (pw eG h3 h2),nW hle eG h3⟩
 .show cs'.length=_;rw[hgT.len];exact hf.gl
 .simp only[ak,not_or]at hi2;refine⟨?_,hHR i hi hi2.2⟩;show fO h'' i=_;rw[hfl i hi,if_neg hi2.2]
 .have h6:=hf.cR t x ht hx fun i hi=>by obtain⟨i1,i2,i3⟩:=hk i hi;simp only[ak,not_or]at i2;exact⟨i1,hwk i i1 i2.2,i3⟩
  cases he:bQ e t with
  |none=>exact hEl t x he h6 fun i hi=>(hk i hi).1
  |some v=>
   show bQ E t=some x;rw[hEn t v he];obtain⟨_,_,x0,h3,h4,h5⟩:=hfe t v he;rw[h6]at h3;obtain rfl:=aa h3;refine congrArg some (Di.TI (fun i=>s0.next<=i\/i∈j.kl) (fun a b hab=>?_) h4 h5 fun i hi hB=>?_)
   .rw [<-hMd]at hab;rcases hab with⟨rfl,_⟩|⟨bb,hb,hid,_⟩
    .exact .inl rfl
    .exact .inr (hbid bb hb b hid)
   .obtain ⟨i1,i2,_⟩:=hk i hi;simp only[ak,not_or]at i2;rcases hB with h|h
    .omega
    .exact i2.2 h
 .rcases ak.1 hi with hi|hi
  .obtain ⟨p,hp,rfl⟩:=eh.1 hi;exact .inl (hge p hp)
  .exact .inr hi
end Go.Ev
