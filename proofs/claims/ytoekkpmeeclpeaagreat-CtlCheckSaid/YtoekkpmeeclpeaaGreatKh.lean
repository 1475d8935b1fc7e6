/- Regions: what an operation leaves. Conditions: as stated. -/
import Derived.Test.YtoekkpmeeclpeaaGreatFz
open Bool renaming and_eq_true->ak
open Classical renaming choose->mg,choose_spec->gK
open List renaming all_eq_true->bg,append_assoc->aM,getElem?_drop->bQ,getElem?_take->fq,length_map->aD,mem_append->aC,mem_append_left->aU,mem_append_right->aX,mem_cons->aW,mem_cons_of_mem->aI,nil_append->cz,singleton_inj->fo
open List.cons renaming inj->cj
open Nat renaming le_add_right->iR,le_refl->am,le_succ->bn,le_trans->bo,lt_of_lt_of_le->cP,lt_succ_self->aQ,zero_add->bS
open Option.some renaming inj->aa
open Prod.mk renaming inj->af
namespace Go.Ev
theorem R2.mono{s1:St}{s:S2}(hr:R2 s1 s){n:Nat}(hn:s.next<=n):R2 s1 {s with next:=n}:=⟨fun t v ht=>(hr.cW t v ht).imp (gI hn (jy.refl _ _)) id,hr.hr.mono hn,bo hr.next hn,hr.gh.1,gI hn (jy.refl _ _) hr.gh.2⟩
theorem R2.nx{s1:St}{s:S2}(hr:R2 s1 s){n:Nat}(hn:n<=s.next):R2 {s1 with next:=n} s:=⟨hr.cW,hr.hr,hn,hr.gh⟩
theorem R2.wo{s1:St}{s:S2}(hr:R2 s1 s)(w:List Nat):R2 s1 {s with wo:=w}:=⟨hr.cW,hr.hr,hr.next,hr.gh⟩
theorem uy.mono{s1:St}{s:S2}{q:Rg}(hr:uy s1 s q){n:Nat}(hn:s.next<=n):uy s1 {s with next:=n} q:=⟨hr.r.mono hn,hr.kn,fun t g b v h=>let⟨c,h1,h2⟩:=hr.cd t g b v h;⟨c,h1,fun e=>let⟨x,h3,h4,h5⟩:=h2 e;⟨x,h3,h4,gI hn (jy.refl _ _) h5⟩⟩⟩
theorem uy.nx{s1:St}{s:S2}{q:Rg}(hr:uy s1 s q){n:Nat}(hn:n<=s.next):uy {s1 with next:=n} s q:=⟨hr.r.nx hn,hr.kn,hr.cd⟩
theorem uy.none{s1:St}{s:S2}(hr:R2 s1 s):uy s1 s ⟨[],[]⟩:=⟨hr,fun g b h=>by simp[SX,bV]at h,fun t g b v h=>by simp[bV]at h⟩
theorem uy.Yw{s1:St}{s:S2}{q:Rg}(hr:uy s1 s q){g:Nat}{c:Bool}(hg:bV s1.cW g=some (tB c)):uy s1 s ⟨(g,c)::q.kn,q.cd⟩:=by
 refine⟨hr.r,fun g' b h=>?_,hr.cd⟩;simp[SX,bV]at h;by_cases e:g=g'
 .simp_all
 .have e':(g==g')=false:=by simpa using e
  rw[e']at h;exact hr.kn g' b h
theorem HT{α:Type}{d:Nat}:∀{l:List (Nat×α)}{t:Nat}{x:α},bV (l.filter fun e=>!(e.1==d)) t=some x->t≠d/\bV l t=some x:=by
 intro l;induction l with
 |nil=>intro t x h;simp[bV]at h
 |cons p l ih=>
  obtain⟨a,y⟩:=p;intro t x h;by_cases e:a=d
  .simp [bV]
   grind
  .rw [List.filter_cons,if_pos (by simp[e])]at h;simp[bV]at h|-
   grind
theorem zu{α:Type}:∀{l:List (Nat×α)}{t:Nat}{x:α},bV l t=some x->(t,x)∈l:=by
 intro l;induction l with
 |nil=>intro t x h;simp[bV]at h
 |cons p l ih=>
  intro t x h;simp[bV]at h
  grind
theorem Gd{q q':Rg}{d:Option Nat}(h:QL q d=some q'):q'.kn=q.kn/\(∀t y,bV q'.cd t=some y->d≠some t/\bV q.cd t=some y/\d≠some y.1)/\∀g b,SX q.kn g=some b->d≠some g:=by
 cases d with
 |none=>obtain rfl:=aa h;simp_all
 |some d=>
  simp[QL]at h;cases hc:(q.cd.any _||q.kn.any _)with
  |true=>rw[hc]at h;simp at h
  |false=>
   rw[hc]at h;obtain rfl:=aa h;simp only[Bool.or_eq_false_iff,List.any_eq_false,beq_iff_eq]at hc;refine⟨rfl,fun t y hy=>?_,fun g b hg e=>?_⟩
   .obtain ⟨h1,h2⟩:=HT hy;exact⟨fun e=>h1 (aa e).symm,h2,fun e=>hc.1 _ (zu h2) (aa e).symm⟩
   .exact hc.2 _ (zu hg) (aa e).symm
theorem FR{s:S2}{d:Option Nat}{v:V}(t:Nat):bV (vP s d v).cW t=if d=some t then some v else bV s.cW t:=by cases d with|none=>simp[vP]|some d=>grind [vP,bV]
theorem rI{s:S2}{d:Option Nat}{v:V}:(vP s d v).heap=s.heap/\(vP s d v).next=s.next/\(vP s d v).gh=s.gh/\(vP s d v).wo=s.wo:=by cases d<;>exact⟨rfl,rfl,rfl,rfl⟩
theorem uy.ld{s1:St}{s s':S2}{q q':Rg}(hr:uy s1 s q){x:TV}{u:eW}{av:List Nat}{m:Nat}{v:V}{l:List Nat}(hd:sd s s' s1.heap x u av m v l){d:Option Nat}(hq:QL q d=some q'):
  uy ⟨put s1.cW d x,u++s1.heap,m,s1.gh⟩ (vP s' d v) q':=by
 obtain⟨c1,c2,c3⟩:=Gd hq;obtain⟨p1,p2,p3,p4⟩:=rI;refine⟨⟨fun t w ht=>?_,by rw[p1,p2];exact hd.hr,by rw[p2];exact hd.m,?_⟩,fun g b hg=>?_,fun t g b w ht=>?_⟩
 .rw [FR]at ht;rw[p1,p2];rw[lV];split at ht
  .rename_i e;obtain rfl:=aa ht;rw[if_pos e];exact⟨hd.Y2,fun _=>⟨x,rfl,hd.val⟩⟩
  .rename_i e;rw[if_neg e];rw[hd.cW]at ht;obtain⟨h1,h2⟩:=hr.r.cW t w ht;refine⟨gI hd.le hd.dR h1,fun ha=>?_⟩;obtain⟨y,h3,h4⟩:=h2 (ha.imp (xn hd.dR hd.nb h1) id);exact⟨y,h3,wl hd.dR h1 h4⟩
 .rw [p3,p1,p2,hd.gh];exact⟨FN hd.dR hd.nb hr.r.gh.2 hr.r.gh.1,gI hd.le hd.dR hr.r.gh.2⟩
 .rw [c1]at hg;rw[lV,if_neg (c3 g b hg)];exact hr.kn g b hg
 .obtain ⟨e1,e2,e3⟩:=c2 t _ ht;obtain⟨c,h1,h2⟩:=hr.cd t g b w e2;rw[lV,lV,if_neg e3,if_neg e1,p1,p2];refine⟨c,h1,fun e=>?_⟩;obtain⟨y,h3,h4,h5⟩:=h2 e;exact⟨y,h3,wl hd.dR h5 h4,gI hd.le hd.dR h5⟩
theorem H4{s1:St}{s:S2}{q:Rg}(hr:uy s1 s q):sd s s s1.heap (.gX []) [] [] s.next .no []:=sd.pure hr.r.hr rfl trivial fun i hi=>by simp at hi
theorem uy.L8{s1:St}{s:S2}{q q':Rg}(hr:uy s1 s q){d g:Nat}{b c:Bool}{v:V}{x:TV}{m:Nat}(hm:m<=s.next)(hq:QL q (some d)=some q')(hg:bV s1.cW g=some (tB c))(hgd:g≠d)
  (hx:c=b->fC s.heap v x/\eV s.next s.heap v):uy ⟨put s1.cW (some d) x,s1.heap,m,s1.gh⟩ (vP s (some d) .gn) ⟨q'.kn,(d,g,b,v)::q'.cd⟩:=by
 obtain⟨c1,c2,c3⟩:=Gd hq;refine⟨⟨fun t w ht=>?_,hr.r.hr,hm,hr.r.gh⟩,fun g' b' hg'=>?_,fun t g' b' w ht=>?_⟩
 .rw [FR]at ht;rw[lV];split at ht
  .obtain rfl:=aa ht;exact⟨trivial,fun h=>by rcases h with h|h<;>simp[iw]at h⟩
  .rename_i e;rw[if_neg e];exact hr.r.cW t w ht
 .rw [c1]at hg';rw[lV,if_neg (c3 g' b' hg')];exact hr.kn g' b' hg'
 .simp [bV]at ht;rw[lV,lV];by_cases e:d=t
  .subst e;obtain⟨rfl,rfl,rfl⟩:g=g'/\b=b'/\v=w:=by simpa using ht
   rw[if_pos rfl,if_neg (by simpa using Ne.symm hgd)];exact⟨c,hg,fun e=>⟨x,rfl,hx e⟩⟩
  .have e':(d==t)=false:=by simpa using e
   rw[e']at ht;obtain⟨_,e2,e3⟩:=c2 t _ ht;obtain⟨c',h1,h2⟩:=hr.cd t g' b' w e2;rw[if_neg e3,if_neg (by simpa using e)];exact⟨c',h1,h2⟩
def Y9(e:jk)(gd:Option (Nat×Bool)):GV->Prop
 |.run=>ke e gd=some true/\∀g b,gd=some (g,b)->bV e g=some (tB b)
 |.skip=>ke e gd=some false
 |.L8 g b c=>gd=some (g,b)/\bV e g=some (tB c)
theorem pZ{e:jk}{g:Nat}{b c:Bool}(h:bV e g=some (tB c)):ke e (some (g,b))=some (c==b):=by simp[ke,h]
theorem NQ{e:jk}{g:Nat}{b c:Bool}(h:bV e g=some (tB c)):Y9 e (some (g,b)) (bif c==b then .run else .skip):=by have hw:=pZ (b:=b) h;cases hc:(c==b)with|true=>rw[hc]at hw;refine⟨hw,fun g' b' e'=>?_⟩;simp_all|false=>rw[hc]at hw;exact hw
theorem AD{s1:St}{s:S2}{q:Rg}(hr:uy s1 s q){gd:Option (Nat×Bool)}{r:GV}(h:Yz s.cW q.kn gd=some r):Y9 s1.cW gd r:=by
 unfold Yz at h;split at h
 .obtain rfl:=aa h;exact⟨rfl,fun _ _ e=>by simp at e⟩
 .rename_i g b;split at h
  .rename_i c hk;obtain rfl:=aa h;exact NQ (hr.kn g c hk)
  .split at h
   .rename_i c he;obtain rfl:=aa h;obtain⟨x,h1,h2⟩:=(hr.r.cW g _ he).2 (.inl rfl);rw[xE h2]at h1;exact NQ h1
   .rename_i c he;obtain rfl:=aa h;obtain⟨x,h1,h2⟩:=(hr.r.cW g _ he).2 (.inl rfl);rw[ID h2]at h1;exact⟨rfl,h1⟩
   .rename_i he;obtain rfl:=aa h;obtain⟨x,h1,h2⟩:=(hr.r.cW g _ he).2 (.inr rfl);rw[h2]at h1;show ke s1.cW _=_;simp[ke,h1]
   .simp at h
structure zA(ds w:List Nat)(s1 s1':St)(s s':S2):Prop where
 le:s.next<=s'.next
 dR:jy s.next s.heap s'.heap
 gl:s1'.gh.length=s1.gh.length
 ob:∀i,i<s.next->i∉w->fO s'.heap i=fO s.heap i/\∀o,fO s.heap i=some o->∀g,xx g o (au s1.heap i)->xx g o (au s1'.heap i)
 cW:∀t x,t∉ds->bV s1.cW t=some x->(∀i∈mD x,i<s.next/\i∉w/\fO s.heap i≠none)->bV s1'.cW t=some x
def Fr(ds:List Nat)(s1 s1':St)(s s':S2):Prop:=∃w,s'.wo=w++s.wo/\zA ds w s1 s1' s s'
theorem zA.next{ds w:List Nat}{s1:St}{s:S2}{n m:Nat}(hn:s.next<=n):zA ds w s1 {s1 with next:=m} s {s with next:=n}:=⟨hn,jy.refl _ _,rfl,fun _ _ _=>⟨rfl,fun _ _ _ h=>h⟩,fun _ _ _ h _=>h⟩
theorem zA.trans{ds w w':List Nat}{s1 s2 s3:St}{s s' s'':S2}(a:zA ds w s1 s2 s s')(b:zA ds w' s2 s3 s' s''):zA ds (w'++w) s1 s3 s s'':=by
 refine⟨bo a.le b.le,a.dR.trans a.le b.dR,b.gl.trans a.gl,fun i hi hw=>?_,fun t x ht hx hc=>?_⟩
 .simp only[aC,not_or]at hw;obtain⟨h1,h2⟩:=a.ob i hi hw.2;obtain⟨h3,h4⟩:=b.ob i (cP hi a.le) hw.1;simp_all
 .refine b.cW t x ht (a.cW t x ht hx fun i hi=>?_) fun i hi=>?_
  .simp_all
  .obtain ⟨h1,h2,h3⟩:=hc i hi;simp at h2;exact⟨cP h1 a.le,h2.1,by rw[(a.ob i h1 h2.2).1];exact h3⟩
theorem zA.mono{ds ds' w w':List Nat}{s1 s2:St}{s s':S2}(a:zA ds w s1 s2 s s')(hd:∀t∈ds,t∈ds')(hw:∀i∈w,i∈w'):zA ds' w' s1 s2 s s':=⟨a.le,a.dR,a.gl,fun i hi h=>a.ob i hi fun q=>h (hw i q),fun t x ht hx hc=>a.cW t x (fun q=>ht (hd t q)) hx fun i hi=>⟨(hc i hi).1,fun q=>(hc i hi).2.1 (hw i q),(hc i hi).2.2⟩⟩
theorem Fr.refl{ds:List Nat}{s1:St}{s:S2}:Fr ds s1 s1 s s:=⟨[],rfl,zA.next (am _)⟩
theorem Fr.trans{ds:List Nat}{s1 s2 s3:St}{s s' s'':S2}(a:Fr ds s1 s2 s s')(b:Fr ds s2 s3 s' s''):Fr ds s1 s3 s s'':=by obtain⟨w,h1,h2⟩:=a;obtain⟨w',h3,h4⟩:=b;exact⟨w'++w,by rw[h3,h1,aM],h2.trans h4⟩
theorem Fr.mono{ds ds':List Nat}{s1 s2:St}{s s':S2}(a:Fr ds s1 s2 s s')(hd:∀t∈ds,t∈ds'):Fr ds' s1 s2 s s':=let⟨w,h1,h2⟩:=a;⟨w,h1,h2.mono hd fun _ h=>h⟩
theorem Fr.Vc{s1:St}{s s':S2}{x:TV}{u:eW}{av:List Nat}{m:Nat}{v v':V}{l:List Nat}(hd:sd s s' s1.heap x u av m v l)(d:Option Nat):Fr d.toList s1 ⟨put s1.cW d x,u++s1.heap,m,s1.gh⟩ s (vP s' d v'):=by
 obtain⟨w,h1,h2,h3⟩:=hd.wo;obtain⟨p1,p2,p3,p4⟩:=rI;refine⟨w,p4.trans h1,by rw[p2];exact hd.le,by rw[p1];exact hd.dR,rfl,fun i hi hw=>⟨by rw[p1];exact h3 i hw,fun o ho g hg=>?_⟩,fun t y ht hy _=>?_⟩
 .grind [au,xY]
 .rw [lV,if_neg fun e=>ht (by simp[e])];exact hy
def OX(P:Program)(o:ol)(s1:St)(s s':S2)(q':Rg)(t:List Nat×List Nat):Prop:=
 (ke s1.cW o.guard=some true/\∃call x u av m,fg P call/\ci call o.k (o.args.map (kz s1.cW)) s1.heap s.next=some (x,u,av,m)/\(∀i∈av,i∈t.1)/\(∀p∈u,p.1∈t.2)/\
  uy ⟨put s1.cW o.dst x,u++s1.heap,m,s1.gh⟩ s' q'/\Fr o.dst.toList s1 ⟨put s1.cW o.dst x,u++s1.heap,m,s1.gh⟩ s s')\/
 (ke s1.cW o.guard=some false/\uy ⟨drop s1.cW o.dst,s1.heap,s.next,s1.gh⟩ s' q'/\Fr o.dst.toList s1 ⟨drop s1.cW o.dst,s1.heap,s.next,s1.gh⟩ s s')
section
variable{P:Program}{β:Type}{tb:Gu}{dr:Option Nat}{o:OP}{r:List OP}{i:Nat}{s1:St}{s s0:S2}{q:Rg}{tr:LR}{k:S2->LR->Option β}{z:β}
theorem Dw(htb:qt P tb)(hg:mG)(hr:uy s1 s q)(hw:ke s1.cW o.o.guard=some true)(hgc:∀g b,o.o.guard=some (g,b)->bV s1.cW g=some (tB b))
  (hz:(VD tb o s q o.o.guard fun v s1 l=>
   bif KY dr i s1 then(match QL q o.o.dst with
    |some q=>nO tb dr r (i+1) (vP s1 o.o.dst v) q (tr++[(l,s1.wo.take (s1.wo.length-s.wo.length))]) k
    |none=>none)else none)=some z):
  ∃s' q' t,nO tb dr r (i+1) s' q' (tr++[t]) k=some z/\KY dr i s'=true/\OX P o.o s1 s s' q' t:=by
 obtain⟨v,s',l,h1,call,hc,x,u,av,m,h2,hd⟩:=N5 htb hg hr hgc hz;obtain⟨hb,h1⟩:=aJ h1;split at h1
 .rename_i q' hq;refine⟨_,_,_,h1,?_,.inl ⟨hw,call,x,u,av,m,hc,h2,hd.av,fun p hp=>?_,hr.ld hd hq,Fr.Vc hd _⟩⟩
  .unfold KY at hb|-;rw[rI.2.1];exact hb
  .obtain ⟨w,h3,h4,_⟩:=hd.wo;have:=h4 p hp;simp_all
 .simp at h1
theorem Df(hr:uy s1 s q)(hb:KY dr i s=true)(hw:ke s1.cW o.o.guard=some false)
  (hz:(match QL q o.o.dst with|some q=>nO tb dr r (i+1) (vP s o.o.dst .no) q (tr++[([],[])]) k|none=>none)=some z):
  ∃s' q' t,nO tb dr r (i+1) s' q' (tr++[t]) k=some z/\KY dr i s'=true/\OX P o.o s1 s s' q' t:=by
 split at hz
 .rename_i q' hq;refine⟨_,_,_,hz,?_,.inr ⟨hw,?_⟩⟩
  .unfold KY at hb|-;rw[rI.2.1];exact hb
  .exact ⟨hr.ld (H4 hr) hq,Fr.Vc (H4 hr) _⟩
 .simp at hz
theorem OG{α:Type}{c:Bool}{x:Option α}{y:α}(h:(bif c then none else x)=some y):x=some y:=by
 grind
theorem E0(htb:qt P tb)(hg:mG)(hr:uy s1 (RF dr i s0) q)(hb:KY dr i (RF dr i s0)=true)(hz:nO tb dr (o::r) i s0 q tr k=some z):
  ∃s' q' t,nO tb dr r (i+1) s' q' (tr++[t]) k=some z/\KY dr i s'=true/\OX P o.o s1 (RF dr i s0) s' q' t:=by
 simp[nO]at hz;split at hz
 .simp at hz
 .rename_i hgd;obtain⟨h1,h2⟩:=AD hr hgd;exact Dw htb hg hr h1 h2 hz
 .rename_i hgd;exact Df hr hb (AD hr hgd) hz
 .rename_i g b c hgd;obtain⟨h1,h2⟩:=AD hr hgd;split at hz
  .rename_i v l ht;have ht:=OG ht;split at hz
   .rename_i q' d hq hd;cases hgd2:Nat.beq g d with
    |true=>rw[hgd2]at hz;simp at hz
    |false=>
     rw[hgd2]at hz;have hne:g≠d:=fun e=>by rw[e]at hgd2;simp at hgd2
     rw[hd]at hq;refine⟨_,_,_,hz,?_,?_⟩
     .simp_all [KY,rI]
     .by_cases hcb:c=b
      .subst hcb;obtain⟨x,av,e1,e2,e3,e4⟩:=BP hg hr (fun g' b' e=>by simp_all) ht nM (RF dr i s0).next
       refine .inl ⟨by rw[h1,pZ h2];simp,nM,x,[],av,_,lT,e1,e4,fun p hp=>by simp at hp,?_⟩;rw[hd];exact⟨hr.L8 (am _) hq h2 hne fun _=>⟨e2,e3⟩,Fr.Vc (sd.pure hr.r.hr e2 e3 e4) _⟩
      .refine .inr ⟨by rw[h1,pZ h2];simpa using hcb,?_⟩;rw[hd];exact⟨hr.L8 (am _) hq h2 hne fun e=>absurd e hcb,Fr.Vc (H4 hr) _⟩
   .simp at hz
  .have hkn:=hr.Yw h2;cases b with
   |true=>cases c with|true=>exact Dw htb hg hkn (by rw[h1,pZ h2];rfl) (fun g' b' e=>by simp_all) hz|false=>exact Df hkn hb (by rw[h1,pZ h2];rfl) hz
   |false=>cases c with|true=>exact Df hkn hb (by rw[h1,pZ h2];rfl) hz|false=>exact Dw htb hg hkn (by rw[h1,pZ h2];rfl) (fun g' b' e=>by simp_all) hz
theorem Kv(htb:qt P tb)(hg:mG):∀(ops:List OP)(i:Nat)(s1:St)(s:S2)(q:Rg)(tr:LR),nO tb none ops i s q tr k=some z->uy s1 s q->
  WO P (ops.map (·.o)) s1 fun s1'=>∃s' tr',R2 s1' s'/\Fr (ops.filterMap (·.o.dst)) s1 s1' s s'/\k s' tr'=some z:=by
 intro ops;induction ops with
 |nil=>intro i s1 s q tr hz hr;exact wk.of ⟨s,tr,hr.r,Fr.refl,hz⟩
 |cons o r ih=>
  intro i s1 s q tr hz hr;have hsub:Sub s1 {s1 with next:=s.next}:=Sub.heap (fun _=>.inl rfl) hr.r.next;have hr1:=hr.nx (am _);obtain⟨s',q',t,h1,_,h2⟩:=E0 htb hg (hr1) rfl hz;have hfs:∀t∈o.o.dst.toList,t∈(o::r).filterMap (·.o.dst):=fun t ht=>by simp_all
  have hrs:∀t∈r.filterMap (·.o.dst),t∈(o::r).filterMap (·.o.dst):=fun t ht=>by simp_all
  have key:∀s2,Fr o.o.dst.toList {s1 with next:=s.next} s2 s s'->uy s2 s' q'->WO P (r.map (·.o)) s2 fun s1'=>∃s' tr',R2 s1' s'/\Fr ((o::r).filterMap (·.o.dst)) s1 s1' s s'/\k s' tr'=some z:=by
   intro s2 hf hr2;refine WO.mono (fun s1'⟨s3,tr3,g1,g2,g3⟩=>⟨s3,tr3,g1,?_,g3⟩) (ih _ _ _ _ _ h1 hr2);have f0:Fr ((o::r).filterMap (·.o.dst)) s1 {s1 with next:=s.next} s s:=⟨[],rfl,zA.next (am _)⟩
   exact(f0.trans (hf.mono hfs)).trans (g2.mono hrs)
  refine⟨_,hsub,?_⟩;rcases h2 with⟨hw,call,x,u,av,m,hc,he,_,_,hr2,hf⟩|⟨hw,hr2,hf⟩
  .exact .inl ⟨hw,call,x,u,av,m,hc,he,key _ hf hr2⟩
  .exact .inr ⟨hw,key _ hf hr2⟩
def DT:Tr->LR->Prop
 |[],[]=>True
 |a::x,b::y=>(∀i∈a.1,i∈b.1)/\(∀i∈a.2,i∈b.2)/\DT x y
 |_,_=>False
theorem DT.yZ:∀{x:Tr}{y:LR}{a b:List Nat×List Nat},DT x y->(∀i∈a.1,i∈b.1)->(∀i∈a.2,i∈b.2)->DT (x++[a]) (y++[b]):=by
 intro x;induction x with
 |nil=>intro y a b h h1 h2;cases y with|nil=>exact⟨h1,h2,trivial⟩|cons=>exact h.elim
 |cons c x ih=>intro y a b h h1 h2;cases y with|nil=>exact h.elim|cons d y=>exact⟨h.1,h.2.1,ih h.2.2 h1 h2⟩
theorem DT.get:∀{x:Tr}{y:LR}(i:Nat){a:List Nat×List Nat},DT x y->x[i]?=some a->∃b,y[i]?=some b/\(∀i∈a.1,i∈b.1)/\(∀i∈a.2,i∈b.2):=by
 intro x;induction x with
 |nil=>intro y i a _ h;simp at h
 |cons c x ih=>
  intro y i a hl h;cases y with
  |nil=>exact hl.elim
  |cons d y=>cases i with|zero=>obtain rfl:=aa h;exact⟨d,rfl,hl.1,hl.2.1⟩|succ i=>exact ih i hl.2.2 (by simpa using h)
theorem ON{a b c d:List Nat×List Nat}(h:mh c d=true)(a1:∀i∈a.1,i∈c.1)(a2:∀i∈a.2,i∈c.2)(b1:∀i∈b.1,i∈d.1)(b2:∀i∈b.2,i∈d.2):mh a b=true:=by
 simp[mh]at h|-
 grind
def O1(ops:List OP)(tr:Tr):Prop:=∀(j:Nat)(o:OP)(a:List Nat×List Nat),ops[j]?=some o->tr[j]?=some a->NH o.o.k=true->a.1.length<=1
theorem SQ{c:Call}{k:K}{vs:List (Option TV)}{h:bp}{n:Nat}{x:TV}{u:eW}{av:List Nat}{m:Nat}(he:ci c k vs h n=some (x,u,av,m))(hk:NH k=true):av.length<=1:=by
 cases k<;>simp[NH]at hk;rename_i ka ks va zero ok;unfold ci at he;split at he<;>first|(simp at he;done)|skip
 all_goals first
  |(rename_i e;cases e;done)
  |skip
 rename_i e;cases e;split at he
 .rename_i v i hv;obtain⟨_,e⟩:=af (aa he);obtain⟨_,e⟩:=af e;obtain⟨rfl,_⟩:=af e;unfold ir at hv;split at hv
  .grind
  .grind
  .simp at hv
 .simp at he
theorem Ts{ops:List OP}{x:Tr}{y:LR}{dyn:List (Nat×Nat)}(hl:DT x y)(hk:O1 ops x)(hd:Tt ops y dyn=true):AR x dyn=true:=by
 simp only[Tt,AR,bg]at hd|-;intro p hp;have hp2:=hd p hp;obtain⟨i,j⟩:=p;have key:∀(j':Nat)a b c d,x[i]?=some a->x[j']?=some b->y[i]?=some c->y[j']?=some d->mh c d=true->mh a b=true:=by intro j' a b c d ha hb hc hd h;obtain⟨c',h1,h2,h3⟩:=hl.get i ha;obtain⟨d',h4,h5,h6⟩:=hl.get j' hb;rw[hc]at h1;rw[hd]at h4;obtain rfl:=aa h1;obtain rfl:=aa h4;exact ON h h2 h3 h5 h6
 by_cases hj:1000<=j
 .have hb:=Nat.ble_eq_true_of_le hj;simp only[hb,cond_true]at hp2;simp only[hj,if_true,GR];split
  .rename_i a b ha hb;obtain⟨c,hc,c1,c2⟩:=hl.get i ha;obtain⟨d,hd,_,_⟩:=hl.get _ hb;rw[hc,hd]at hp2;simp only[Bool.or_eq_true]at hp2|-;rcases hp2 with hp2|hp2
   .exact .inl (key _ a b c d ha hb hc hd hp2)
   .unfold Ra at hp2;split at hp2
    .rename_i o id ho hc2;rw[hc]at hc2;obtain rfl:=aa hc2;simp only[ak]at hp2;have hlen:=hk i o a ho ha hp2.1;obtain⟨a1,a2⟩:=a;obtain rfl:a2=[]:=List.eq_nil_iff_forall_not_mem.2 fun q hq=>by have:=c2 q hq;simp at this
     match a1,hlen,c1 with
     |[],_,_=>simp[mh]
     |[q],_,c1=>
      obtain rfl:q=id:=by have:=c1 q (by simp);simpa using this
      right;refine bg.2 fun z hz=>?_;obtain⟨n,hn⟩:=List.getElem?_of_mem hz;rw[bQ,fq]at hn;split at hn
      .rename_i hlt;obtain⟨z2,hz2,_,z3⟩:=hl.get _ hn;have hm:z2∈(y.take (j-1000)).drop (i+1):=by refine List.mem_of_getElem? (i:=n) ?_;rw[bQ,fq,if_pos hlt];exact hz2
       have:=bg.1 hp2.2 z2 hm;simp at this|-;exact fun q=>this (z3 _ q)
      .simp at hn
    .simp at hp2
  .rfl
 .have hb:Nat.ble 1000 j=false:=by cases h:Nat.ble 1000 j with|false=>rfl|true=>exact absurd (Nat.le_of_ble_eq_true h) hj
  simp[hb]at hp2;simp[hj,if_false];split
  .rename_i a b ha hb;obtain⟨c,hc,_⟩:=hl.get i ha;obtain⟨d,hd,_⟩:=hl.get j hb;rw[hc,hd]at hp2;exact key _ a b c d ha hb hc hd hp2
  .rfl
theorem WD.mono{P:Program}{aL:Nat}{ops:List ol}{i:Nat}{e:jk}{h:bp}{tr:Tr}{Q Q':jk->bp->Tr->Prop}(hq:∀e h tr,Q e h tr->Q' e h tr)(hw:WD P aL ops i e h tr Q):WD P aL ops i e h tr Q':=let⟨calls,h1,e',h',tr',h2,h3⟩:=hw;⟨calls,h1,e',h',tr',h2,hq _ _ _ h3⟩
theorem Nm{ops:List OP}{tr:Tr}{o:OP}{t:List Nat×List Nat}(h:O1 ops tr)(ho:ops[tr.length]?=some o)(ht:NH o.o.k=true->t.1.length<=1):O1 ops (tr++[t]):=by
 intro j o' a hj ha hl;by_cases hlt:j<tr.length
 .rw [List.getElem?_append_left hlt]at ha;exact h j o' a hj ha hl
 grind
theorem Kw(htb:qt P tb)(hg:mG){b:Nat}(ops0:List OP):∀(ops:List OP)(i:Nat)(e:jk)(h:bp)(n:Nat)(gh:List C)(s:S2)(q:Rg)(tr:LR)(tr1:Tr),nO tb (some b) ops i s q tr k=some z->uy ⟨e,h,n,gh⟩ s q->s.next<=b+ig*i->DT tr1 tr->(∀j,ops[j]?=ops0[i+j]?)->tr1.length=i->O1 ops0 tr1->
  WD P b (ops.map (·.o)) i e h tr1 fun e' h' tr1'=>∃s' tr' n',R2 ⟨e',h',n',gh⟩ s'/\Fr (ops.filterMap (·.o.dst)) ⟨e,h,n,gh⟩ ⟨e',h',n',gh⟩ s s'/\s'.next<=b+ig*(i+ops.length)/\DT tr1' tr'/\O1 ops0 tr1'/\k s' tr'=some z:=by
 intro ops;induction ops with
 |nil=>intro i e h n gh s q tr tr1 hz hr hn ht _ _ hlk;exact Vj ⟨s,tr,n,hr.r,Fr.refl,hn,ht,hlk,hz⟩
 |cons o r ih=>
  intro i e h n gh s q tr tr1 hz hr hn ht hops hlen1 hlk;have ho0:ops0[tr1.length]?=some o:=by have:=hops 0;rw[hlen1];simpa using this.symm
  have hops2:∀j,r[j]?=ops0[i+1+j]?:=fun j=>by have:=hops (j+1);rw[show i+1+j=i+(j+1)by omega,<-this];rfl
  have hr1:=hr.mono hn;have hb:KY (some b) i (RF (some b) i s)=true:=by simpa[KY,RF]using PG (aL:=b) (i:=i)
  obtain⟨s',q',t,h1,hb2,h2⟩:=E0 (dr:=some b) htb hg hr1 hb hz;have hb3:=by simpa[KY]using hb2
  have hlen:i+(o::r).length=i+1+r.length:=by simp only[List.length_cons];omega
  rw[hlen]
  have hfs:∀t∈o.o.dst.toList,t∈(o::r).filterMap (·.o.dst):=fun t ht=>by
   grind
  have hrs:∀t∈r.filterMap (·.o.dst),t∈(o::r).filterMap (·.o.dst):=fun t ht=>by
   grind
  have f0:Fr ((o::r).filterMap (·.o.dst)) ⟨e,h,n,gh⟩ ⟨e,h,n,gh⟩ s (RF (some b) i s):=⟨[],rfl,zA.next hn⟩
  rcases h2 with⟨hw,call,x,u,av,m,hc,he,hi,hu,hr2,hf⟩|⟨hw,hr2,hf⟩
  .have hm:m<=b+ig*(i+1):=bo hr2.r.next hb3;refine Og hc ?_ (WD.mono (fun e' h' tr1'⟨s3,tr3,n3,g1,g2,g3⟩=>⟨s3,tr3,n3,g1,(f0.trans (hf.mono hfs)).trans (g2.mono hrs),g3⟩) (ih (i+1) _ _ _ _ _ _ _ (tr1++[(av,u.map (·.1))]) h1 hr2 hb3 (ht.yZ hi fun j hj=>?_) hops2 (by simp[hlen1]) (Nm hlk ho0 fun hl=>SQ he hl)))
   .simp only[En,hw];have he':ci call o.o.k (o.o.args.map (kz e)) h (b+ig*i)=some (x,u,av,m):=he;rw[he'];exact TT hm
   grind
  .refine Og lT ?_ (WD.mono (fun e' h' tr1'⟨s3,tr3,n3,g1,g2,g3⟩=>⟨s3,tr3,n3,g1,(f0.trans (hf.mono hfs)).trans (g2.mono hrs),g3⟩) (ih (i+1) _ _ _ _ _ _ _ (tr1++[([],[])]) h1 hr2 hb3 (ht.yZ (fun i hi=>by simp at hi) fun i hi=>by simp at hi) hops2 (by simp[hlen1]) (Nm hlk ho0 fun _=>Nat.zero_le _)));simp only[En,hw]
end
def pw:C2->CC
 |.skip=>.skip
 |.PK ops none _=>.region (ops.map (·.o)) []
 |.PK ops (some dyn) _=>.drawn (ops.map (·.o)) dyn []
 |.seq a b _=>.seq (pw a) (pw b)
 |.cond c a b=>.cond c (pw a) (pw b)
 |.block id a=>.block id (pw a)
 |.loop _ _ a=>.loop [] (pw a)
 |.exit id=>.exit id
 |.ret=>.ret
 |.fL=>.fL
theorem QZ{s1:St}{s s':S2}{id:Nat}(hz:TU s id=some s')(hr:R2 s1 s):∃s1',Sub s1 s1'/\R2 s1' s'/\Fr [] s1 s1' s s':=by
 unfold TU at hz;split at hz
 .rename_i t v m id2 ho;split at hz
  .rename_i u r ver ho2;split at hz
   .rename_i r' hr';obtain rfl:=aa hz;obtain⟨e,e2⟩:=cH hr';cases e;obtain rfl:r'=r:=e2;obtain⟨_,⟨d1,d2,d3⟩,hlen,hid2,hkk⟩:=hr.hr.ob id _ ho;obtain⟨_,⟨_,_,c3⟩,_⟩:=hr.hr.ob id2 _ ho2;obtain⟨k1,k2⟩:=hkk _ _ _ (.inl ho2);have hne:id2≠id:=fun e=>by rw[e,ho]at ho2;cases ho2
    cases v with
    |nil=>simp at hlen
    |mk l=>
     have d3:=d3 l rfl
     have qU:∀(u:eW),(∀p∈u,p.1=id\/p.1=id2)->au (u++s1.heap) id=some (.nst (bU t) ((fc t l (some (m,id2))).set m (p9 t r')))->Sub s1 ⟨s1.cW,u++s1.heap,s1.next,s1.gh⟩->
       ∃s1',Sub s1 s1'/\R2 s1' (dT (dT s id2 none) id (some (.rw t (.mk (l.set m r')) none)))/\Fr [] s1 s1' s (dT (dT s id2 none) id (some (.rw t (.mk (l.set m r')) none))):=by
      intro u hu hb hsub;have d:=(Ab (av:=[]) hr.hr ho ho2 hne (by simp[IH]) hu hb (fun i hi=>by simp at hi)).nx hr.next;exact⟨_,hsub,((uy.none hr).ld d (d:=none) rfl).r,Fr.Vc d none (v':=.no)⟩
     have hl:(fc t l (some (m,id2)))[m]?=some (Kr id2 (gt l m)):=by simp[fc];rw[List.getElem?_set_self (by rw[aD];exact hlen)]
     cases r' with
     |nil=>
      refine qU [] (fun p hp=>by simp at hp) ?_ (Sub.refl _);have:gt l m=.nil:=by have k1:true=(gt l m).fA:=k1;cases hg:gt l m with|nil=>rfl|mk=>rw[hg]at k1;cases k1
      rw[cz,d3,Mj (by rw[hl,this];rfl)]
     |mk rr=>
      have c3:=c3 rr rfl;refine qU [(id,some _),(id2,none)] (fun p hp=>by simp at hp;rcases hp with rfl|rfl<;>simp) (by rw[List.cons_append,dg,if_pos rfl]) ?_;have:Kr id2 (gt l m)=.dQ id2 (rr.map (aR t)).length:=by have k1:false=(gt l m).fA:=k1;cases hg:gt l m with|nil=>rw[hg]at k1;cases k1|mk q=>have k2:rr.length=(gt l m).l.length:=k2;rw[hg]at k2;simp[Kr];rw[show rr.length=q.length from k2]
      exact GJ d3 (by rw[hl,this]) c3
   .simp at hz
  .simp at hz
 .obtain rfl:=aa hz;exact⟨s1,Sub.refl _,hr,Fr.refl⟩
theorem Q0:∀(l:List Nat){s1:St}{s s':S2},DS l s=some s'->R2 s1 s->∃s1',Sub s1 s1'/\R2 s1' s'/\Fr [] s1 s1' s s':=by
 intro l;induction l with
 |nil=>intro s1 s s' hz hr;obtain rfl:=aa hz;exact⟨s1,Sub.refl _,hr,Fr.refl⟩
 |cons id l ih=>
  intro s1 s s' hz hr;simp[DS]at hz;split at hz
  .rename_i s2 h2;obtain⟨t1,a1,a2,a3⟩:=QZ h2 hr;obtain⟨t2,b1,b2,b3⟩:=ih hz a2;exact⟨t2,a1.trans b1,b2,a3.trans b3⟩
  .simp at hz
theorem EN{P:Program}{β:Type}{tb:Gu}(htb:qt P tb)(hg:mG){ops:List OP}{dr:Option (List (Nat×Nat))}{jn:Option J}{s1:St}{s:S2}{k:S2->Option β}{z:β}(hz:N7 tb ops dr s k=some z)(hr:R2 s1 s):
  W P (pw (.PK ops dr jn)) s1 fun o s1'=>o=.normal/\∃s',R2 s1' s'/\Fr (ops.filterMap (·.o.dst)) s1 s1' s s'/\k s'=some z:=by
 have qU:∀{s1':St}{s':S2},R2 s1' s'->Fr (ops.filterMap (·.o.dst)) s1 s1' s s'->(TW s s').bind k=some z->
   wk (fun t=>rD.normal=rD.normal/\∃s',R2 t s'/\Fr (ops.filterMap (·.o.dst)) s1 t s s'/\k s'=some z) s1':=by
  intro s1' s' h1 h2 h3;obtain⟨s2,h4,h5⟩:=pT h3;obtain⟨t,a1,a2,a3⟩:=Q0 _ h4 h1;exact⟨t,a1,rfl,s2,a2,h2.trans (a3.mono fun i hi=>by simp at hi),h5⟩
 cases dr with
 |none=>refine LV (WO.mono (fun s1'⟨s',tr',h1,h2,h3⟩=>qU h1 h2 h3) (Kv htb hg ops 0 s1 s _ [] hz (uy.none hr)))
 |some dyn=>
  refine W.sub (Sub.heap (fun _=>.inl rfl) hr.next) (Pb (WD.mono (fun e' h' tr1 hq=>?_) (Kw htb hg ops ops 0 s1.cW s1.heap s1.next s1.gh s _ [] [] hz (uy.none hr) (iR _ _) trivial (fun j=>by rw[bS]) rfl (fun j o a _ h=>by simp at h))));obtain⟨s',tr',n',h1,h2,h3,h4,hlk,h5⟩:=hq;obtain⟨h6,h7⟩:=aJ h5;have hn:=by rw[bS]at h3;exact h3
  have hlen:s.next+ig*(ops.map (·.o)).length=s.next+ig*ops.length:=by rw[aD]
  rw[hlen];refine⟨Ts h4 hlk h6,qU ((h1.mono hn).nx (am _)) ?_ h7⟩;obtain⟨w,e1,e2⟩:=h2;refine⟨w,e1,?_⟩;have b:zA (ops.filterMap (·.o.dst)) [] ⟨e',h',n',s1.gh⟩ ⟨e',h',s.next+ig*ops.length,s1.gh⟩ s' {s' with next:=s.next+ig*ops.length}:=zA.next hn;simpa using e2.trans b
theorem NL(l:List D):eT.nq (l.map C.d)=[]:=by induction l with|nil=>rfl|cons a l ih=>grind [eT.nq,eT]
theorem NM(a b:List C):eT.nq (a++b)=eT.nq a++eT.nq b:=by induction a with|nil=>rfl|cons c a ih=>grind [eT.nq,aM]
theorem o4(c:C):eT.nq [c]=eT c:=by simp[eT.nq]
theorem Gg{h:H2}{n:Nat}:∀{v:V}{cs:List C},ff h v cs->eV n h v->∀i∈eT.nq cs,i<n/\(iw h v=true->fO h i≠none):=by
 have ex:∀id,(match fO h id with|some _=>true|none=>false)=true->fO h id≠none:=by
  grind
 intro v;induction v with
 |x t v=>rintro cs ⟨_,rfl⟩ _ i hi;rw[NL]at hi;simp at hi
 |kb c=>rintro cs rfl _ i hi;simp[eT.nq,eT]at hi
 |nl k=>rintro cs rfl _ i hi;simp[eT.nq,Fd,eT]at hi
 |so id=>rintro cs ⟨c,rfl,_,hc⟩ hk i hi;rw[o4]at hi;obtain rfl:=hc i hi;refine⟨hk,fun ha e=>?_⟩;simp[iw,e]at ha
 |sr id=>rintro cs ⟨c,rfl,_,hc⟩ hk i hi;rw[o4]at hi;obtain rfl:=hc i hi;refine⟨hk,fun ha e=>?_⟩;simp[iw,e]at ha
 |sb id ver lo t r=>rintro cs ⟨c,rfl,_,hc⟩ hk i hi;rw[o4]at hi;obtain rfl:=hc i hi;refine⟨hk.1,fun ha e=>?_⟩;simp[iw,e]at ha
 |op id t p=>
  rintro cs rfl hk i hi;rw[o4]at hi;obtain rfl:i=id:=by simpa[eT]using hi
  exact⟨hk.1,ex _⟩
 |ep id m t p=>
  rintro cs rfl hk i hi;rw[o4]at hi;obtain rfl:i=id:=by simpa[eT]using hi
  exact⟨hk.1,ex _⟩
 |om id=>
  rintro cs rfl hk i hi;rw[o4]at hi;obtain rfl:i=id:=by simpa[eT]using hi
  exact⟨hk,ex _⟩
 |pt t v=>rintro cs ⟨_,rfl⟩ _ i hi;simp[eT.nq,eT]at hi
 |fn z f l ih=>intro cs hc hk i hi;cases z with|true=>obtain⟨ds,_,rfl⟩:=hc;simp[eT.nq,eT]at hi|false=>obtain⟨xs,h1,rfl⟩:=hc;rw[o4]at hi;exact ih h1 hk i (by simpa)
 |rc l ih=>intro cs hc hk;exact ih hc hk
 |fl l=>
  rintro cs ⟨_,rfl⟩ _ i hi;have:eS l=(l.map D.lit).map C.d:=by simp[eS]
  rw[this,NL]at hi;simp at hi
 |ni=>rintro cs rfl _ i hi;simp[eT.nq]at hi
 |co a r iha ihr=>
  rintro cs ⟨x,y,rfl,h1,h2⟩ ⟨k1,k2⟩ i hi;rw[NM]at hi;simp[iw]
  grind
 |tp l=>intro cs hc;exact hc.elim
 |no=>intro cs hc;exact hc.elim
 |gn=>intro cs hc;exact hc.elim
theorem Ef{h:H2}{n:Nat}{v:V}{x:TV}(hx:tQ h v x)(hk:eV n h v):∀i∈mD x,i<n/\(iw h v=true->fO h i≠none):=by obtain⟨cs,h1,h2,h3⟩:=hx;intro i hi;refine Gg h1 hk i ?_;cases ha:u7 v with|true=>rw[h2 ha]at hi;exact hi|false=>obtain⟨c,rfl,rfl⟩:=h3 ha;rw[o4];exact hi
theorem L2{h:H2}{n:Nat}:∀{v:V}{xs:List TV},CQ h v xs->eV n h v->∀i∈mD.By xs,i<n/\(iw h v=true->fO h i≠none):=by
 intro v;induction v with
 |ni=>rintro xs rfl _ i hi;simp[mD.By]at hi
 |co a r _ ihr=>
  rintro xs ⟨x,ys,rfl,h1,h2⟩ ⟨k1,k2⟩ i hi;simp[mD.By]at hi;simp[iw]
  grind [Ef]
 |_=>intro xs h;exact h.elim
theorem IC{h:H2}{n:Nat}{v:V}{x:TV}(hx:fC h v x)(hk:eV n h v):∀i∈mD x,i<n/\(iw h v=true->fO h i≠none):=by cases v with|tp l=>obtain⟨xs,rfl,h2⟩:=hx;intro i hi;exact L2 h2 hk i hi|no=>obtain rfl:=hx;intro i hi;simp[mD,mD.By]at hi|gn=>exact hx.elim|_=>exact Ef hx hk
mutual
def tH(M:Nat->Nat->Prop):C->C->Prop
 |.d x,y=>y=.d x
 |.fx a i b c,y=>∃j,M i j/\y=.fx a j b c
 |.ep i b c,y=>∃j,M i j/\y=.ep j b c
 |.op i b,y=>∃j,M i j/\y=.op j b
 |.om i,y=>∃j,M i j/\y=.om j
 |.pJ f l,y=>∃m,pm M l m/\y=.pJ f m
def pm(M:Nat->Nat->Prop):List C->List C->Prop
 |[],m=>m=[]
 |c::l,m=>∃d r,tH M c d/\pm M l r/\m=d::r
end
mutual
def Gt(M:Nat->Nat->Prop):TV->TV->Prop
 |.c x,y=>∃d,tH M x d/\y=.c d
 |.agg l,y=>∃m,pm M l m/\y=.agg m
 |.gX l,y=>∃m,BI M l m/\y=.gX m
def BI(M:Nat->Nat->Prop):List TV->List TV->Prop
 |[],m=>m=[]
 |c::l,m=>∃d r,Gt M c d/\BI M l r/\m=d::r
end
section
variable{M:Nat->Nat->Prop}
theorem pm.d(l:List D):pm M (l.map .d) (l.map .d):=by induction l with|nil=>rfl|cons a l ih=>exact⟨_,_,rfl,ih,rfl⟩
theorem pm.yZ{a b x y:List C}(h1:pm M a x)(h2:pm M b y):pm M (a++b) (x++y):=by induction a generalizing x with|nil=>obtain rfl:=h1;exact h2|cons c a ih=>obtain⟨d,r,h3,h4,rfl⟩:=h1;exact⟨d,r++y,h3,ih h4,rfl⟩
theorem pm.one{c d:C}(h:tH M c d):pm M [c] [d]:=⟨d,[],h,rfl,rfl⟩
mutual
theorem tH.dH:∀(c:C),(∀i∈eT c,M i i)->tH M c c
 |.d x,_=>rfl
 |.fx a i b c,h=>⟨i,h i (by simp[eT]),rfl⟩
 |.ep i b c,h=>⟨i,h i (by simp[eT]),rfl⟩
 |.op i b,h=>⟨i,h i (by simp[eT]),rfl⟩
 |.om i,h=>⟨i,h i (by simp[eT]),rfl⟩
 |.pJ f l,h=>⟨l,pm.dH l (fun i hi=>h i (by simpa[eT]using hi)),rfl⟩
theorem pm.dH:∀(l:List C),(∀i∈eT.nq l,M i i)->pm M l l
 |[],_=>rfl
 |c::l,h=>⟨c,l,tH.dH c (fun i hi=>h i (by simp[eT.nq,hi])),pm.dH l (fun i hi=>h i (by simp[eT.nq,hi])),rfl⟩
end
mutual
theorem Gt.dH:∀(x:TV),(∀i∈mD x,M i i)->Gt M x x
 |.c x,h=>⟨x,tH.dH x h,rfl⟩
 |.agg l,h=>⟨l,pm.dH l h,rfl⟩
 |.gX l,h=>⟨l,BI.dH l h,rfl⟩
theorem BI.dH:∀(l:List TV),(∀i∈mD.By l,M i i)->BI M l l
 |[],_=>rfl
 |c::l,h=>⟨c,l,Gt.dH c (fun i hi=>h i (by simp[mD.By,hi])),BI.dH l (fun i hi=>h i (by simp[mD.By,hi])),rfl⟩
end
mutual
theorem tH.uN{i' i:Nat}(hm:M i' i):∀(c:C),(∀j∈eT c,j=i)->∃c',tH M c' c/\∀j∈eT c',j=i'
 |.d x,_=>⟨.d x,rfl,fun j hj=>by simp[eT]at hj⟩
 |.fx a j b c,h=>by obtain rfl:=h j (by simp[eT]);exact⟨.fx a i' b c,⟨_,hm,rfl⟩,fun j hj=>by simpa[eT]using hj⟩
 |.ep j b c,h=>by obtain rfl:=h j (by simp[eT]);exact⟨.ep i' b c,⟨_,hm,rfl⟩,fun j hj=>by simpa[eT]using hj⟩
 |.op j b,h=>by obtain rfl:=h j (by simp[eT]);exact⟨.op i' b,⟨_,hm,rfl⟩,fun j hj=>by simpa[eT]using hj⟩
 |.om j,h=>by obtain rfl:=h j (by simp[eT]);exact⟨.om i',⟨_,hm,rfl⟩,fun j hj=>by simpa[eT]using hj⟩
 |.pJ f l,h=>by obtain⟨l',h1,h2⟩:=pm.uN hm l (fun j hj=>h j (by simpa[eT]using hj));exact⟨.pJ f l',⟨l,h1,rfl⟩,fun j hj=>h2 j (by simpa[eT]using hj)⟩
theorem pm.uN{i' i:Nat}(hm:M i' i):∀(l:List C),(∀j∈eT.nq l,j=i)->∃l',pm M l' l/\∀j∈eT.nq l',j=i'
 |[],_=>⟨[],rfl,fun j hj=>by simp[eT.nq]at hj⟩
 |c::l,h=>by
  obtain⟨c',h1,h2⟩:=tH.uN hm c (fun j hj=>h j (by simp[eT.nq,hj]));obtain⟨l',h3,h4⟩:=pm.uN hm l (fun j hj=>h j (by simp[eT.nq,hj]));refine⟨c'::l',⟨c,l,h1,h3,rfl⟩,fun j hj=>?_⟩
  grind [eT.nq]
end
mutual
theorem tH.eq(B:Nat->Prop)(hM:∀i j,M i j->i=j\/B j):∀(c' c:C),tH M c' c->(∀i∈eT c,¬B i)->c'=c
 |.d x,c,h,_=>h.symm
 |.fx a i b e,c,h,hb=>by
  obtain⟨j,h1,rfl⟩:=h;rcases hM i j h1 with rfl|q
  .rfl
  .exact absurd q (hb j (by simp[eT]))
 |.ep i b e,c,h,hb=>by
  obtain⟨j,h1,rfl⟩:=h;rcases hM i j h1 with rfl|q
  .rfl
  .exact absurd q (hb j (by simp[eT]))
 |.op i b,c,h,hb=>by
  obtain⟨j,h1,rfl⟩:=h;rcases hM i j h1 with rfl|q
  .rfl
  .exact absurd q (hb j (by simp[eT]))
 |.om i,c,h,hb=>by
  obtain⟨j,h1,rfl⟩:=h;rcases hM i j h1 with rfl|q
  .rfl
  .exact absurd q (hb j (by simp[eT]))
 |.pJ f l,c,h,hb=>by obtain⟨m,h1,rfl⟩:=h;rw[pm.eq B hM l m h1 fun i hi=>hb i (by simpa[eT]using hi)]
theorem pm.eq(B:Nat->Prop)(hM:∀i j,M i j->i=j\/B j):∀(l' l:List C),pm M l' l->(∀i∈eT.nq l,¬B i)->l'=l
 |[],l,h,_=>h.symm
 |c::r,l,h,hb=>by obtain⟨d,m,h1,h2,rfl⟩:=h;rw[tH.eq B hM c d h1 fun i hi=>hb i (by simp[eT.nq,hi]),pm.eq B hM r m h2 fun i hi=>hb i (by simp[eT.nq,hi])]
end
theorem Gt.ZP(B:Nat->Prop)(hM:∀i j,M i j->i=j\/B j){x' x:TV}(h:Gt M x' x)(hn:∀l,x'≠.gX l)(hb:∀i∈mD x,¬B i):x'=x:=by cases x' with|c a=>obtain⟨d,h1,rfl⟩:=h;rw[tH.eq B hM a d h1 hb]|agg a=>obtain⟨d,h1,rfl⟩:=h;rw[pm.eq B hM a d h1 hb]|gX l=>exact absurd rfl (hn l)
theorem pm.len:∀{l m:List C},pm M l m->l.length=m.length
 |[],m,h=>by obtain rfl:=h;rfl
 |c::l,m,h=>by obtain⟨d,r,_,h2,rfl⟩:=h;simp[pm.len h2]
section
variable{S:Nat->Prop}{w:World}{Kn Kn':Nat->Prop}{φ φ':Nat->gj}
mutual
theorem tH.rc(hM:∀i j,M i j->Kn j->Kn' i/\φ' i=φ j):∀(c' c:C)(v:Value),tH M c' c->RC S w Kn φ c v->RC S w Kn' φ' c' v
 |.d x,c,v,h,hr=>by obtain rfl:=h;cases hr with|d hd=>exact .d hd
 |.fx a i b e,c,v,h,hr=>by obtain⟨j,h1,rfl⟩:=h;obtain⟨cap,addr,rfl,rfl,hk,hcap,haddr,hext,hcl⟩:=hr.kp;obtain⟨e2,e1⟩:=hM i j h1 hk;have:=RC.fx (S:=S) (w:=w) (Kn:=Kn') (φ:=φ') (id:=i) (off:=b) (len:=e) (cap:=cap) (addr:=addr) e2 hcap (by rw[e1];exact haddr) (by rw[e1];exact hext) (by rw[e1];exact hcl);rw[e1]at this;exact this
 |.ep i b e,c,v,h,hr=>by obtain⟨j,h1,rfl⟩:=h;cases hr with|ep hk=>obtain⟨e2,e1⟩:=hM i j h1 hk;have:=RC.ep (S:=S) (w:=w) (Kn:=Kn') (φ:=φ') (id:=i) (bv:=b) (off:=e) e2;rw[e1]at this;exact this
 |.op i b,c,v,h,hr=>by obtain⟨j,h1,rfl⟩:=h;cases hr with|op hk=>obtain⟨e2,e1⟩:=hM i j h1 hk;have:=RC.op (S:=S) (w:=w) (Kn:=Kn') (φ:=φ') (id:=i) (off:=b) e2;rw[e1]at this;exact this
 |.om i,c,v,h,hr=>by obtain⟨j,h1,rfl⟩:=h;cases hr with|om hk=>obtain⟨e2,e1⟩:=hM i j h1 hk;have:=RC.om (S:=S) (w:=w) (Kn:=Kn') (φ:=φ') (id:=i) e2;rw[e1]at this;exact this
 |.pJ f l,c,v,h,hr=>by obtain⟨m,h1,rfl⟩:=h;cases hr with|pJ hlen hrc=>exact .pJ ((pm.len h1).trans hlen) (pm.rc hM l m _ h1 hrc)
theorem pm.rc(hM:∀i j,M i j->Kn j->Kn' i/\φ' i=φ j):∀(l' l:List C)(f:Nat->Value),pm M l' l->(∀(i:Nat)(x:C),l[i]?=some x->RC S w Kn φ x (f i))->∀(i:Nat)(x:C),l'[i]?=some x->RC S w Kn' φ' x (f i)
 |[],l,f,h,_=>fun i x hi=>by simp at hi
 |c::r,l,f,h,hr=>by
  obtain⟨d,m,h1,h2,rfl⟩:=h;intro i x hi;cases i with
  |zero=>
   obtain rfl:c=x:=by simpa using hi
   exact tH.rc hM c d _ h1 (hr 0 d rfl)
  |succ i=>exact pm.rc hM r m (fun i=>f (i+1)) h2 (fun i x hi=>hr (i+1) x (by simpa using hi)) i x (by simpa using hi)
end
mutual
theorem Gt.rc(hM:∀i j,M i j->Kn j->Kn' i/\φ' i=φ j):∀(x' x:TV)(v:Value),Gt M x' x->fz S w Kn φ x v->fz S w Kn' φ' x' v
 |.c a,x,v,h,hr=>by obtain⟨d,h1,rfl⟩:=h;cases hr with|c hr=>exact .c (tH.rc hM a d v h1 hr)
 |.agg a,x,v,h,hr=>by obtain⟨d,h1,rfl⟩:=h;cases hr with|agg hlen hr=>exact .agg ((pm.len h1).trans hlen) (pm.rc hM a d _ h1 hr)
 |.gX a,x,v,h,hr=>by obtain⟨d,h1,rfl⟩:=h;cases hr with|gX hlen hr=>obtain⟨e1,e2⟩:=BI.rc hM a d _ h1 hr;exact .gX (e1.trans hlen) e2
theorem BI.rc(hM:∀i j,M i j->Kn j->Kn' i/\φ' i=φ j):∀(l' l:List TV)(f:Nat->Value),BI M l' l->(∀(i:Nat)(x:TV),l[i]?=some x->fz S w Kn φ x (f i))->l'.length=l.length/\∀(i:Nat)(x:TV),l'[i]?=some x->fz S w Kn' φ' x (f i)
 |[],l,f,h,_=>by obtain rfl:=h;simp_all
 |c::r,l,f,h,hr=>by
  obtain⟨d,m,h1,h2,rfl⟩:=h;obtain⟨e1,e2⟩:=BI.rc hM r m (fun i=>f (i+1)) h2 (fun i x hi=>hr (i+1) x (by simpa using hi));refine⟨by simp[e1],fun i x hi=>?_⟩;cases i with
  |zero=>
   obtain rfl:c=x:=by simpa using hi
   exact Gt.rc hM c d _ h1 (hr 0 d rfl)
  |succ i=>exact e2 i x (by simpa using hi)
end
end
end
theorem Oj{s1 s1':St}{s:S2}(hr:R2 s1 s){t id ver lo v0:Nat}{u u0:Ty}{x:Sl (El u)}{s0:Sl (El u0)}(hid:id<s.next)(he:∀t',t'≠t->bV s1'.cW t'=bV s1.cW t')(ht1:bV s1'.cW t=some (.c (nA (bU u) (aR u) s.next x)))
  (hh:∀i,i≠id->i≠s.next->au s1'.heap i=au s1.heap i) (hn:∀g,xx g (.ar u x 0) (au s1'.heap s.next)) (hnx:s1'.next<=s.next+1) (hgh:s1'.gh=s1.gh) (hte:∀x0,bV s1.cW t=some x0->id∉mD x0->bV s1'.cW t=some x0):
  R2 s1' ⟨(t,.so s.next)::s.cW,(s.next,some (.ar u x 0))::(id,none)::s.heap,s.next+1,s.next::id::s.wo,s.gh⟩/\
  Fr [] s1 s1' s ⟨(t,.so s.next)::s.cW,(s.next,some (.ar u x 0))::(id,none)::s.heap,s.next+1,s.next::id::s.wo,s.gh⟩:=by
 have hfo:∀i,fO _ i=if s.next=i then some (.ar u x 0)else if id=i then none else fO s.heap i:=fun i=>by rw[cK,cK]
 have dR:jy s.next s.heap _:=⟨fun i o' hi ho=>by
  rw[hfo]at ho
  grind [tC.refl]⟩
 have hnb:∀i,i<s.next->fO s.heap i=none->fO ((s.next,some (.ar u x 0))::(id,none)::s.heap) i=none:=fun i hi h=>by
  grind
 refine⟨⟨fun t' v ht'=>?_,⟨fun i o ho=>?_⟩,hnx,?_⟩,?_⟩
 .simp only[bV]at ht';by_cases e:t=t'
  .subst e;have e':(t==t)=true:=by simp
   rw[e']at ht';obtain rfl:=aa ht';exact⟨aQ _,fun _=>⟨_,ht1,xU⟩⟩
  .have e':(t==t')=false:=by simpa using e
   rw[e']at ht';obtain⟨h1,h2⟩:=hr.cW t' v ht';refine⟨gI (bn _) dR h1,fun ha=>?_⟩
   grind [xn,trans,wl]
 .rw [hfo]at ho;split at ho
  .rename_i e;subst e;obtain rfl:=aa ho;exact⟨aQ _,hn _,trivial⟩
  .rename_i e;split at ho
   .simp at ho
   .rename_i e2;obtain⟨h1,h2,h3⟩:=hr.hr.ob i o ho;rw[hh i (fun q=>e2 q.symm) (fun q=>e q.symm)];exact⟨Nat.lt_succ_of_lt h1,qg dR h3 h2,oY (bn _) dR h3⟩
 .rw [hgh];exact⟨FN dR hnb hr.gh.2 hr.gh.1,gI (bn _) dR hr.gh.2⟩
 .refine ⟨[s.next,id],rfl,bn _,dR,by rw[hgh],fun i hi hw=>?_,fun t' y _ hy hk=>?_⟩
  .simp [aW,List.not_mem_nil,or_false,not_or]at hw;refine⟨?_,fun o _ g hg=>by rw[hh i hw.2 hw.1];exact hg⟩;rw[hfo,if_neg fun q=>hw.1 q.symm,if_neg fun q=>hw.2 q.symm]
  grind
theorem QB{s1:St}{s:S2}(hr:R2 s1 s){t id ver lo v0:Nat}{u u0:Ty}{x:Sl (El u)}{s0:Sl (El u0)}(ht:bV s.cW t=some (.sb id ver lo u x))(ho:fO s.heap id=some (.ar u0 s0 v0))(hd:kx u=true)(hv:(v0==ver)=true):
  ∃s1',Sub s1 s1'/\R2 s1' ⟨(t,.so s.next)::s.cW,(s.next,some (.ar u x 0))::(id,none)::s.heap,s.next+1,s.next::id::s.wo,s.gh⟩/\
   Fr [] s1 s1' s ⟨(t,.so s.next)::s.cW,(s.next,some (.ar u x 0))::(id,none)::s.heap,s.next+1,s.next::id::s.wo,s.gh⟩:=by
 obtain⟨hk,hx⟩:=hr.cW t _ ht;have ha:iw s.heap (.sb id ver lo u x)=true:=by simp[iw,ho,hd,hv]
 obtain⟨y,hy,hty⟩:=hx (.inl ha);obtain rfl:=rj hty ha;obtain⟨hid,hk2⟩:=hk;obtain⟨_,hcut⟩:=hk2 u0 s0 v0 (.inl ho);obtain⟨hsz,hcut⟩:=hcut (by simpa using hv);obtain⟨hd0,hs0,hlk⟩:=(hr.hr.ob id _ ho).2.1;have hne:=Nat.ne_of_lt hid;cases s0 with
 |nil=>cases x with|mk l=>exact hcut.elim|nil=>refine⟨{s1 with next:=s.next},Sub.heap (fun _=>.inl rfl) hr.next,Oj (v0:=0) (ver:=0) (lo:=0) (u0:=u) (s0:=.nil) hr hid (fun _ _=>rfl) hy (fun _ _ _=>rfl) (fun g=>⟨hd,hsz▸hs0,fun l e=>by cases e⟩) (bn _) rfl fun x0 h0 _=>h0⟩
 |mk l0=>
  cases x with
  |nil=>exact hcut.elim
  |mk l=>
   obtain⟨h1,h2⟩:=hcut;have hlk:=hlk l0 rfl;have hsub:=IF (n:=s.next) (gh:=s1.gh) (rows':=l.map _) hy hlk (by rw[aD];exact h2) (by simp_all);refine⟨_,Sub.trans (Sub.heap (fun _=>.inl rfl) hr.next) hsub,Oj (v0:=0) (ver:=0) (lo:=0) (u0:=u) (s0:=.nil) hr hid (fun t' ht'=>?_) ?_ (fun i h3 h4=>?_) (fun g=>⟨hd,hsz▸hs0,fun l' e=>?_⟩) (am _) rfl fun x0 h0 h3=>?_⟩
   .have e':(t==t')=false:=by grind
    simp[bV,e']
   .simp only[bV,nA];simp
   .simp [dg];rw[if_neg fun q=>h3 q.symm,if_neg fun q=>h4 q.symm]
   .simp_all [dg]
   .rw [hy]at h0;obtain rfl:=aa h0;exact absurd (by simp[mD,zo,eT]) h3
theorem Cv:∀(vs:List (Nat×JV))(s1:St)(s:S2),R2 s1 s->∃s1',Sub s1 s1'/\R2 s1' (BD vs s)/\Fr [] s1 s1' s (BD vs s):=by
 intro vs;induction vs with
 |nil=>intro s1 s hr;exact⟨s1,Sub.refl _,hr,Fr.refl⟩
 |cons p r ih=>
  obtain⟨t,jv⟩:=p;intro s1 s hr;cases jv with
  |so j=>
   simp[BD];split
   .rename_i id ver lo u x ht;split
    .rename_i u0 s0 v0 ho;cases hc:(kx u&&v0==ver)with|false=>exact ih s1 s hr|true=>simp only[ak]at hc;obtain⟨s2,h1,h2,h3⟩:=QB hr ht ho hc.1 hc.2;obtain⟨s3,h4,h5,h6⟩:=ih s2 _ h2;exact⟨s3,h1.trans h4,h5,h3.trans h6⟩
    .exact ih s1 s hr
   .exact ih s1 s hr
  |_=>exact ih s1 s hr
def CJ(m:List Bd):Prop:=∀b∈m,∀c∈m,(b.j=c.j->b=c)/\∀i,b.id=some i->c.id=some i->b=c
theorem A7:∀{m:List Bd}{j:Nat}{b:Bd},OI m j=some b->b∈m/\b.j=j:=by
 intro m;induction m with
 |nil=>intro j b h;simp[OI]at h
 |cons c m ih=>intro j b h;simp only[OI]at h;cases hc:(c.j==j)with|true=>rw[hc,cond_true]at h;obtain rfl:=aa h;exact⟨by simp,by simpa using hc⟩|false=>rw[hc,cond_false]at h;exact⟨aI _ (ih h).1,(ih h).2⟩
theorem Gk:∀{m:List Bd}{j:Nat},OI m j=none->∀b∈m,b.j≠j:=by
 intro m;induction m with
 |nil=>intro j _ b hb;simp at hb
 |cons c m ih=>
  intro j h b hb;simp only[OI]at h;cases hc:(c.j==j)with
  |true=>rw[hc]at h;simp at h
  |false=>
   rw[hc,cond_false]at h;rcases aW.1 hb with rfl|hb
   .simpa using hc
   .exact ih h b hb
theorem m6{m m':List Bd}{b:Bd}(h:xj m b=some m'):b∈m'/\(∀c∈m,c∈m')/\(CJ m->CJ m'):=by
 unfold xj at h;split at h
 .rename_i hn;have hn:=Gk hn;have hfresh:m'=b::m/\∀c∈m,∀i,b.id=some i->c.id≠some i:=by obtain⟨hc,h⟩:=aJ h;obtain rfl:=aa h;refine⟨rfl,fun c hcm i hi e=>?_⟩;rw[hi]at hc;have:=bg.1 hc c hcm;rw[e]at this;simp at this
  obtain⟨rfl,hf⟩:=hfresh;refine⟨by simp,fun c hc=>aI _ hc,fun hi x hx y hy=>?_⟩;rcases aW.1 hx with ex|hx2<;>rcases aW.1 hy with ey|hy2
  .subst ex;subst ey;exact⟨fun _=>rfl,fun _ _ _=>rfl⟩
  .subst ex;exact⟨fun e=>absurd e.symm (hn y hy2),fun i h1 h2=>absurd h2 (hf y hy2 i h1)⟩
  .subst ey;exact⟨fun e=>absurd e (hn x hx2),fun i h1 h2=>absurd h1 (hf x hx2 i h2)⟩
  .exact hi x hx2 y hy2
 .rename_i c hc;obtain⟨h1,h2⟩:=A7 hc;split at h
  .rename_i i i' hi hi';obtain⟨he,h⟩:=aJ h;obtain rfl:=aa h;obtain rfl:i=i':=by simpa using he
   have:b=c:=by cases b;cases c;simp only at hi hi' h2;subst hi;subst hi';subst h2;rfl
   exact⟨this▸h1,fun _ h=>h,fun h=>h⟩
  .simp at h
theorem uZ:∀(jv:JV)(ln:Bool)(v:V)(m:List Bd)(l:List V)(m1:List Bd),de jv ln v m=some (l,m1)->(∀c∈m,c∈m1)/\(CJ m->CJ m1):=by
 have b1:∀(m:List Bd)(b:Bd)(l:List V)(m1:List Bd),(match xj m b with|some m=>some (([]:List V),m)|none=>none)=some (l,m1)->(∀c∈m,c∈m1)/\(CJ m->CJ m1):=by
  intro m b l m1 h;split at h
  .rename_i m' hm;obtain⟨_,rfl⟩:=af (aa h);exact(m6 hm).2
  .simp at h
 intro jv;induction jv with
 |co a r iha ihr=>
  intro ln v m l m1 h;cases ln with
  |false=>cases v<;>simp[de]at h
  |true=>
   cases v with
   |co x y=>
    simp only[de]at h;split at h
    .rename_i l2 m2 h2;split at h
     .rename_i l3 m3 h3;obtain⟨_,rfl⟩:=af (aa h);obtain⟨a1,a2⟩:=iha _ _ _ _ _ h2;obtain⟨c1,c2⟩:=ihr _ _ _ _ _ h3;exact⟨fun c hc=>c1 c (a1 c hc),fun hi=>c2 (a2 hi)⟩
     .simp at h
    .simp at h
   |_=>simp[de]at h
 |rc a ih=>
  intro ln v m l m1 h;cases ln with
  |true=>cases v<;>simp[de]at h
  |false=>
   cases v with
   |rc l'=>exact ih _ _ _ _ _ h
   |x t v=>cases t<;>first|exact ih _ _ _ _ _ h|simp[de]at h
   |_=>simp[de]at h
 |fn z f a ih=>
  intro ln v m l m1 h;cases ln with
  |true=>cases v<;>simp[de]at h
  |false=>cases v with|fn z' f' l'=>simp only[de]at h;obtain⟨_,h⟩:=aJ h;exact ih _ _ _ _ _ h|_=>simp[de]at h
 |so j=>
  intro ln v m l m1 h;cases ln with
  |true=>cases v<;>simp[de]at h
  |false=>
   cases v with
   |so id=>exact b1 _ _ _ _ h
   |nl k=>cases k with|zero=>exact b1 _ _ _ _ h|succ=>simp[de]at h
   |x t v=>cases t with|sl u=>exact b1 _ _ _ _ (aJ h).2|_=>simp[de]at h
   |_=>simp[de]at h
 |om j=>
  intro ln v m l m1 h;cases ln with
  |true=>cases v<;>simp[de]at h
  |false=>cases v with|om id=>exact b1 _ _ _ _ h|_=>simp[de]at h
 |sr j=>
  intro ln v m l m1 h;cases ln with
  |true=>cases v<;>simp[de]at h
  |false=>cases v with|sr id=>exact b1 _ _ _ _ h|_=>simp[de]at h
 |op j t p=>
  intro ln v m l m1 h;cases ln with
  |true=>cases v<;>simp[de]at h
  |false=>cases v with|op id u q=>simp only[de]at h;obtain⟨_,h⟩:=aJ h;exact b1 _ _ _ _ h|_=>simp[de]at h
 |x t=>
  intro ln v m l m1 h;cases ln with
  |true=>cases v<;>simp[de]at h
  |false=>
   simp only[de]at h;split at h
   .obtain ⟨_,rfl⟩:=af (aa h);exact⟨fun _ h=>h,fun h=>h⟩
   .simp at h
 |pt t=>
  intro ln v m l m1 h;cases ln with
  |true=>cases v<;>simp[de]at h
  |false=>
   cases v with
   |pt u v=>
    simp only[de]at h;split at h
    .obtain ⟨_,rfl⟩:=af (aa h);exact⟨fun _ h=>h,fun h=>h⟩
    .simp at h
   |_=>simp[de]at h
 |nl k=>
  intro ln v m l m1 h;cases ln with
  |true=>cases v<;>simp[de]at h
  |false=>cases v with|nl k'=>simp only[de]at h;obtain⟨_,h⟩:=aJ h;obtain⟨_,rfl⟩:=af (aa h);exact⟨fun _ h=>h,fun h=>h⟩|_=>simp[de]at h
 |ni=>
  intro ln v m l m1 h;cases ln with
  |false=>cases v<;>simp[de]at h
  |true=>cases v with|ni=>obtain⟨_,rfl⟩:=af (aa h);exact⟨fun _ h=>h,fun h=>h⟩|_=>simp[de]at h
 |sm=>intro ln v m l m1 h;cases ln<;>cases v<;>simp[de]at h
 |gn=>intro ln v m l m1 h;cases ln<;>cases v<;>simp[de]at h
structure Cx(h' h'':H2)(aL n'':Nat)(mf:List Bd)(M:Nat->Nat->Prop):Prop where
 m:∀b∈mf,∀i,b.id=some i->M (aL+b.j) i
 n:∀b∈mf,aL+b.j<n''
 so:∀b∈mf,∀i,b.id=some i->∀c',BU (aL+b.j) (fO h'' (aL+b.j))=some c'->∃t s,c'=nA (bU t) (aR t) (aL+b.j) s/\BU i (fO h' i)=some (nA (bU t) (aR t) i s)
 sr:∀b∈mf,∀i,b.id=some i->∀c',GO (aL+b.j) (fO h'' (aL+b.j))=some c'->∃(t:Ty)(s:Sl (Sl (El t))),c'=nA 1 (aR (.sl t)) (aL+b.j) s/\GO i (fO h' i)=some (nA 1 (aR (.sl t)) i s)
 nl:∀b∈mf,b.id=none->∀c',BU (aL+b.j) (fO h'' (aL+b.j))=some c'->c'=Fd 0
theorem Hk:∀{q:qB}{p:List Nat},EV q=some p->q=p.map .fd:=by
 intro q;induction q with
 |nil=>intro p h;obtain rfl:=aa h;rfl
 |cons a q ih=>
  intro p h;cases a with
  |ix=>simp[EV]at h
  |fd i=>
   simp[EV]at h
   grind
theorem Mu{b:Nat}{a r:JV}{l:List V}{v0 v':V}{r':List V}(h:jb b (.co a r) true l v0=some (v',r')):∃x0 y0 v l1 w,jb b a false l x0=some (v,l1)/\jb b r true l1 y0=some (w,r')/\v'=.co v w:=by
 have key:∀(x0 y0:V),(match jb b a false l x0 with|some (v,l)=>(match jb b r true l y0 with|some (w,l)=>some (V.co v w,l)|none=>none)|none=>none)=some (v',r')->∃x0 y0 v l1 w,jb b a false l x0=some (v,l1)/\jb b r true l1 y0=some (w,r')/\v'=.co v w:=by
  grind
 cases v0 with|co x y=>exact key x y h|_=>exact key .gn .ni h
theorem Um{b:Nat}{t:Ty}{y:El t}{rest:List V}{v0 v':V}{r':List V}(h:jb b (.x t) false (.x t y::rest) v0=some (v',r')):kx t=true/\v'=.x t y/\r'=rest:=by
 simp[jb]at h
 grind
theorem Mt{b:Nat}{t:Ty}{y:El t}{rest:List V}{v0 v':V}{r':List V}(h:jb b (.pt t) false (.x t y::rest) v0=some (v',r')):kx t=true/\v'=.pt t y/\r'=rest:=by
 simp[jb]at h
 grind
theorem Ly{aL:Nat}:∀(jv:JV)(v:V)(m:List Bd)(l:List V)(m1:List Bd)(rest:List V)(v0 v':V)(r':List V)(ds:List D),de jv true v m=some (l,m1)->rC v=some ds->jb aL jv true (l++rest) v0=some (v',r')->
  r'=rest/\rC v'=some ds/\∀n h,eV n h v':=by
 intro jv;induction jv with
 |co a r _ ihr=>
  intro v m l m1 rest v0 v' r' ds hc hd hr;cases v with
  |co x y=>
   simp only[de]at hc;split at hc
   .rename_i l1 m2 h1;split at hc
    .rename_i l2 m3 h2;obtain⟨rfl,rfl⟩:=af (aa hc);obtain⟨x0,y0,w1,r1,w2,e1,e2,rfl⟩:=Mu hr;simp only[rC]at hd;split at hd
     .rename_i d1 d2 hd1 hd2;obtain rfl:=aa hd;rw[aM]at e1
      have hx:∃t z,x=.pt t z/\kx t=true/\d1=[.pt (aR t z)]:=by
       cases x with
       |pt t z=>
        simp only[rC]at hd1
        grind
       |ni=>cases a<;>simp[de]at h1<;>simp[uX,lO,iK]at h1
       |co=>cases a<;>simp[de]at h1<;>simp[uX,lO,iK]at h1
       |_=>simp[rC]at hd1
      obtain⟨t,z,rfl,hdt,rfl⟩:=hx
      have ha:∃u z',gg t u z=some z'/\a=.pt u/\l1=[.x u z']:=by
       cases a with
       |pt u=>
        simp only[de]at h1;split at h1
        .rename_i z' hz';obtain⟨rfl,_⟩:=af (aa h1);exact⟨u,z',hz',rfl,rfl⟩
        .simp at h1
       |x u=>simp only[de]at h1;split at h1<;>rename_i hh<;>simp[uX,lO,iK]at hh;simp at h1
       |_=>simp[de]at h1
      obtain⟨u,z',hz',rfl,rfl⟩:=ha;obtain⟨rfl,rfl⟩:=cH hz';obtain⟨_,rfl,rfl⟩:=Mt e1;obtain⟨rfl,g2,g3⟩:=ihr _ _ _ _ _ _ _ _ _ h2 hd2 e2;refine⟨rfl,?_,fun n h=>⟨trivial,g3 n h⟩⟩;simp only[rC,hdt,if_true,g2]
     .simp at hd
    .simp at hc
   .simp at hc
  |_=>simp[de]at hc
 |ni=>intro v m l m1 rest v0 v' r' ds hc hd hr;cases v with|ni=>obtain⟨rfl,_⟩:=af (aa hc);simp only[jb]at hr;obtain⟨rfl,rfl⟩:=af (aa hr);exact⟨rfl,hd,fun _ _=>trivial⟩|_=>simp[de]at hc
 |_=>intro v m l m1 rest v0 v' r' ds hc hd hr;cases v<;>simp[de]at hc
section
variable{h' h'':H2}{n' n'' aL:Nat}{mf:List Bd}{M:Nat->Nat->Prop}
theorem Sb(cx:Cx h' h'' aL n'' mf M){b:Bd}(hb:b∈mf){i:Nat}(hi:b.id=some i){c:C}(hc:(∀c',BU i (fO h' i)=some c'->c=c')/\SZ i c):∃c',ff h'' (.so (aL+b.j)) [c']/\tH M c' c:=by
 obtain⟨c',h1,h2⟩:=tH.uN (cx.m b hb i hi) c hc.2;refine⟨c',⟨c',rfl,fun c2 hc2=>?_,h2⟩,h1⟩;obtain⟨t,s,rfl,h4⟩:=cx.so b hb i hi c2 hc2;obtain rfl:=hc.1 _ h4;cases s with
 |nil=>cases c' with|d x=>have:=h1;rw[<-this];rfl|_=>simp[nA,tH]at h1
 |mk l=>cases c' with|fx a i2 b2 e=>obtain⟨j,_,e2⟩:=h1;simp_all[eT,nA]|d x=>simp[nA,tH]at h1|_=>simp[nA,tH]at h1
theorem R9(cx:Cx h' h'' aL n'' mf M){b:Bd}(hb:b∈mf){i:Nat}(hi:b.id=some i){c:C}(hc:(∀c',GO i (fO h' i)=some c'->c=c')/\SZ i c):∃c',ff h'' (.sr (aL+b.j)) [c']/\tH M c' c:=by
 obtain⟨c',h1,h2⟩:=tH.uN (cx.m b hb i hi) c hc.2;refine⟨c',⟨c',rfl,fun c2 hc2=>?_,h2⟩,h1⟩;obtain⟨t,s,rfl,h4⟩:=cx.sr b hb i hi c2 hc2;obtain rfl:=hc.1 _ h4;cases s with
 |nil=>cases c' with|d x=>have:=h1;rw[<-this];rfl|_=>simp[nA,tH]at h1
 |mk l=>cases c' with|fx a i2 b2 e=>obtain⟨j,_,e2⟩:=h1;simp_all[eT,nA]|d x=>simp[nA,tH]at h1|_=>simp[nA,tH]at h1
theorem uY(cx:Cx h' h'' aL n'' mf M):∀(jv:JV)(ln:Bool)(v:V)(m:List Bd)(l:List V)(m1:List Bd)(rest:List V)(v0 v':V)(r':List V)(cs:List C),de jv ln v m=some (l,m1)->(∀b∈m1,b∈mf)->ff h' v cs->eV n' h' v->jb aL jv ln (l++rest) v0=some (v',r')->
  r'=rest/\eV n'' h'' v'/\u7 v'=u7 v/\(∀l,v'≠.tp l)/\∃cs',ff h'' v' cs'/\pm M cs' cs:=by
 intro jv;induction jv with
 |x t=>
  intro ln v m l m1 rest v0 v' r' cs hc hm hv hk hr;cases ln with
  |true=>cases v<;>simp[de]at hc
  |false=>
   simp only[de]at hc;split at hc
   .rename_i y hy;obtain⟨rfl,rfl⟩:=af (aa hc);obtain⟨hd,rfl,rfl⟩:=Um hr;obtain rfl:=iW v false t y cs hy hv;exact⟨rfl,trivial,(yi hy).symm,by simp,_,⟨hd,rfl⟩,pm.d _⟩
   .simp at hc
 |pt t=>
  intro ln v m l m1 rest v0 v' r' cs hc hm hv hk hr;cases ln with
  |true=>cases v<;>simp[de]at hc
  |false=>
   cases v with
   |pt u v=>
    simp only[de]at hc;split at hc
    .rename_i y hy;obtain⟨rfl,rfl⟩:=cH hy;obtain⟨rfl,rfl⟩:=af (aa hc);obtain⟨hd,rfl,rfl⟩:=Mt hr;obtain⟨_,rfl⟩:=hv;exact⟨rfl,trivial,rfl,by simp,_,⟨hd,rfl⟩,pm.one rfl⟩
    .simp at hc
   |_=>simp[de]at hc
 |sr j=>
  intro ln v m l m1 rest v0 v' r' cs hc hm hv hk hr;cases ln with
  |true=>cases v<;>simp[de]at hc
  |false=>
   have hr2:∀l2:List V,jb aL (.sr j) false l2 v0=some (.sr (aL+j),l2):=fun l2=>by simp only[jb]
   cases v with
   |sr id=>
    simp only[de]at hc;split at hc
    .rename_i m2 hb;obtain⟨rfl,rfl⟩:=af (aa hc);rw[hr2]at hr;obtain⟨rfl,rfl⟩:=af (aa hr);have hbm:=hm _ (m6 hb).1;obtain⟨c,rfl,h1⟩:=hv;obtain⟨c',h2,h3⟩:=R9 cx hbm rfl h1;exact⟨rfl,cx.n _ hbm,rfl,by simp,_,h2,pm.one h3⟩
    .simp at hc
   |_=>simp[de]at hc
 |so j=>
  intro ln v m l m1 rest v0 v' r' cs hc hm hv hk hr;cases ln with
  |true=>cases v<;>simp[de]at hc
  |false=>
   have hr2:∀l2:List V,jb aL (.so j) false l2 v0=some (.so (aL+j),l2):=fun l2=>by simp only[jb]
   cases v with
   |so id=>
    simp only[de]at hc;split at hc
    .rename_i m2 hb;obtain⟨rfl,rfl⟩:=af (aa hc);rw[hr2]at hr;obtain⟨rfl,rfl⟩:=af (aa hr);have hbm:=hm _ (m6 hb).1;obtain⟨c,rfl,h1⟩:=hv;obtain⟨c',h2,h3⟩:=Sb cx hbm rfl h1;exact⟨rfl,cx.n _ hbm,rfl,by simp,_,h2,pm.one h3⟩
    .simp at hc
   |nl k=>
    cases k with
    |succ=>simp[de]at hc
    |zero=>
     simp only[de]at hc;split at hc
     .rename_i m2 hb;obtain⟨rfl,rfl⟩:=af (aa hc);rw[hr2]at hr;obtain⟨rfl,rfl⟩:=af (aa hr);have hbm:=hm _ (m6 hb).1;obtain rfl:=hv;exact⟨rfl,cx.n _ hbm,rfl,by simp,_,⟨Fd 0,rfl,fun c' hc'=>(cx.nl _ hbm rfl c' hc').symm,fun i hi=>by simp[Fd,eT]at hi⟩,pm.one rfl⟩
     .simp at hc
   |x t v=>
    cases t with
    |sl u=>
     simp only[de]at hc;obtain⟨hnil,hc⟩:=aJ hc;split at hc
     .rename_i m2 hb;obtain⟨rfl,rfl⟩:=af (aa hc);rw[hr2]at hr;obtain⟨rfl,rfl⟩:=af (aa hr);have hbm:=hm _ (m6 hb).1;obtain⟨_,rfl⟩:=hv;have hv:v=Sl.nil:=by cases v with|nil=>rfl|mk l=>simp[Sl.fA]at hnil
      subst hv;exact⟨rfl,cx.n _ hbm,rfl,by simp,_,⟨Fd 0,rfl,fun c' hc'=>(cx.nl _ hbm rfl c' hc').symm,fun i hi=>by simp[Fd,eT]at hi⟩,pm.one rfl⟩
     .simp at hc
    |_=>simp[de]at hc
   |_=>simp[de]at hc
 |om j=>
  intro ln v m l m1 rest v0 v' r' cs hc hm hv hk hr;cases ln with
  |true=>cases v<;>simp[de]at hc
  |false=>
   have hr2:∀l2:List V,jb aL (.om j) false l2 v0=some (.om (aL+j),l2):=fun l2=>by simp only[jb]
   cases v with
   |om id=>
    simp only[de]at hc;split at hc
    .rename_i m2 hb;obtain⟨rfl,rfl⟩:=af (aa hc);rw[hr2]at hr;obtain⟨rfl,rfl⟩:=af (aa hr);have hbm:=hm _ (m6 hb).1;obtain rfl:=hv;exact⟨rfl,cx.n _ hbm,rfl,by simp,_,rfl,pm.one ⟨id,cx.m _ hbm id rfl,rfl⟩⟩
    .simp at hc
   |_=>simp[de]at hc
 |op j t p=>
  intro ln v m l m1 rest v0 v' r' cs hc hm hv hk hr;cases ln with
  |true=>cases v<;>simp[de]at hc
  |false=>
   have hr2:∀l2:List V,jb aL (.op j t p) false l2 v0=some (.op (aL+j) t (p.map .fd),l2):=fun l2=>by simp only[jb]
   cases v with
   |op id u q=>
    simp only[de]at hc;obtain⟨hq,hc2⟩:=aJ hc;clear hc;have hc:=hc2;clear hc2;simp only[ak,decide_eq_true_eq]at hq;obtain⟨rfl,hq⟩:=hq;obtain rfl:=Hk hq;split at hc
    .rename_i m2 hb;obtain⟨rfl,rfl⟩:=af (aa hc);rw[hr2]at hr;obtain⟨rfl,rfl⟩:=af (aa hr);have hbm:=hm _ (m6 hb).1;obtain rfl:=hv;exact⟨rfl,⟨cx.n _ hbm,hk.2⟩,rfl,by simp,_,rfl,pm.one ⟨id,cx.m _ hbm id rfl,rfl⟩⟩
    .simp at hc
   |_=>simp[de]at hc
 |nl k=>
  intro ln v m l m1 rest v0 v' r' cs hc hm hv hk hr;cases ln with
  |true=>cases v<;>simp[de]at hc
  |false=>
   cases v with
   |nl k'=>
    simp only[de]at hc;obtain⟨hq,hc2⟩:=aJ hc;clear hc;have hc:=hc2;clear hc2;obtain rfl:k=k':=by simpa using hq
    obtain⟨rfl,rfl⟩:=af (aa hc);have hr2:∀l2:List V,jb aL (.nl k) false l2 v0=some (.nl k,l2):=fun l2=>by simp only[jb]
    rw[hr2]at hr;obtain⟨rfl,rfl⟩:=af (aa hr);obtain rfl:=hv;exact⟨rfl,trivial,rfl,by simp,_,rfl,pm.one rfl⟩
   |_=>simp[de]at hc
 |fn z f a ih=>
  intro ln v m l m1 rest v0 v' r' cs hc hm hv hk hr;cases ln with
  |true=>cases v<;>simp[de]at hc
  |false=>
   cases v with
   |fn z' f' l'=>
    simp only[de]at hc;obtain⟨hq,hc2⟩:=aJ hc;clear hc;have hc:=hc2;clear hc2;simp only[ak,beq_iff_eq]at hq;obtain⟨rfl,rfl⟩:=hq;simp only[jb]at hr;split at hr
    .rename_i w l2 hw;obtain⟨rfl,rfl⟩:=af (aa hr);cases z with|true=>obtain⟨ds,hd,rfl⟩:=hv;obtain⟨rfl,g1,g2⟩:=Ly a l' m l m1 rest .ni w l2 ds hc hd hw;exact⟨rfl,g2 _ _,rfl,by simp,_,⟨ds,g1,rfl⟩,pm.one rfl⟩|false=>obtain⟨xs,hx,rfl⟩:=hv;obtain⟨rfl,g1,_,_,cs',g2,g3⟩:=ih true l' m l m1 rest .ni w l2 xs hc hm hx hk hw;exact⟨rfl,g1,rfl,by simp,_,⟨cs',g2,rfl⟩,pm.one ⟨xs,g3,rfl⟩⟩
    .simp at hr
   |_=>simp[de]at hc
 |rc a ih=>
  intro ln v m l m1 rest v0 v' r' cs hc hm hv hk hr;cases ln with
  |true=>cases v<;>simp[de]at hc
  |false=>
   simp only[jb]at hr;split at hr
   .rename_i w l2 hw;obtain⟨rfl,rfl⟩:=af (aa hr);cases v with
    |rc l'=>obtain⟨rfl,g1,_,_,cs',g2,g3⟩:=ih true l' m l m1 rest .ni w l2 cs hc hm hv hk hw;exact⟨rfl,g1,rfl,by simp,cs',g2,g3⟩
    |x t v=>cases t with|st t=>obtain⟨hd,rfl⟩:=hv;obtain⟨rfl,g1,_,_,cs',g2,g3⟩:=ih true (JZ t v) m l m1 rest .ni w l2 _ hc hm (CS t v hd) (GI t v) hw;exact⟨rfl,g1,rfl,by simp,cs',g2,g3⟩|_=>simp[de]at hc
    |_=>simp[de]at hc
   .simp at hr
 |ni=>
  intro ln v m l m1 rest v0 v' r' cs hc hm hv hk hr;cases ln with
  |false=>cases v<;>simp[de]at hc
  |true=>cases v with|ni=>obtain⟨rfl,_⟩:=af (aa hc);simp only[jb]at hr;obtain⟨rfl,rfl⟩:=af (aa hr);exact⟨rfl,trivial,rfl,by simp,cs,hv,by obtain rfl:=hv;rfl⟩|_=>simp[de]at hc
 |co a r iha ihr=>
  intro ln v m l m1 rest v0 v' r' cs hc hm hv hk hr;cases ln with
  |false=>cases v<;>simp[de]at hc
  |true=>
   cases v with
   |co x y=>
    simp only[de]at hc;split at hc
    .rename_i l1 m2 h1;split at hc
     .rename_i l2 m3 h2;obtain⟨rfl,rfl⟩:=af (aa hc);obtain⟨x0,y0,w1,r1,w2,e1,e2,rfl⟩:=Mu hr;rw[aM]at e1;obtain⟨cx1,cy,rfl,hx,hy⟩:=hv;obtain⟨rfl,g1,_,_,cs1,g2,g3⟩:=iha _ _ _ _ _ _ _ _ _ _ h1 (fun b hb=>hm b ((uZ _ _ _ _ _ _ h2).1 b hb)) hx hk.1 e1;obtain⟨rfl,k1,_,_,cs2,k2,k3⟩:=ihr _ _ _ _ _ _ _ _ _ _ h2 hm hy hk.2 e2;exact⟨rfl,⟨g1,k1⟩,rfl,by simp,_,⟨cs1,cs2,rfl,g2,k2⟩,g3.yZ k3⟩
     .simp at hc
    .simp at hc
   |_=>simp[de]at hc
 |_=>intro ln v m l m1 rest v0 v' r' cs hc;cases ln<;>cases v<;>simp[de]at hc
theorem QN(cx:Cx h' h'' aL n'' mf M){jv:JV}{v:V}{m:List Bd}{l:List V}{m1:List Bd}{rest:List V}{v0 v':V}{r':List V}{x:TV}(hc:de jv false v m=some (l,m1))(hm:∀b∈m1,b∈mf)(hv:fC h' v x)(hk:eV n' h' v)(hr:jb aL jv false (l++rest) v0=some (v',r')):
  r'=rest/\eV n'' h'' v'/\∃x',fC h'' v' x'/\Gt M x' x/\∀l,x'≠.gX l:=by
 have h1:tQ h' v x:=by cases v with|tp l=>cases jv<;>simp[de]at hc;split at hc<;>rename_i hh<;>simp[lO,iK]at hh;simp at hc|no=>cases jv<;>simp[de]at hc;split at hc<;>rename_i hh<;>simp[lO,iK]at hh;simp at hc|gn=>exact hv.elim|_=>exact hv
 obtain⟨cs,h2,h3,h4⟩:=h1;obtain⟨rfl,g1,g2,g3,cs',g4,g5⟩:=uY cx jv false v m l m1 rest v0 v' r' cs hc hm h2 hk hr;refine⟨rfl,g1,?_⟩;cases ha:u7 v with
 |true=>obtain rfl:=h3 ha;exact⟨.agg cs',bW ⟨cs',g4,fun _=>rfl,fun e=>by rw[g2,ha]at e;cases e⟩,⟨cs,g5,rfl⟩,by simp⟩
 |false=>
  obtain⟨c,rfl,rfl⟩:=h4 ha
  match cs',g5 with
  |[],g5=>exact absurd (show[c]=[]from g5) (by simp)
  |c'::r,g5=>obtain⟨d,r2,e1,e2,e3⟩:=g5;obtain⟨rfl,rfl⟩:=cj e3;cases r with|nil=>exact⟨.c c',bW ⟨[c'],g4,fun e=>(by rw[g2,ha]at e;cases e),fun _=>⟨c',rfl,rfl⟩⟩,⟨c,e1,rfl⟩,by simp⟩|cons=>obtain⟨_,_,_,_,e⟩:=e2;simp at e
end
theorem L7{α:Type}(G:Nat->Option α)(ks:List Nat)(hk:∀t,G t≠none->t∈ks):∃e:List (Nat×α),∀t,bV e t=G t:=by
 have key:∀ks:List Nat,∃e:List _,∀t,bV e t=if t∈ks then G t else none:=by
  intro ks;induction ks with
  |nil=>exact⟨[],fun t=>by simp[bV]⟩
  |cons k ks ih=>
   obtain⟨e,he⟩:=ih;cases hg:G k with
   |none=>
    refine⟨e,fun t=>?_⟩
    grind
   |some x=>
    refine⟨(k,x)::e,fun t=>?_⟩;simp[bV]
    grind
 obtain⟨e,he⟩:=key ks;refine⟨e,fun t=>?_⟩
 grind
theorem Qk(F:Nat->Option Ob)(ks:List Nat)(hk:∀t,F t≠none->t∈ks):∃h:bp,∀t,au h t=F t:=by obtain⟨e,he⟩:=L7 (fun t=>(F t).map some) ks fun t ht=>hk t fun e=>ht (by simp[e]);refine⟨e,fun t=>?_⟩;simp[au,he];cases F t<;>rfl
theorem DC{α:Type}:∀{l:List (Nat×α)}{t:Nat},bV l t≠none->t∈l.map (·.1):=by intro l t h;cases hx:bV l t with|none=>exact absurd hx h|some x=>exact List.mem_map.2 ⟨_,zu hx,rfl⟩
theorem Nj{h:bp}{t:Nat}(hl:au h t≠none):t∈h.map (·.1):=DC fun e=>hl (by simp[au,e])
theorem M_{α β:Type}{ka va:Bool}{k:α->List Value}{v:β->List D}{m:Mp α β}{cs:List C}(h:some (Ob.box cs)=Ar ka va k v m):False:=by cases m<;>simp[Ar]at h
section
variable{h' h'':H2}{n' n'' aL:Nat}{mf:List Bd}{M:Nat->Nat->Prop}
theorem Y6(hj:∀b∈mf,aL+b.j<n''):Cx h' [] aL n'' mf (fun _ _=>True):=⟨fun _ _ _ _=>trivial,hj,fun b _ i _ c' hc=>by simp[fO,bV,BU]at hc,fun b _ i _ c' hc=>by simp[fO,bV,GO]at hc,fun b _ _ c' hc=>by simp[fO,bV,BU]at hc⟩
theorem CB{j:Nat}{o:JO}{m:List Bd}{l:List V}{m1:List Bd}(h:Oz h' j o m=some (l,m1)):(∀c∈m,c∈m1)/\(CJ m->CJ m1):=by
 have id1:∀{a:List V},some (a,m)=some (l,m1)->(∀c∈m,c∈m1)/\(CJ m->CJ m1):=fun e=>by simp_all
 unfold Oz at h;split at h
 .split at h
  .exact id1 (aJ h).2
  .grind
  .grind
  .split at h
   .exact uZ _ _ _ _ _ _ (aJ h).2
   .simp at h
  .grind
  .simp at h
 .simp at h
def AP(h':H2)(aL:Nat)(m1:List Bd)(b:Bd):O->Prop
 |.ar t s v=>v=0/\((b.id=none/\s=.nil/\DZ t=true)\/∃id ver,b.id=some id/\fO h' id=some (.ar t s ver))
 |.bx t w=>∃id v c m0 l0 m2 rest r0,b.id=some id/\fO h' id=some (.bx t v)/\de c false v m0=some (l0,m2)/\(∀b∈m2,b∈m1)/\jb aL c false (l0++rest) .gn=some (w,r0)/\d_ w false t=true
 |.mp k v y=>∃id,b.id=some id/\fO h' id=some (.mp k v y)
 |.rw t s ln=>ln=none/\∃id,b.id=some id/\fO h' id=some (.rw t s none)
 |_=>False
theorem Lx{H1:bp}(hr:HR n' H1 h')(hj:∀b∈mf,aL+b.j<n''){j:Nat}{o:JO}{m:List Bd}{l:List V}{m1:List Bd}{rest:List V}{o':O}{r':List V}(hc:Oz h' j o m=some (l,m1))(hm:∀b∈m1,b∈mf)(hs:Sf aL o (l++rest)=some (o',r')):
  r'=rest/\∃b∈mf,b.j=j/\AP h' aL mf b o':=by
 have hmm:=(CB hc).1;unfold Oz at hc;split at hc
 .rename_i b hb;obtain⟨hb1,hb2⟩:=A7 hb;have hbm:=hm _ (hmm _ hb1);split at hc
  .rename_i t hid;obtain⟨hok,hc⟩:=aJ hc;obtain⟨rfl,_⟩:=af (aa hc);obtain⟨_,hs⟩:=aJ hs;obtain⟨rfl,rfl⟩:=af (aa hs);exact⟨rfl,b,hbm,hb2,rfl,.inl ⟨hid,rfl,hok⟩⟩
  .rename_i t id hid;split at hc
   .rename_i u s ver ho;split at hc
    .rename_i s2 hs2;obtain⟨rfl,_⟩:=af (aa hc);obtain⟨e,rfl⟩:=cH hs2;cases e;obtain⟨_,hs⟩:=aJ hs;obtain⟨rfl,rfl⟩:=af (aa hs);exact⟨rfl,b,hbm,hb2,rfl,.inr ⟨id,ver,hid,ho⟩⟩
    .simp at hc
   .simp at hc
  .rename_i t id hid;split at hc
   .rename_i u s ho;split at hc
    .rename_i s2 hs2;obtain⟨rfl,_⟩:=af (aa hc);obtain⟨e,rfl⟩:=cH hs2;cases e;obtain⟨_,hs⟩:=aJ hs;obtain⟨rfl,rfl⟩:=af (aa hs);exact⟨rfl,b,hbm,hb2,rfl,id,hid,ho⟩
    .simp at hc
   .simp at hc
  .rename_i t c id hid;split at hc
   .rename_i u v ho;obtain⟨hu,hc2⟩:=aJ hc;clear hc;have hc:=hc2;obtain rfl:u=t:=by simpa using hu
    simp[Sf]at hs;split at hs
    .rename_i w l2 hw;obtain⟨hf,hs⟩:=aJ hs;obtain⟨rfl,rfl⟩:=af (aa hs);obtain⟨_,hob,hko⟩:=hr.ob id _ ho;obtain⟨cs,_,hcs,_⟩:=hob;obtain⟨rfl,_⟩:=uY (Y6 hj) c false v m l m1 rest .gn w l2 cs hc hm hcs hko hw;exact⟨rfl,b,hbm,hb2,id,v,c,m,l,m1,_,_,hid,ho,hc,hm,hw,hf⟩
    .simp at hs
   .simp at hc
  .rename_i k v id hid;split at hc
   .rename_i k' v' y ho;split at hc
    .rename_i y2 hy2;obtain⟨rfl,_⟩:=af (aa hc);obtain⟨e,rfl⟩:=cH hy2;cases e;obtain⟨_,hs⟩:=aJ hs;obtain⟨rfl,rfl⟩:=af (aa hs);exact⟨rfl,b,hbm,hb2,id,hid,ho⟩
    .simp at hc
   .simp at hc
  .simp at hc
 .simp at hc
theorem v_:∀(os:List JO)(j:Nat)(m:List Bd)(l:List V)(m1:List Bd),CA h' os j m=some (l,m1)->(∀c∈m,c∈m1)/\(CJ m->CJ m1):=by
 intro os;induction os with
 |nil=>intro j m l m1 h;obtain⟨_,rfl⟩:=af (aa h);exact⟨fun _ h=>h,fun h=>h⟩
 |cons o os ih=>
  intro j m l m1 h;simp[CA]at h;split at h
  .split at h
   .grind [CB]
   .simp at h
  .simp at h
theorem Ii{H1:bp}(hr:HR n' H1 h')(hj:∀b∈mf,aL+b.j<n''):∀(os:List JO)(j:Nat)(m:List Bd)(l:List V)(m1:List Bd)(rest:List V)(hl:H2)(r':List V),CA h' os j m=some (l,m1)->(∀b∈m1,b∈mf)->EB aL os j (l++rest)=some (hl,r')->
  (∀i o',bV hl i=some o'->∃o,o'=some o/\∃b∈mf,i=aL+b.j/\AP h' aL mf b o)/\(∀p∈hl,aL<=p.1):=by
 intro os;induction os with
 |nil=>
  intro j m l m1 rest hl r' hc hm hs;simp[EB]at hs
  grind [bV]
 |cons o os ih=>
  intro j m l m1 rest hl r' hc hm hs;simp[CA]at hc;split at hc
  .rename_i l1 m2 h1;split at hc
   .rename_i l2 m3 h2;obtain⟨rfl,rfl⟩:=af (aa hc);simp[EB]at hs;split at hs
    .rename_i o1 r1 ho1;split at hs
     .obtain ⟨rfl,rfl⟩:=af (aa hs);obtain⟨rfl,b,hb,hbj,hap⟩:=Lx hr hj h1 (fun b hb=>hm b ((v_ _ _ _ _ _ h2).1 b hb)) ho1;refine⟨fun i o' h=>?_,fun p hp=>?_⟩
      .simp [bV]at h
       grind
      grind
     .simp at hs
    .simp at hs
   .simp at hc
  .simp at hc
def Xs(M:Nat->Nat->Prop):Ob->Prop
 |.nst _ sl=>∀(k id len:Nat),sl[k]?=some (k8.dQ id len)->M id id
 |_=>True
theorem zR{t:Ty}{l:List (Sl (El t))}{ln:Option (Nat×Nat)}{k i len:Nat}(h:(fc t l ln)[k]?=some (.dQ i len)):∃m,ln=some (m,i):=by
 have no:¬(l.map (p9 t))[k]?=some (.dQ i len):=fun h=>by
  rw[List.getElem?_map]at h;cases hx:l[k]?with
  |none=>rw[hx]at h;cases h
  |some s=>rw[hx]at h;cases s<;>cases h
 cases ln with
 |none=>exact absurd h no
 |some q=>
  obtain⟨m,j⟩:=q;simp[fc]at h;rw[List.getElem?_set]at h;split at h
  .split at h
   .cases hg:gt l m<;>rw[hg]at h<;>cases h;exact⟨m,rfl⟩
   .cases h
  .exact absurd h no
def Q1(M:Nat->Nat->Prop)(o1 o0:Ob):Prop:=(o1=o0/\(∀cs,o0≠.box cs)/\Xs M o0)\/∃a c,o1=.box a/\o0=.box c/\pm M a c
theorem Vs{H1:bp}(hr:HR n' H1 h')(cx:Cx h' h'' aL n'' mf M){b:Bd}{o:O}(ha:AP h' aL mf b o):
  ∃ob,xx h'' o ob/\D1 n'' h'' o/\∀o1,ob=some o1->∃id o0,b.id=some id/\au H1 id=some o0/\Q1 M o1 o0:=by
 cases o with
 |ar t s v=>
  obtain⟨_,⟨_,rfl,hok⟩|⟨id,ver,hid,ho⟩⟩:=ha
  .obtain ⟨h1,h2⟩:=qX hok;exact⟨none,⟨h1,h2,fun l e=>by cases e⟩,trivial,fun o1 e=>by cases e⟩
  .obtain ⟨_,⟨h1,h2,h3⟩,_⟩:=hr.ob id _ ho;cases s with|nil=>exact⟨none,⟨h1,h2,fun l e=>by cases e⟩,trivial,fun o1 e=>by cases e⟩|mk l=>refine⟨_,⟨h1,h2,fun l' e=>by cases e;rfl⟩,trivial,fun o1 e=>⟨id,_,hid,h3 l rfl,.inl ⟨(aa e).symm,by simp,trivial⟩⟩⟩
 |rw t s ln=>obtain⟨rfl,id,hid,ho⟩:=ha;obtain⟨_,⟨h1,h2,h3⟩,_⟩:=hr.ob id _ ho;cases s with|nil=>exact⟨none,⟨h1,h2,fun l e=>by cases e⟩,trivial,fun o1 e=>by cases e⟩|mk l=>refine⟨_,⟨h1,h2,fun l' e=>by cases e;rfl⟩,trivial,fun o1 e=>⟨id,_,hid,h3 l rfl,.inl ⟨(aa e).symm,by simp,fun k i len hk=>?_⟩⟩⟩;obtain⟨m,e2⟩:=zR hk;cases e2
 |bx t w=>obtain⟨id,v,c,m0,l0,m2,rest,r0,hid,ho,hc,hm,hs,hf⟩:=ha;obtain⟨_,⟨cs,h1,h2,h3⟩,hk⟩:=hr.ob id _ ho;obtain⟨rfl,g1,_,_,cs',g2,g3⟩:=uY cx c false v m0 l0 m2 rest .gn w r0 cs hc hm h2 hk hs;exact⟨some _,⟨cs',rfl,g2,hf⟩,g1,fun o1 e=>⟨id,_,hid,h1,.inr ⟨cs',cs,(aa e).symm,rfl,g3⟩⟩⟩
 |mp k v y=>
  obtain⟨id,hid,ho⟩:=ha;obtain⟨_,⟨h1,h2,h3⟩,_⟩:=hr.ob id _ ho;refine⟨au H1 id,⟨h1,h2,h3⟩,trivial,fun o1 e=>⟨id,o1,hid,e,.inl ⟨rfl,fun cs e2=>?_,?_⟩⟩⟩
  .rw [e2]at e;rw[e]at h3;exact M_ h3
  .rw [e]at h3;simp[Ar]at h3;rw[h3];trivial
 |_=>exact ha.elim
theorem A3{s:S2}:∀(vs:List (Nat×JV))(m:List Bd)(l:List V)(m1:List Bd),Cz s vs m=some (l,m1)->(∀c∈m,c∈m1)/\(CJ m->CJ m1):=by
 intro vs;induction vs with
 |nil=>intro m l m1 h;obtain⟨_,rfl⟩:=af (aa h);exact⟨fun _ h=>h,fun h=>h⟩
 |cons p vs ih=>
  intro m l m1 h;simp[Cz]at h;split at h
  .split at h
   .split at h
    .grind [uZ]
    .simp at h
   .simp at h
  .simp at h
theorem A0{s1:St}{s:S2}(hr:R2 s1 s)(cx:Cx s.heap h'' aL n'' mf M):∀(vs:List (Nat×JV))(m:List Bd)(l:List V)(m1:List Bd)(rest:List V)(e:List (Nat×V))(r':List V),Cz s vs m=some (l,m1)->(∀b∈m1,b∈mf)->IP aL vs (l++rest)=some (e,r')->
  r'=rest/\∀t v,bV e t=some v->eV n'' h'' v/\∃x x',bV s1.cW t=some x/\fC h'' v x'/\Gt M x' x/\∀l,x'≠.gX l:=by
 intro vs;induction vs with
 |nil=>intro m l m1 rest e r' hc hm hs;obtain⟨rfl,_⟩:=af (aa hc);obtain⟨rfl,rfl⟩:=af (aa hs);exact⟨rfl,fun t v h=>by simp[bV]at h⟩
 |cons p vs ih=>
  obtain⟨t,a⟩:=p;intro m l m1 rest e r' hc hm hs;simp[Cz]at hc;split at hc
  .rename_i v hv;split at hc
   .rename_i l1 m2 h1;split at hc
    .rename_i l2 m3 h2;obtain⟨rfl,rfl⟩:=af (aa hc);simp[IP]at hs;split at hs
     .rename_i w r1 hw;split at hs
      .rename_i e1 r2 he1;obtain⟨rfl,rfl⟩:=af (aa hs);simp[LN]at hv;split at hv
       .rename_i v2 hv2;obtain⟨hal,hv⟩:=aJ hv;obtain rfl:=aa hv;obtain⟨hk,hx⟩:=hr.cW t _ hv2;obtain⟨x,hx1,hx2⟩:=hx (.inl hal);obtain⟨rfl,g1,x',g2,g3,g4⟩:=QN cx h1 (fun b hb=>hm b ((A3 _ _ _ _ h2).1 b hb)) hx2 hk hw;obtain⟨rfl,k1⟩:=ih _ _ _ _ _ _ h2 hm he1;refine⟨rfl,fun t' v' h=>?_⟩;simp[bV]at h
        grind
       .simp at hv
      .simp at hs
     .simp at hs
    .simp at hc
   .simp at hc
  .simp at hc
theorem yn{h:H2}:∀(gs:JV)(g0 g:V)(m:List Bd)(l:List V)(m1:List Bd),s_ h gs g0 g m=some (l,m1)->(∀c∈m,c∈m1)/\(CJ m->CJ m1):=by
 intro gs;induction gs with
 |sm=>
  intro g0 g m l m1 h;simp only[s_]at h
  grind
 |ni=>intro g0 g m l m1 h;cases g0<;>cases g<;>simp[s_]at h;simp_all
 |co a r _ ih=>
  intro g0 g m l m1 hc;cases g0 with
  |co x0 y0=>
   cases g with
   |co x y=>
    have GA:(bif iw h x then(match de a false x m with|some (l,m)=>(match s_ h r y0 y m with|some (l',m)=>some (l++l',m)|none=>none)|none=>none)else none)=some (l,m1)->(∀c∈m,c∈m1)/\(CJ m->CJ m1):=by
     intro hc;split at hc
     .rename_i l1 m2 h1;split at hc
      .grind [uZ]
      .simp at hc
     .simp at hc
    cases a with|sm=>exact ih _ _ _ _ _ (aJ (hc)).2|gn=>exact ih _ _ _ _ _ (show s_ h r y0 y m=_ from hc)|_=>exact GA hc
   |_=>simp[s_]at hc
  |_=>simp[s_]at hc
 |_=>intro g0 g m l m1 h;simp[s_]at h
def OV(M:Nat->Nat->Prop):List C->List C->Prop
 |[],m=>m=[]
 |c::l,m=>∃d r,(c=ui\/tH M c d)/\OV M l r/\m=d::r
theorem OV.len:∀{l m:List C},OV M l m->l.length=m.length
 |[],m,h=>by obtain rfl:=h;rfl
 |c::l,m,h=>by obtain⟨d,r,_,h2,rfl⟩:=h;simp[OV.len h2]
theorem OV.get:∀{l m:List C},OV M l m->∀(i:Nat)(c:C),l[i]?=some c->c=ui\/∃d,m[i]?=some d/\tH M c d
 |[],m,h,i,c,hi=>by simp at hi
 |c::l,m,h,i,c',hi=>by
  obtain⟨d,r,h1,h2,rfl⟩:=h;cases i with
  |zero=>
   obtain rfl:c=c':=by simpa using hi
   exact h1.imp id fun h=>⟨d,rfl,h⟩
  |succ i=>exact(OV.get h2 i c' (by simpa using hi)).imp id fun⟨d,h3,h4⟩=>⟨d,by simpa using h3,h4⟩
theorem Ew(hlow:∀i,i<aL->fO h'' i≠none->fO h'' i=fO h' i)(hM:∀i,i<aL->M i i){x0 x:V}{c:C}{hz:H2}(hs:vo x0 x=true)(hok:eV aL hz x0)(hx:iw h' x=true->ff h' x [c]):
  ∃c',(iw h'' x0=true->ff h'' x0 [c'])/\(c'=ui\/tH M c' c):=by
 by_cases ha:iw h'' x0=true
 case neg=>simp_all
 cases x0<;>cases x<;>first|(simp[vo]at hs;done)|skip
 case nl.nl k k'=>
  obtain rfl:k=k':=by simpa[vo]using hs
  have:ff h' (.nl k) [c]:=hx rfl;obtain rfl:=fo.1 (show[c]=[Fd k]from this);exact⟨Fd k,fun _=>rfl,.inr rfl⟩
 case so.so i i'=>
  obtain rfl:i=i':=by simpa[vo]using hs
  have hi:i<aL:=hok;have hne:fO h'' i≠none:=fun e=>by simp[iw,e]at ha
  have e:=hlow i hi hne;have ha':iw h' (.so i)=true:=by simp only[iw]at ha|-;rw[<-e];exact ha
  obtain⟨c2,e2,h2,h3⟩:=hx ha';refine⟨c,fun _=>⟨c2,e2,fun c' hc'=>h2 c' (by rw[<-e];exact hc'),h3⟩,.inr (tH.dH _ fun j hj=>?_)⟩;obtain rfl:=fo.1 e2;rw[h3 j hj];exact hM i hi
 case sr.sr i i'=>
  obtain rfl:i=i':=by simpa[vo]using hs
  have hi:i<aL:=hok;have hne:fO h'' i≠none:=fun e=>by simp[iw,e]at ha
  have e:=hlow i hi hne;have ha':iw h' (.sr i)=true:=by simp only[iw]at ha|-;rw[<-e];exact ha
  obtain⟨c2,e2,h2,h3⟩:=hx ha';refine⟨c,fun _=>⟨c2,e2,fun c' hc'=>h2 c' (by rw[<-e];exact hc'),h3⟩,.inr (tH.dH _ fun j hj=>?_)⟩;obtain rfl:=fo.1 e2;rw[h3 j hj];exact hM i hi
 case op.op i t p i' t' p'=>
  have hp:i=i'/\t=t'/\p=[]/\p'=[]:=by
   cases p with
   |cons=>cases p'<;>simp[vo]at hs
   |nil=>cases p' with|cons=>simp[vo]at hs|nil=>simpa[vo]using hs
  obtain⟨rfl,rfl,rfl,rfl⟩:=hp;have hi:i<aL:=hok.1;have hne:fO h'' i≠none:=fun e=>by simp[iw,e]at ha
  have e:=hlow i hi hne;have ha':iw h' (.op i t [])=true:=by simp only[iw]at ha|-;rw[<-e];exact ha
  have h2:=hx ha';obtain rfl:=fo.1 (h2);exact⟨_,fun _=>rfl,.inr ⟨i,hM i hi,rfl⟩⟩
 case gn.gn=>simp[iw]at ha
theorem GY(hlow:∀i,i<aL->fO h'' i≠none->fO h'' i=fO h' i)(hM:∀i,i<aL->M i i){hz:H2}:∀(g0 g:V)(cs:List C),zV g0 g=true->eV aL hz g0->LQ h' g cs->∃cs',LQ h'' g0 cs'/\OV M cs' cs:=by
 intro g0;induction g0 with
 |ni=>intro g cs hs _ hg;cases g<;>simp[zV]at hs;obtain rfl:=hg;exact⟨[],rfl,rfl⟩
 |co x0 y0 _ ih=>intro g cs hs hk hg;cases g with|co x y=>simp[zV,ak]at hs;obtain⟨c,m,rfl,h1,h2⟩:=hg;obtain⟨c',h3,h4⟩:=Ew hlow hM hs.1 hk.1 h1;obtain⟨cs',h5,h6⟩:=ih y m hs.2 hk.2 h2;exact⟨c'::cs',⟨c',cs',rfl,h3,h5⟩,c,m,h4,h6,rfl⟩|_=>simp[zV]at hs
 |_=>intro g cs hs;cases g<;>simp[zV]at hs
theorem Un{b:Nat}{a r:JV}{l:List V}{x0 y0 v':V}{r':List V}(h:jb b (.co a r) true l (.co x0 y0)=some (v',r')):∃v l1 w,jb b a false l x0=some (v,l1)/\jb b r true l1 y0=some (w,r')/\v'=.co v w:=by
 simp[jb]at h
 grind
theorem CE(cx:Cx h' h'' aL n'' mf M)(hlow:∀i,i<aL->fO h'' i≠none->fO h'' i=fO h' i)(hM:∀i,i<aL->M i i){hz:H2}(dR:∀v,eV aL hz v->eV n'' h'' v):∀(gs:JV)(g0 g:V)(m:List Bd)(l:List V)(m1:List Bd)(rest:List V)(g':V)(r':List V)(cs:List C),
  s_ h' gs g0 g m=some (l,m1)->(∀b∈m1,b∈mf)->eV aL hz g0->LQ h' g cs->eV n' h' g->jb aL gs true (l++rest) g0=some (g',r')->r'=rest/\eV n'' h'' g'/\∃cs',LQ h'' g' cs'/\OV M cs' cs:=by
 intro gs;induction gs with
 |sm=>intro g0 g m l m1 rest g' r' cs hc hm hk0 hg hk hs;simp only[s_]at hc;obtain⟨hsm,hc⟩:=aJ hc;obtain⟨rfl,_⟩:=af (aa hc);obtain⟨rfl,rfl⟩:=af (aa hs);exact⟨rfl,dR _ hk0,GY hlow hM g0 g cs hsm hk0 hg⟩
 |ni=>intro g0 g m l m1 rest g' r' cs hc hm hk0 hg hk hs;cases g0<;>cases g<;>simp[s_]at hc;obtain⟨rfl,_⟩:=hc;simp only[jb,cz]at hs;obtain⟨rfl,rfl⟩:=af (aa hs);obtain rfl:=hg;exact⟨rfl,trivial,[],rfl,rfl⟩
 |co a r _ ih=>
  intro g0 g m l m1 rest g' r' cs hc hm hk0 hg hk hs;cases g0 with
  |co x0 y0=>
   cases g with
   |co x y=>
    obtain⟨c,cs,rfl,hx,hg⟩:=hg;obtain⟨v,l1,w,e1,e2,rfl⟩:=Un hs
    have GA:(bif iw h' x then(match de a false x m with|some (l,m)=>(match s_ h' r y0 y m with|some (l',m)=>some (l++l',m)|none=>none)|none=>none)else none)=some (l,m1)->r'=rest/\eV n'' h'' (.co v w)/\∃cs',LQ h'' (.co v w) cs'/\OV M cs' (c::cs):=by
     intro hc;obtain⟨ha,hc⟩:=aJ hc;split at hc
     .rename_i l2 m2 h1;split at hc
      .rename_i l3 m3 h2;obtain⟨rfl,rfl⟩:=af (aa hc);rw[aM]at e1;obtain⟨rfl,g1,_,_,cs1,g2,g3⟩:=uY cx a false x m l2 m2 _ x0 v l1 [c] h1 (fun b hb=>hm b ((yn _ _ _ _ _ _ h2).1 b hb)) (hx ha) hk.1 e1;obtain⟨rfl,k1,cs2,k2,k3⟩:=ih _ _ _ _ _ _ _ _ _ h2 hm hk0.2 hg hk.2 e2
       match cs1,g3 with
       |[],g3=>exact absurd (show[c]=[]from g3) (by simp)
       |c1::t,g3=>obtain⟨d,r2,q1,q2,q3⟩:=g3;obtain⟨rfl,rfl⟩:=cj q3;cases t with|nil=>exact⟨rfl,⟨g1,k1⟩,c1::cs2,⟨c1,cs2,rfl,fun _=>g2,k2⟩,c,cs,.inr q1,k3,rfl⟩|cons=>obtain⟨_,_,_,_,e⟩:=q2;simp at e
      .simp at hc
     .simp at hc
    cases a with|sm=>obtain⟨hsm,hc⟩:=aJ (hc);simp only[jb]at e1;obtain⟨rfl,rfl⟩:=af (aa e1);obtain⟨rfl,k1,cs2,k2,k3⟩:=ih _ _ _ _ _ _ _ _ _ hc hm hk0.2 hg hk.2 e2;obtain⟨c',h3,h4⟩:=Ew (M:=M) hlow hM hsm hk0.1 hx;exact⟨rfl,⟨dR _ hk0.1,k1⟩,c'::cs2,⟨c',cs2,rfl,h3,k2⟩,c,cs,h4,k3,rfl⟩|gn=>simp only[jb]at e1;obtain⟨rfl,rfl⟩:=af (aa e1);obtain⟨rfl,k1,cs2,k2,k3⟩:=ih _ _ _ _ _ _ _ _ _ hc hm hk0.2 hg hk.2 e2;exact⟨rfl,⟨trivial,k1⟩,ui::cs2,⟨ui,cs2,rfl,fun h=>by simp[iw]at h,k2⟩,c,cs,.inl rfl,k3,rfl⟩|_=>exact GA hc
   |_=>simp[s_]at hc
  |_=>simp[s_]at hc
 |_=>intro g0 g m l m1 rest g' r' cs hc;simp[s_]at hc
end
def Jc(aL:Nat):Ob->Prop
 |.box cs=>∀i∈eT.nq cs,i<aL
 |.nst _ sl=>∀(k i len:Nat),sl[k]?=some (k8.dQ i len)->i<aL
 |_=>True
theorem P1{h:H2}{o:O}{aL:Nat}{b:Option Ob}{F:Option Ob}(ho:xx h o b)(hk:D1 aL h o)(hF:(∀x,b=some x->Jc aL x->F=b)/\(b=none->F=none)):∀g,xx g o b->xx g o F:=by
 intro g hg
 have dH:(b=none\/∃x,b=some x/\Jc aL x)->xx g o F:=by
  grind
 cases o with
 |ar t s v=>cases s with|nil=>exact⟨hg.1,hg.2.1,fun l e=>by cases e⟩|mk l=>exact dH (.inr ⟨_,ho.2.2 l rfl,trivial⟩)
 |im t s v=>cases s with|nil=>exact⟨hg.1,hg.2.1,fun l e=>by cases e⟩|mk l=>exact dH (.inr ⟨_,ho.2.2 l rfl,trivial⟩)
 |bx t c=>obtain⟨cs,h1,h2,_⟩:=ho;exact dH (.inr ⟨_,h1,fun i hi=>(Gg h2 hk i hi).1⟩)
 |ib t v=>exact dH (.inr ⟨_,ho.2,trivial⟩)
 |rw t s ln=>cases s with|nil=>exact⟨hg.1,hg.2.1,fun l e=>by cases e⟩|mk l=>refine dH (.inr ⟨_,ho.2.2 l rfl,fun k i len h=>?_⟩);obtain⟨m,rfl⟩:=zR h;exact hk.2.1
 |mp k v m=>exact dH (.inr ⟨_,ho.2.2,trivial⟩)
open Classical in
theorem PJ{s1:St}{aL n'':Nat}{mf:List Bd}{e':jk}{h':bp}{g':List C}(hi:CJ mf)(hn:∀b∈mf,aL+b.j<n'')(hbn:aL<=n'')
  (he:∀t x',bV e' t=some x'->∃x,bV s1.cW t=some x/\Gt (fun i j=>(i=j/\j<aL)\/∃b∈mf,b.id=some j/\i=aL+b.j) x' x)
  (hh:∀i o',au h' i=some o'->∃j o,((i=j/\j<aL)\/∃b∈mf,b.id=some j/\i=aL+b.j)/\au s1.heap j=some o/\Q1 (fun i j=>(i=j/\j<aL)\/∃b∈mf,b.id=some j/\i=aL+b.j) o' o/\∀b∈mf,b.id=some j->i=aL+b.j)
  (hg:OV (fun i j=>(i=j/\j<aL)\/∃b∈mf,b.id=some j/\i=aL+b.j) g' s1.gh):Sub s1 ⟨e',h',n'',g'⟩:=by
 intro S K w0 Kn φ gv nt a w hR;let Kn':Nat->Prop:=fun i=>(i<aL/\Kn i)\/∃b∈mf,i=aL+b.j/\∃id,b.id=some id/\Kn id;let φ':Nat->gj:=fun i=>if i<aL then φ i else match OI mf (i-aL)with|some ⟨_,some id⟩=>φ id|_=>default
 have hbd:∀b∈mf,OI mf (aL+b.j-aL)=some b:=by intro b hb;rw[Nat.add_sub_cancel_left];cases h:OI mf b.j with|none=>exact absurd rfl (Gk h b hb)|some c=>obtain⟨h1,h2⟩:=A7 h;rw[(hi c h1 b hb).1 h2]
 have hM:∀i j,((i=j/\j<aL)\/∃b∈mf,b.id=some j/\i=aL+b.j)->Kn j->Kn' i/\φ' i=φ j:=by
  rintro i j (⟨rfl,hlt⟩|⟨b,hb,hid,rfl⟩) hk
  .grind
  .refine ⟨.inr ⟨b,hb,rfl,j,hid,hk⟩,?_⟩;show(if aL+b.j<aL then _ else _)=_;rw[if_neg (by omega),hbd b hb];obtain⟨bj,bid⟩:=b;simp_all
 have hun:∀i j i0,((i=i0/\i0<aL)\/∃b∈mf,b.id=some i0/\i=aL+b.j)->(∀b∈mf,b.id=some i0->i=aL+b.j)->((j=i0/\i0<aL)\/∃b∈mf,b.id=some i0/\j=aL+b.j)->(∀b∈mf,b.id=some i0->j=aL+b.j)->i=j:=by
  grind
 refine⟨S,Kn',φ',gy.refl S w,⟨hR.inv.uH,hR.inv.sk,hR.inv.oe,fun i o ho=>?_,fun i j x y hx hy ox oy hne=>?_,hR.inv.Bz,?_⟩,fun t x hx=>?_,hR.size,hR.defers,fun j hj hk=>?_,fun i c v hc hv=>?_⟩
 .obtain ⟨j,o0,hij,ho0,htr,_⟩:=hh i o ho;obtain⟨hk,hro⟩:=hR.inv.iI j o0 ho0;obtain⟨hk',e⟩:=hM i j hij hk;refine⟨hk',?_⟩;rw[e];rcases htr with⟨rfl,hnb⟩|⟨a',c',rfl,rfl,htl⟩
  .cases hro with
   |nst hsz hl hS hK hown hext hfit hr hv=>
    refine .nst hsz hl hS hK hown hext hfit (fun q s hs=>?_) hv;obtain⟨v,h1,h2⟩:=hr q s hs;refine⟨v,h1,?_⟩;cases h2 with
    |nil=>exact .nil
    |bk h3 h4 h5=>exact .bk h3 h4 h5
    |dQ h3=>exact .dQ (tH.rc hM _ _ v (tH.dH _ fun q' hq'=>by
      obtain rfl:q'=_:=by simpa[eT]using hq'
      exact hnb.2 _ _ _ hs) h3)
   |aG hsz hl hS hK hown hext hfit hr hv=>exact .aG hsz hl hS hK hown hext hfit hr hv
   |qu hsz hl hS hr=>exact .qu hsz hl hS hr
   |o7 hb hS hr=>exact .o7 hb hS hr
   |box=>exact absurd rfl (hnb.1 _)
   |map hS hK hmp hlen hr=>exact .map hS hK hmp hlen hr
   |cap hsz hl hS hK hown hext hfit hr hv hc=>exact .cap hsz hl hS hK hown hext hfit hr hv hc
  .cases hro with|box hb hS hK hown hlen hr=>exact .box hb hS hK hown ((pm.len htl).trans hlen) (pm.rc hM a' c' _ htl hr)
 .obtain ⟨i0,x0,hi0,hx0,htx,huq⟩:=hh i x hx;obtain⟨j0,y0,hj0,hy0,hty,huq2⟩:=hh j y hy
  have hox:cA x0=true:=by
   rcases htx with⟨rfl,_⟩|⟨a',c',rfl,rfl,_⟩
   .exact ox
   .rfl
  have hoy:cA y0=true:=by
   rcases hty with⟨rfl,_⟩|⟨a',c',rfl,rfl,_⟩
   .exact oy
   .rfl
  rw[(hM i i0 hi0 (hR.inv.iI i0 x0 hx0).1).2,(hM j j0 hj0 (hR.inv.iI j0 y0 hy0).1).2];refine hR.inv.ph i0 j0 x0 y0 hx0 hy0 hox hoy fun e=>hne ?_
  grind
 .intro i sz sl k x hi hp;obtain⟨i0,x0,hi0,hx0,htx,huq⟩:=hh i _ hi;rcases htx with⟨rfl,_⟩|⟨a',c',e,_⟩
  case inr=>cases e
  rw[(hM i i0 hi0 (hR.inv.iI i0 _ hx0).1).2]at hp;obtain⟨p1,p2⟩:=hR.inv.yB i0 sz sl k x hx0 hp;refine⟨fun j b hj hb=>?_,fun j sz' sl' k' hj hp'=>?_⟩
  .obtain ⟨j0,y0,hj0,hy0,hty,_⟩:=hh j b hj
   have hoy:cA y0=true:=by
    rcases hty with⟨rfl,_⟩|⟨a',c',rfl,rfl,_⟩
    .exact hb
    .rfl
   rw[(hM j j0 hj0 (hR.inv.iI j0 y0 hy0).1).2];exact p1 j0 y0 hy0 hoy
  .obtain ⟨j0,y0,hj0,hy0,hty,huq2⟩:=hh j _ hj;rcases hty with⟨rfl,_⟩|⟨a',c',e,_⟩
   case inr=>cases e
   rw[(hM j j0 hj0 (hR.inv.iI j0 _ hy0).1).2]at hp'
   grind
 .obtain ⟨x0,h1,h2⟩:=he t x hx;exact Gt.rc hM x x0 _ h2 (hR.cW t x0 h1)
 .grind
 .rcases hg.get i c hc with e|⟨d,h1,h2⟩
  .exact .inl e
  .rcases hR.gh i d v h1 hv with rfl|hr
   .left;cases c with
    |pJ f l=>obtain⟨m,h3,h4⟩:=h2;simp only[ui,C.pJ.injEq]at h4;obtain⟨rfl,rfl⟩:=h4;cases l with|nil=>rfl|cons x l=>obtain⟨_,_,_,_,e⟩:=h3;simp at e
    |d x=>exact absurd (show ui=C.d x from h2) (by simp[ui])
    |_=>obtain⟨_,_,e⟩:=h2;simp[ui]at e
   .exact .inr (tH.rc hM c d v h2 hr)
theorem FS{α:Type}{l:List (Nat×α)}{t:Nat}(h:∀p∈l,p.1≠t):bV l t=none:=by cases hx:bV l t with|none=>rfl|some x=>exact absurd rfl (h _ (zu hx))
theorem S_{ds:List Nat}{t:Nat}:bV (ds.map fun t=>(t,V.gn)) t=if t∈ds then some .gn else none:=by induction ds with|nil=>rfl|cons d ds ih=>grind [bV]
theorem U7{kl:List Nat}{h:H2}{i:Nat}:fO (kl.map (fun i=>(i,none))++h) i=if i∈kl then none else fO h i:=by induction kl with|nil=>rfl|cons k kl ih=>grind [cK]
open Classical in
theorem TG{j:J}{ds w:List Nat}{s1 s1':St}{s0 s' s'':S2}{l:List V}(hr0:R2 s1 s0)(hr:R2 s1' s')(hf:zA ds w s1 s1' s0 s')(hw:∀i∈w,s0.next<=i\/i∈j.kl)(hc:CD j s0 s'=some l)(hs:vN j ds s0 l=some s''):
  ∃s1'' w',Sub s1' s1''/\R2 s1'' s''/\s''.wo=w'++s0.wo/\zA ds w' s1 s1'' s0 s''/\∀i∈w',s0.next<=i\/i∈j.kl:=by
 unfold CD at hc;split at hc
 case h_2=>simp at hc
 rename_i l1 m1 hvs;split at hc
 case h_2=>simp at hc
 rename_i l2 m2 hgs;split at hc
 case h_2=>simp at hc
 rename_i l3 mf hos;obtain⟨hchk,hc⟩:=aJ hc;obtain rfl:=aa hc;simp only[ak,bg]at hchk;obtain⟨_,hbm⟩:=hchk;unfold vN at hs;split at hs
 case h_2=>simp at hs
 rename_i e r1 hev;split at hs
 case h_2=>simp at hs
 rename_i g' r2 hgv;split at hs
 case h_2=>simp at hs
 rename_i hl r3 hov;obtain rfl:=aa hs
 -- the bindings
 have hm12:=(yn _ _ _ _ _ _ hgs).1;have hm2f:=(v_ _ _ _ _ _ hos).1;have hinj:CJ mf:=(v_ _ _ _ _ _ hos).2 ((yn _ _ _ _ _ _ hgs).2 ((A3 _ _ _ _ hvs).2 (fun b hb=>by simp at hb)));have hbj:∀b∈mf,s0.next+b.j<s0.next+j.os.length:=fun b hb=>by simp_all
 have hbid:∀b∈mf,∀i,b.id=some i->s0.next<=i\/i∈j.kl:=fun b hb i hid=>by
  grind [Nat.ble_eq]
 -- what is left of the rows
 have hx0:=Y6 (h':=s'.heap) hbj;obtain⟨rfl,_⟩:=A0 hr hx0 j.vs [] l1 m1 (l2++l3) e r1 hvs (fun b hb=>hm2f b (hm12 b hb)) hev;have hle:s0.next<=s0.next+j.os.length:=iR _ _;have hst0:jy s0.next s0.heap []:=⟨fun i o _ ho=>by simp[fO,bV]at ho⟩
 have hrg:r2=l3:=(CE (n':=s'.next) (hz:=s0.heap) hx0 (fun i _ h=>absurd rfl h) (fun _ _=>trivial) (fun v hv=>gI hle hst0 hv) j.gs s0.gh s'.gh m1 l2 m2 l3 g' r2 s1'.gh hgs hm2f hr0.gh.2 hr.gh.1 hr.gh.2 hgv).1;subst hrg;obtain⟨hap,hge⟩:=Ii hr.hr hbj j.os 0 m2 r2 mf [] hl r3 hos (fun b hb=>hb) (by rw[List.append_nil];exact hov);clear hx0
 -- the heap
 generalize hh2:hl++j.kl.map (fun i=>(i,none))++s0.heap=h''
 have hfo:∀i,fO h'' i=match bV hl i with|some o=>o|none=>if i∈j.kl then none else fO s0.heap i:=fun i=>by
  rw[<-hh2,aM];have:fO (hl++(j.kl.map (fun i=>(i,none))++s0.heap)) i=match bV hl i with|some o=>o|none=>fO (j.kl.map (fun i=>(i,none))++s0.heap) i:=by simp only[fO,gN hl];cases bV hl i<;>rfl
  rw[this,U7]
 have hhl:∀i,i<s0.next->bV hl i=none:=fun i hi=>FS fun p hp e=>by have:=hge p hp;omega
 have hfl:∀i,i<s0.next->fO h'' i=if i∈j.kl then none else fO s0.heap i:=fun i hi=>by rw[hfo,hhl i hi]
 have hwk:∀i,i<s0.next->i∉j.kl->i∉w:=fun i hi hk hm=>by
  grind
 have dR:jy s0.next s0.heap h'':=⟨fun i o hi ho=>by
  grind [tC.refl]⟩
 have hnb:∀i,i<s0.next->fO s0.heap i=none->fO h'' i=none:=fun i hi h=>by simp_all
 have hlow:∀i,i<s0.next->fO h'' i≠none->fO h'' i=fO s'.heap i:=fun i hi h=>by
  rw[hfl i hi]at h|-;split at h
  .exact absurd rfl h
  .rename_i hk;rw[if_neg hk,(hf.ob i hi (hwk i hi hk)).1]
 generalize hMd:(fun(i j:Nat)=>(i=j/\j<s0.next)\/∃b∈mf,b.id=some j/\i=s0.next+b.j)=M;have hM1:∀i,i<s0.next->M i i:=fun i hi=>by rw[<-hMd];exact .inl ⟨rfl,hi⟩
 have hnew:∀b∈mf,∀o,fO h'' (s0.next+b.j)=some o->AP s'.heap s0.next mf b o:=fun b hb o ho=>by
  rw[hfo]at ho;split at ho
  .rename_i o' hx;obtain⟨o2,rfl,b2,hb2,e2,ha⟩:=hap _ _ hx;obtain rfl:=aa ho;rw[(hinj b hb b2 hb2).1 (by omega)];exact ha
  .split at ho
   .simp at ho
   .have:=(hr0.hr.ob _ _ ho).1;omega
 have cx:Cx s'.heap h'' s0.next (s0.next+j.os.length) mf M:=by
  refine⟨fun b hb i hid=>by grind,hbj,fun b hb i hid c' hc'=>?_,fun b hb i hid c' hc'=>?_,fun b hb hid c' hc'=>?_⟩
  .cases ho:fO h'' (s0.next+b.j)with
   |none=>rw[ho]at hc';simp[BU]at hc'
   |some o=>
    rw[ho]at hc';have ha:=hnew b hb o ho;cases o with
    |ar t s v=>
     obtain⟨_,⟨h1,_⟩|⟨id,ver,h1,h2⟩⟩:=ha
     .rw [hid]at h1;cases h1
     .rw [hid]at h1;obtain rfl:=aa h1;exact⟨t,s,(aa hc').symm,mV (.inl h2)⟩
    |im=>exact ha.elim
    |_=>simp[BU]at hc'
  .cases ho:fO h'' (s0.next+b.j)with
   |none=>rw[ho]at hc';simp[GO]at hc'
   |some o=>rw[ho]at hc';have ha:=hnew b hb o ho;cases o with|rw t s ln=>obtain⟨_,id,h1,h2⟩:=ha;rw[hid]at h1;obtain rfl:=aa h1;exact⟨t,s,(aa hc').symm,tT h2⟩|_=>simp[GO]at hc'
  .cases ho:fO h'' (s0.next+b.j)with
   |none=>rw[ho]at hc';simp[BU]at hc'
   |some o=>
    rw[ho]at hc';have ha:=hnew b hb o ho;cases o with
    |ar t s v=>
     obtain⟨_,⟨_,rfl,_⟩|⟨id,ver,h1,_⟩⟩:=ha
     .rw [<-aa hc'];rfl
     .rw [hid]at h1;cases h1
    |im=>exact ha.elim
    |_=>simp[BU]at hc'
 have hkv:∀v,eV s0.next s0.heap v->eV (s0.next+j.os.length) h'' v:=fun v hv=>gI hle dR hv;obtain⟨_,hE0⟩:=A0 hr cx j.vs [] l1 m1 (l2++r2) e (l2++r2) hvs (fun b hb=>hm2f b (hm12 b hb)) hev;obtain⟨_,hgk,cs',hgR,hgT⟩:=CE (n':=s'.next) cx hlow hM1 hkv j.gs s0.gh s'.gh m1 l2 m2 r2 g' r2 s1'.gh hgs hm2f hr0.gh.2 hr.gh.1 hr.gh.2 hgv
 -- the abstract machine's objects
 have hob0:∀i,∃ob,∀o,bV hl i=some (some o)->xx h'' o ob/\D1 (s0.next+j.os.length) h'' o/\∀o1,ob=some o1->∃b∈mf,i=s0.next+b.j/\∃id o0,b.id=some id/\au s1'.heap id=some o0/\Q1 M o1 o0:=by
  intro i;cases hx:bV hl i with
  |none=>exact⟨none,fun o h=>by cases h⟩
  |some o'=>
   obtain⟨o,rfl,b,hb,e2,ha⟩:=hap i o' hx;obtain⟨ob,g1,g2,g3⟩:=Vs hr.hr cx ha;refine⟨ob,fun o2 h=>?_⟩
   grind
 obtain⟨fob,hfob⟩:∃f:Nat->Option Ob,∀i o,bV hl i=some (some o)->xx h'' o (f i)/\D1 (s0.next+j.os.length) h'' o/\∀o1,f i=some o1->∃b∈mf,i=s0.next+b.j/\∃id o0,b.id=some id/\au s1'.heap id=some o0/\Q1 M o1 o0:=⟨fun i=>mg (hob0 i),fun i=>gK (hob0 i)⟩
 have hF:∃H:bp,∀i,au H i=match bV hl i with
   |some _=>fob i
   |none=>if i<s0.next/\i∉j.kl then(match au s1'.heap i with|some o=>if Jc s0.next o then some o else none|none=>none)else none:=by
  refine Qk _ (hl.map (·.1)++s1'.heap.map (·.1)) fun i hi=>?_;cases hx:bV hl i with|some o=>exact aU _ (DC (by rw[hx];simp))|none=>rw[hx]at hi;refine aX _ (Nj fun e=>hi ?_);simp only[e,ite_self]
 obtain⟨H,hH⟩:=hF;have hHn:∀i o,bV hl i=some (some o)->au H i=fob i:=fun i o h=>by rw[hH i,h]
 have hHl:∀i,i<s0.next->i∉j.kl->(∀x,au s1'.heap i=some x->Jc s0.next x->au H i=au s1'.heap i)/\(au s1'.heap i=none->au H i=none):=fun i hi hk=>by rw[hH i,hhl i hi];simp only[hi,hk,not_false_eq_true,and_self,if_true];refine⟨fun x hx hlo=>by rw[hx];simp only[hlo,if_true],fun hx=>by rw[hx]⟩
 have hHR:∀i,i<s0.next->i∉j.kl->∀o,fO s0.heap i=some o->∀g,xx g o (au s1.heap i)->xx g o (au H i):=fun i hi hk o ho g hg=>by have h1:=(hf.ob i hi (hwk i hi hk)).2 o ho;obtain⟨_,h2,h3⟩:=hr0.hr.ob i o ho;exact P1 (h1 _ h2) h3 (hHl i hi hk) g (h1 g hg)
 -- its temporaries
 have hE1:∀t,∃x',∀v,bV e t=some v->eV (s0.next+j.os.length) h'' v/\fC h'' v x'/\∃x,bV s1'.cW t=some x/\Gt M x' x/\∀l,x'≠.gX l:=by
  intro t;cases hx:bV e t with
  |none=>exact⟨.gX [],fun v h=>by cases h⟩
  |some v=>
   obtain⟨h1,x,x',h2,h3,h4,h5⟩:=hE0 t v hx;refine⟨x',fun v2 h=>?_⟩
   grind
 obtain⟨fe,hfe⟩:∃f:Nat->TV,∀t v,bV e t=some v->eV (s0.next+j.os.length) h'' v/\fC h'' v (f t)/\∃x,bV s1'.cW t=some x/\Gt M (f t) x/\∀l,f t≠.gX l:=⟨fun t=>mg (hE1 t),fun t=>gK (hE1 t)⟩
 have hG:∃E:jk,∀t,bV E t=match bV e t with
   |some _=>some (fe t)
   |none=>(match bV s1'.cW t with|some x=>if∀i∈mD x,i<s0.next then some x else none|none=>none):=by
  refine L7 _ (e.map (·.1)++s1'.cW.map (·.1)) fun t ht=>?_
  grind [bV,aU,DC,aX]
 obtain⟨E,hE⟩:=hG;have hEn:∀t v,bV e t=some v->bV E t=some (fe t):=fun t v h=>by rw[hE t,h]
 have hEl:∀t x,bV e t=none->bV s1'.cW t=some x->(∀i∈mD x,i<s0.next)->bV E t=some x:=fun t x h1 h2 h3=>by rw[hE t,h1,h2];exact if_pos h3
 have hsub:Sub s1' ⟨E,H,s0.next+j.os.length,cs'⟩:=by
  refine PJ (aL:=s0.next) hinj hbj hle (fun t x' hx=>?_) (fun i o' ho=>?_) (by rw[hMd];exact hgT)
  .rw [hMd];rw[hE t]at hx;split at hx
   .grind
   .split at hx
    .rename_i x hx1;split at hx
     .rename_i hlo;obtain rfl:=aa hx;exact⟨x,hx1,Gt.dH x fun i hi=>hM1 i (hlo i hi)⟩
     .simp at hx
    .simp at hx
  .rw [hMd];cases hx:bV hl i with
   |some o2=>obtain⟨o,rfl,_⟩:=hap i o2 hx;rw[hHn i o hx]at ho;obtain⟨_,_,h3⟩:=hfob i o hx;obtain⟨b,hb,e2,id,o0,hid,h4,h5⟩:=h3 o' ho;refine⟨id,o0,.inr ⟨b,hb,hid,e2⟩,h4,h5,fun b2 hb2 hid2=>?_⟩;rw[(hinj b2 hb2 b hb).2 id hid2 hid];exact e2
   |none=>
    rw[hH i,hx]at ho;simp only at ho;split at ho
    .rename_i hik;split at ho
     .rename_i o hlo;split at ho
      .rename_i hlow1;obtain rfl:=aa ho;refine⟨i,o,.inl ⟨rfl,hik.1⟩,hlo,?_,fun b hb hid=>?_⟩
       .cases o with|box cs=>exact .inr ⟨cs,cs,rfl,rfl,pm.dH cs fun i hi=>hM1 i (hlow1 i hi)⟩|nst sz sl=>exact .inl ⟨rfl,by simp,fun k q len hk=>hM1 q (hlow1 k q len hk)⟩|_=>exact .inl ⟨rfl,by simp,trivial⟩
       grind
      .simp at ho
     .simp at ho
    .simp at ho
 refine⟨⟨E,H,s0.next+j.os.length,cs'⟩,hl.map (·.1)++j.kl,hsub,⟨fun t v ht=>?_,⟨fun i o ho=>?_⟩,am _,hgR,hgk⟩,rfl,⟨hle,dR,?_,fun i hi hi2=>?_,fun t x ht hx hk=>?_⟩,fun i hi=>?_⟩
 .have ht:bV (e++ds.map (fun t=>(t,V.gn))++s0.cW) t=some v:=ht;rw[aM,gN]at ht;cases hx:bV e t with
  |some v2=>rw[hx]at ht;obtain rfl:=aa ht;obtain⟨h1,h2,_⟩:=hfe t v2 hx;exact⟨h1,fun _=>⟨_,hEn t v2 hx,h2⟩⟩
  |none=>
   rw[hx]at ht;simp only at ht;rw[gN,S_]at ht;by_cases hds:t∈ds
   .rw [if_pos hds]at ht;obtain rfl:=aa ht;exact⟨trivial,fun h=>by rcases h with h|h<;>simp[iw]at h⟩
   .rw [if_neg hds]at ht;obtain⟨h1,h2⟩:=hr0.cW t v ht;refine⟨hkv v h1,fun ha=>?_⟩;obtain⟨x,h3,h4⟩:=h2 (ha.imp (xn dR hnb h1) fun q=>q);have h5:=wl dR h1 h4
    have hids:∀i∈mD x,i<s0.next/\i∉j.kl/\fO s0.heap i≠none:=fun i hi=>by
     rcases ha with ha|rfl
     .have i1:=(IC h4 h1 i hi).1;have i2:=(IC h5 (hkv v h1) i hi).2 ha;rw[hfl i i1]at i2;split at i2
      .exact absurd rfl i2
      .exact ⟨i1,by assumption,i2⟩
     .obtain rfl:x=.gX []:=h4;simp[mD,mD.By]at hi
    have h6:=hf.cW t x hds h3 fun i hi=>⟨(hids i hi).1,hwk i (hids i hi).1 (hids i hi).2.1,(hids i hi).2.2⟩
    grind
 .have ho:fO h'' i=some o:=ho;show i<s0.next+j.os.length/\xx h'' o (au H i)/\D1 (s0.next+j.os.length) h'' o;have ho2:=ho;rw[hfo i]at ho;split at ho
  .grind
  .split at ho
   .simp at ho
   .rename_i hk;obtain⟨h1,h2,h3⟩:=hr0.hr.ob i o ho;exact⟨by omega,hHR i h1 hk o ho _ (qg dR h3 h2),oY hle dR h3⟩
 .show cs'.length=_;rw[hgT.len];exact hf.gl
 .simp only[aC,not_or]at hi2;refine⟨?_,hHR i hi hi2.2⟩;show fO h'' i=_;rw[hfl i hi,if_neg hi2.2]
 .have h6:=hf.cW t x ht hx fun i hi=>by
   grind
  cases he:bV e t with
  |none=>grind
  |some v=>
   show bV E t=some x;rw[hEn t v he];obtain⟨_,_,x0,h3,h4,h5⟩:=hfe t v he;rw[h6]at h3;obtain rfl:=aa h3;refine congrArg some (Gt.ZP (fun i=>s0.next<=i\/i∈j.kl) (fun a b hab=>?_) h4 h5 fun i hi hB=>?_)
   .rw [<-hMd]at hab;rcases hab with⟨rfl,_⟩|⟨bb,hb,hid,_⟩
    .exact .inl rfl
    .exact .inr (hbid bb hb b hid)
   grind
 grind
end Go.Ev
