/- Code: what is evaluated is what the abstract machine does. Conditions: as stated. -/
import Derived.Test.YtpnnnoagjcpmhaaDoorKh
import Derived.Test.YtpnnnoagjcpmhaaDoorEvY
open Bool renaming and_eq_true->af,and_eq_true_iff->cJ,false_eq_true->aN
open List renaming all_cons->e9,all_eq_true->aV,append_nil->bi,cons_append->aO,drop_zero->cA,headD_cons->bH,length_append->aG,length_drop->fS,map_cons->aq,map_map->kc,map_nil->aS,mem_append->ak,mem_append_left->aE,mem_append_right->aC,mem_cons->aF,mem_cons_of_mem->aA,nil_append->bo,nil_sublist->iO
open List.Sublist renaming refl->bS
open Nat renaming beq->jy,ble->gm,eq_of_beq_eq_true->cZ,le_of_ble_eq_true->g_,le_refl->ao,le_trans->dD
open Option.some renaming inj->aa
open Prod.mk renaming inj->ad
namespace Go.Ev
theorem Al(j:J)(s0 s:S2):vg j s0 s=y7 j s0 (x8 j.vs s):=rfl
theorem Ak{j:J}{s1':St}{s0 s':S2}{l:List V}(hr:R2 s1' s')(hc:vg j s0 s'=some l):∀i∈s'.wo,s0.next<=i\/i∈j.kl:=by
 obtain⟨s1c,_,_,wc,hwc,_⟩:=yX j.vs s1' s' hr;rw[Al]at hc;unfold y7 at hc;split at hc
 case h_2=>simp at hc
 split at hc
 case h_2=>simp at hc
 split at hc
 case h_2=>simp at hc
 obtain⟨hchk,_⟩:=aK hc;simp only[af,aV]at hchk;intro i hi;have:=hchk.1 i (by rw[hwc];simp[hi]);simpa[Nat.ble_eq]using this
theorem qQ{j:J}{ds w:List Nat}{s1 s1':St}{s0 s' s'':S2}{l:List V}(hr0:R2 s1 s0)(hr:R2 s1' s')(hf:u5 ds w s1 s1' s0 s')(hw:∀i∈w,s0.next<=i\/i∈j.kl)(hc:vg j s0 s'=some l)(hs:sj j ds s0 l=some s''):
  ∃s1'' w',Sub s1' s1''/\R2 s1'' s''/\s''.wo=w'++s0.wo/\u5 ds w' s1 s1'' s0 s''/\∀i∈w',s0.next<=i\/i∈j.kl:=by
 obtain⟨s1c,hsub,hrc,wc,hwc,hfc⟩:=yX j.vs s1' s' hr;have hc2:=hc;rw[Al]at hc2
 have hwcc:∀i∈wc,s0.next<=i\/i∈j.kl:=by
  unfold y7 at hc2;split at hc2
  case h_2=>simp at hc2
  split at hc2
  case h_2=>simp at hc2
  split at hc2
  case h_2=>simp at hc2
  obtain⟨hchk,_⟩:=aK hc2;simp only[af,aV]at hchk;intro i hi;have:=hchk.1 i (by rw[hwc];simp[hi]);simpa[Nat.ble_eq]using this
 obtain⟨s1'',w',h1,h2,h3,h4,h5⟩:=OL (w:=wc++w) hr0 hrc (hf.trans (hfc.mono (fun t ht=>by simp at ht) fun i hi=>hi)) (fun i hi=>by
  rcases ak.1 hi with hi|hi
  .exact hwcc i hi
  .exact hw i hi) (by rw[<-Al];exact hc) hs
 exact⟨s1'',w',hsub.trans h1,h2,h3,h4,h5⟩
theorem Fa{β:Type}{s0 s':S2}{o:qo}{ds:List Nat}{k:qo->S2->Option β}{z:β}:∀(e:Ex)(x:CA e),GL s0 o s' e=some x->Im ds s0 k e x=some z->∃j∈e,∃l s'',vg j.2 s0 s'=some l/\sj j.2 ds s0 l=some s''/\k o s''=some z:=by
 have fin:∀(j:J)(p:oV (nX j))(l:List V),tU (nX j) l=some p->(match sj j ds s0 (mV (nX j) p)with|some s=>k o s|none=>none)=some z->∃s'',sj j ds s0 l=some s''/\k o s''=some z:=by
  intro j p l h1 h2;rw[od _ _ _ h1]at h2;split at h2
  .rename_i s'' hs;exact⟨s'',hs,h2⟩
  .simp at h2
 have key:∀(r:Ex)(o1:qo)(j:J)(x:CA.KF j r),Jm s0 o s' o1 j r=some x->NJ ds s0 k o1 j r x=some z->∃j'∈(o1,j)::r,∃l s'',vg j'.2 s0 s'=some l/\sj j'.2 ds s0 l=some s''/\k o s''=some z:=by
  intro r;induction r with
  |nil=>
   intro o1 j x hx hz;simp only[Jm]at hx;obtain⟨ho,hx2⟩:=aK hx;clear hx;obtain rfl:o=o1:=by simpa using ho
   split at hx2
   .rename_i l hl;obtain⟨s'',h1,h2⟩:=fin j x l hx2 hz;exact⟨(o,j),by simp,l,s'',hl,h1,h2⟩
   .simp at hx2
  |cons q r ih=>
   obtain⟨o2,j2⟩:=q;intro o1 j x hx hz;simp only[Jm]at hx;cases hd:decide (o=o1)with
   |true=>
    rw[hd,cond_true]at hx;obtain rfl:o=o1:=by simpa using hd
    split at hx
    .rename_i l hl;split at hx
     .rename_i p hp;obtain rfl:=aa hx;obtain⟨s'',h1,h2⟩:=fin j p l hp hz;exact⟨(o,j),by simp,l,s'',hl,h1,h2⟩
     .simp at hx
    .simp at hx
   |false=>
    rw[hd,cond_false]at hx;split at hx
    .rename_i y hy;obtain rfl:=aa hx;obtain⟨j',h1,h2⟩:=ih o2 j2 y hy hz;exact⟨j',aA _ h1,h2⟩
    .simp at hx
 intro e x hx hz;cases e with|nil=>exact nomatch x|cons q r=>exact key r q.1 q.2 x hx hz
def Pf{β:Type}(ds:List Nat)(s1:St)(s:S2)(k:qo->S2->Option β)(z:β)(o:qo)(s1':St):Prop:=wk (fun s1''=>∃s',R2 s1'' s'/\Fr ds s1 s1'' s s'/\k o s'=some z) s1'
theorem GX{P:Program}{tb:Cz}(htb:nV P tb)(hg:kg):∀(c:C2){β:Type}(s1:St)(s:S2)(k:qo->S2->Option β)(z:β),vf tb c s k=some z->R2 s1 s->W P (lM c) s1 (Pf (k9 c) s1 s k z):=by
 intro c;induction c with
 |skip=>intro β s1 s k z hz hr;exact wk.of (wk.of ⟨s,hr,Fr.refl,hz⟩)
 |exit id=>intro β s1 s k z hz hr;exact wk.of (wk.of ⟨s,hr,Fr.refl,hz⟩)
 |ret=>intro β s1 s k z hz hr;exact wk.of (wk.of ⟨s,hr,Fr.refl,hz⟩)
 |fr=>intro β s1 s k z hz hr;simp[vf]at hz
 |Lt ops dr jn=>
  intro β s1 s k z hz hr;cases jn with
  |none=>refine W.mono (fun o s1' h=>?_) (A_ (jn:=none) htb hg (show Fl tb ops dr s (fun s=>k .normal s)=some z by simpa only[vf]using hz) hr);obtain⟨rfl,s',h1,h2,h3⟩:=h;exact wk.of ⟨s',h1,h2,h3⟩
  |some j=>
   simp only[vf]at hz;obtain⟨p,hp,hz⟩:=oZ hz;refine W.mono (fun o s1' h=>?_) (A_ (jn:=some j) htb hg hp (hr.wo []));obtain⟨rfl,s',h1,⟨w,h2,h3⟩,h4⟩:=h;split at h4
   .rename_i l hl;rw[od _ _ _ h4]at hz;split at hz
    .rename_i s'' hs;have hf:u5 (ops.filterMap (·.o.dst)) w s1 s1' s s':=⟨h3.le,h3.dA,h3.gl,h3.ob,h3.db⟩
     obtain⟨s1'',w',g1,g2,g3,g4,_⟩:=qQ hr h1 hf (fun i hi=>Ak h1 hl i (by rw[h2];simp[hi])) hl hs;exact⟨s1'',g1,s'',g2,⟨w',g3,g4⟩,hz⟩
    .simp at hz
   .simp at h4
 |seq a b e iha ihb=>
  intro β s1 s k z hz hr;have go:∀(o:qo)(s1' s1'':St)(s':S2),Sub s1' s1''->R2 s1'' s'->Fr (k9 a) s1 s1'' s s'->(match o with|.normal=>vf tb b s' k|o=>k o s')=some z->rT (fun s'=>W P (lM b) s' (Pf (k9 (.seq a b e)) s1 s k z)) (Pf (k9 (.seq a b e)) s1 s k z) o s1':=by intro o s1' s1'' s' hsub h1 h2 h3;have hda:∀t∈k9 a,t∈k9 (.seq a b e):=fun t ht=>aE _ ht;have hdb:∀t∈k9 b,t∈k9 (.seq a b e):=fun t ht=>aC _ ht;cases o with|normal=>refine W.sub hsub (W.mono (fun o s2 h=>?_) (ihb s1'' s' k z h3 h1));exact wk.mono h fun _⟨s3,g1,g2,g3⟩=>⟨s3,g1,(h2.mono hda).trans (g2.mono hdb),g3⟩|exit id=>exact⟨s1'',hsub,s',h1,h2.mono hda,h3⟩|ret=>exact⟨s1'',hsub,s',h1,h2.mono hda,h3⟩
  cases e with
  |nil=>simp only[vf]at hz;refine ML (W.mono (fun o s1' h=>?_) (iha s1 s _ z hz hr));obtain⟨s1'',hsub,s',h1,h2,h3⟩:=h;exact go o s1' s1'' s' hsub h1 h2 h3
  |cons q r=>
   simp only[vf]at hz;obtain⟨x,hx,hz⟩:=oZ hz;refine ML (W.mono (fun o s1' h=>?_) (iha s1 {s with wo:=[]} _ x hx (hr.wo [])));obtain⟨s1'',hsub,s',h1,⟨w,h2,h3⟩,h4⟩:=h;obtain⟨j,_,l,s'',g1,g2,g3⟩:=Fa (q::r) x h4 hz;have hf:u5 (k9 a) w s1 s1'' s s':=⟨h3.le,h3.dA,h3.gl,h3.ob,h3.db⟩
   obtain⟨s2,w',k1,k2,k3,k4,_⟩:=qQ hr h1 hf (fun i hi=>Ak h1 g1 i (by rw[h2];simp[hi])) g1 g2;exact go o s1' s2 s'' (hsub.trans k1) k2 ⟨w',k3,k4⟩ g3
 |cond c a b iha ihb=>
  intro β s1 s k z hz hr;have hda:∀t∈k9 a,t∈k9 (.cond c a b):=fun t ht=>aE _ ht;have hdb:∀t∈k9 b,t∈k9 (.cond c a b):=fun t ht=>aC _ ht
  have go:∀t,jq s1.db c=some (tB t)->(bif t then vf tb a s k else vf tb b s k)=some z->W P (lM (.cond c a b)) s1 (Pf (k9 (.cond c a b)) s1 s k z):=by
   intro t hc hz;refine Nm (t:=t) hc (fun ht=>?_) fun ht=>?_
   .subst ht;exact W.mono (fun o s2 h=>wk.mono h fun _⟨s3,g1,g2,g3⟩=>⟨s3,g1,g2.mono hda,g3⟩) (iha s1 s k z hz hr)
   .subst ht;exact W.mono (fun o s2 h=>wk.mono h fun _⟨s3,g1,g2,g3⟩=>⟨s3,g1,g2.mono hdb,g3⟩) (ihb s1 s k z hz hr)
  simp only[vf]at hz;split at hz
  .rename_i t ht;obtain⟨x,h1,h2,_⟩:=mq hg hr ht;rw[tR h2]at h1;exact go t h1 hz
  .rename_i t ht;obtain⟨x,h1,h2,_⟩:=mq hg hr ht;rw[EF h2]at h1;exact go t h1 hz
  .simp at hz
 |block id a ih=>
  intro β s1 s k z hz hr;simp only[vf]at hz;refine K1 (W.mono (fun o s1' h=>?_) (ih s1 s _ z hz hr));cases o with
  |normal=>exact h
  |ret=>exact h
  |exit i=>
   simp only[tJ];obtain⟨s1'',hsub,s',h1,h2,h3⟩:=h;by_cases e:i=id
   .subst e;rw[if_pos rfl];simp only[beq_self_eq_true,cond_true]at h3;exact⟨s1'',hsub,s',h1,h2,h3⟩
   .rw [if_neg e];have e':(i==id)=false:=by simpa using e
    simp only[e',cond_false]at h3;exact⟨s1'',hsub,s',h1,h2,h3⟩
 |loop j e a ih=>
  intro β s1 s k z hz hr;simp only[vf]at hz;obtain⟨hkl,hz⟩:=aK hz;have hkl:∀x∈e,∀i∈j.kl,i∈x.2.kl:=fun x hx i hi=>by have:=aV.1 (aV.1 hkl x hx) i hi;simpa using this
  split at hz
  case h_2=>simp at hz
  rename_i l hl;split at hz
  case h_2=>simp at hz
  rename_i p0 hp0;obtain⟨x,hx,hz⟩:=oZ hz;obtain⟨n,hn⟩:=m6.1 hx;clear hx
  generalize hf:(fun(p:oV (nX j))=>(match sj j (k9 a) s (mV (nX j) p)with
     |some s1=>vf tb a {s1 with wo:=[]} fun o s'=>(match o with
      |.normal=>(match vg j s s' with|some l=>(match tU (nX j) l with|some q=>some (Sum.inl q)|none=>none)|none=>none)
      |o=>(match GL s o s' e with|some x=>some (Sum.inr x)|none=>none))
     |none=>none:Option (oV (nX j)⊕CA e)))=f at hn
  have hrs:∀n p,jo f n p=some x->∃s2,sj j (k9 a) s (mV (nX j) p)=some s2:=by
   intro n p h;cases n with
   |zero=>simp[jo]at h
   |succ n=>
    cases hq:sj j (k9 a) s (mV (nX j) p)with
    |some s2=>exact⟨s2,rfl⟩
    |none=>
     have:f p=none:=by rw[<-hf];simp only[hq]
     simp[jo,this]at h
  refine⟨fun n t=>∃p s2 w,jo f n p=some x/\sj j (k9 a) s (mV (nX j) p)=some s2/\R2 t s2/\u5 (k9 a) w s1 t s s2/\∀i∈w,s.next<=i\/i∈j.kl,n,?_,?_⟩
  .obtain ⟨s2,hs2⟩:=hrs n p0 hn;have hs3:=hs2;rw[od _ _ _ hp0]at hs3;obtain⟨s1'',w',g1,g2,_,g4,g5⟩:=qQ (w:=[]) hr (hr.wo []) ⟨ao _,ik.refl _ _,rfl,fun _ _ _=>⟨rfl,fun _ _ _ h=>h⟩,fun _ _ _ h _=>h⟩ (fun i hi=>by simp at hi) hl hs3;exact⟨s1'',g1,p0,s2,w',hn,hs2,g2,g4,g5⟩
  .rintro n t ⟨p,s2,w,h1,h2,h3,h4,h5⟩;cases n with
   |zero=>simp[jo]at h1
   |succ n=>
    have hfp:f p=vf tb a {s2 with wo:=[]} fun o s'=>(match o with
      |.normal=>(match vg j s s' with|some l=>(match tU (nX j) l with|some q=>some (Sum.inl q)|none=>none)|none=>none)
      |o=>(match GL s o s' e with|some x=>some (Sum.inr x)|none=>none)):=by
     rw[<-hf];simp only[h2]
    have hend:∀(o:qo)(t' t'':St)(s':S2)(y:CA e),o≠.normal->Sub t' t''->R2 t'' s'->Fr (k9 a) t t'' {s2 with wo:=[]} s'->GL s o s' e=some y->y=x->Pf (k9 a) s1 s k z o t':=by
     rintro o t' t'' s' y _ hsub r1 ⟨wb,e1,e2⟩ hy rfl;obtain⟨j',hj',l',s'',g1,g2,g3⟩:=Fa e y hy hz;have hfw:u5 (k9 a) (wb++w) s1 t'' s s':=h4.trans ⟨e2.le,e2.dA,e2.gl,e2.ob,e2.db⟩
     obtain⟨s3,w',k1,k2,k3,k4,_⟩:=qQ hr r1 hfw (fun i hi=>by
      rcases ak.1 hi with hi|hi
      .exact Ak r1 g1 i (by rw[e1];simp[hi])
      .exact (h5 i hi).imp id (hkl j' hj' i)) g1 g2
     exact⟨s3,hsub.trans k1,s'',k2,⟨w',k3,k4⟩,g3⟩
    simp only[jo]at h1;cases hr1:f p with
    |none=>simp[hr1]at h1
    |some r=>
     rw[hr1]at h1;rw[hfp]at hr1;refine W.mono (fun o t' hq=>?_) (ih t _ _ r hr1 (h3.wo []));obtain⟨t'',hsub,s',r1,r2,r3⟩:=hq;cases o with
     |normal=>
      simp only at r3;split at r3
      .rename_i l2 hl2;split at r3
       .rename_i q hq;obtain rfl:=aa r3;simp only at h1;obtain⟨wb,e1,e2⟩:=r2;obtain⟨s3,hs3⟩:=hrs n q h1;have hs4:=hs3;rw[od _ _ _ hq]at hs4;have hfw:u5 (k9 a) (wb++w) s1 t'' s s':=h4.trans ⟨e2.le,e2.dA,e2.gl,e2.ob,e2.db⟩
        obtain⟨t3,w',k1,k2,_,k4,k5⟩:=qQ hr r1 hfw (fun i hi=>by
         rcases ak.1 hi with hi|hi
         .exact Ak r1 hl2 i (by rw[e1];simp[hi])
         .exact h5 i hi) hl2 hs4
        exact⟨n,Nat.lt_succ_self n,t3,hsub.trans k1,q,s3,w',h1,hs3,k2,k4,k5⟩
       .simp at r3
      .simp at r3
     |exit id=>
      simp only at r3;split at r3
      .rename_i y hy;obtain rfl:=aa r3;exact hend (.exit id) t' t'' s' y (by simp) hsub r1 r2 hy (aa h1)
      .simp at r3
     |ret=>
      simp only at r3;split at r3
      .rename_i y hy;obtain rfl:=aa r3;exact hend .ret t' t'' s' y (by simp) hsub r1 r2 hy (aa h1)
      .simp at r3
section
variable{h:H2}{n:Nat}{h1:bz}
theorem Bg{id sz lo len:Nat}{aj:List (List D)}(ho:av h1 id=some (.aJ sz aj)\/av h1 id=some (.nL sz aj))(hl:lo+len<=aj.length)(szo:Nat):
  ∃t bn rd,(∀k,dZ h1 k (.dz szo id lo len)=some (t,bn,rd))/\qn t=.sl szo ((aj.drop lo).take len)/\bn.Sublist [id]/\(av h1 id=some (.aJ sz aj)->t=.sl szo ((aj.drop lo).take len)):=by
 by_cases ha:av h1 id=some (.aJ sz aj)
 .exact ⟨.sl szo ((aj.drop lo).take len),[id],[id],fun k=>by cases k<;>simp only[dZ,ha,if_pos hl],rfl,bS _,fun _=>rfl⟩
 .have hi:=ho.resolve_left ha;exact⟨.d (.sl szo ((aj.drop lo).take len)),[],[id],fun k=>by cases k<;>simp only[dZ,hi,if_pos hl],rfl,iO _,fun e=>absurd e ha⟩
theorem LB(hr:HR n h1 h){id ver:Nat}{t:Ty}{s:Sl (El t)}(ho:fO h id=some (.ar t s ver)\/fO h id=some (.im t s ver)):
  ∃q bn rd,(∀k,dZ h1 k (jm (bm t) (aM t) id s)=some (q,bn,rd))/\qn q=tV (bm t) (aM t) s/\bn.Sublist [id]:=by
 cases s with
 |nil=>exact⟨_,_,_,fun k=>sS k _,rfl,iO _⟩
 |mk l=>
  have hb:av h1 id=some (.aJ (bm t) (l.map (aM t)))\/av h1 id=some (.nL (bm t) (l.map (aM t))):=by
   rcases ho with ho|ho
   .exact .inl ((hr.ob id _ ho).2.1.2.2 l rfl)
   .exact .inr ((hr.ob id _ ho).2.1.2.2 l rfl)
  obtain⟨q,bn,rd,g1,g2,g3,_⟩:=Bg (lo:=0) (len:=(l.map (aM t)).length) hb (by omega) (bm t);rw[rm]at g2;exact⟨q,bn,rd,g1,g2,g3⟩
theorem Jy{t:Ty}(s:Sl (Sl (El t))):qn (vU t s)=tV 1 (aM (.sl t)) (s:Sl (El (.sl t))):=by cases s with|nil=>rfl|mk l=>simp only[vU,qn,tV,kc];congr 1;exact List.map_congr_left fun r _=>by cases r<;>rfl
theorem LC(hr:HR n h1 h){id:Nat}{t:Ty}{s:Sl (Sl (El t))}(ho:fO h id=some (.rw t s none)):
  ∃bn rd,(∀k,dZ h1 k (jm 1 (aM (.sl t)) id (s:Sl (El (.sl t))))=some (vU t s,bn,rd))/\bn.Sublist [id]:=by
 cases s with|nil=>exact⟨_,_,fun k=>sS k _,iO _⟩|mk l=>exact⟨_,_,fun k=>QW (k:=k) ((hr.ob id _ ho).2.1.2.2 l rfl),bS _⟩
theorem ES(hr:HR n h1 h){id ver lo:Nat}{t:Ty}{r:Sl (El t)}(hk:eA n h (.sb id ver lo t r))(ha:As h id ver=true):
  ∃q bn rd,(∀k,dZ h1 k (v7 id lo t r)=some (q,bn,rd))/\qn q=tV (bm t) (aM t) r/\bn.Sublist [id]/\((∃u s v,fO h id=some (.ar u s v))->q=xD (bm t) (aM t) r):=by
 obtain⟨u,s,ho⟩:=j9 ha;obtain⟨_,hc⟩:=hk.2 u s ver ho;obtain⟨hz,hc⟩:=hc rfl;cases r with
 |nil=>exact⟨_,_,_,fun k=>sS k _,rfl,iO _,fun _=>rfl⟩
 |mk m=>
  cases s with
  |nil=>exact hc.elim
  |mk l=>
   obtain⟨hl,he⟩:=hc
   have hb:av h1 id=some (.aJ (bm u) (l.map (aM u)))\/av h1 id=some (.nL (bm u) (l.map (aM u))):=by
    rcases ho with ho|ho
    .exact .inl ((hr.ob id _ ho).2.1.2.2 l rfl)
    .exact .inr ((hr.ob id _ ho).2.1.2.2 l rfl)
   obtain⟨q,bn,rd,g1,g2,g3,g4⟩:=Bg (lo:=lo) (len:=(m.map (aM t)).length) hb (by simpa using hl) (bm t);rw[show(m.map (aM t)).length=m.length by simp,he]at g2 g4;refine⟨q,bn,rd,fun k=>?_,g2,g3,?_⟩
   .have:=g1 k;simpa[v7]using this
   .rintro ⟨u',s',v',ho'⟩;rcases ho with ho|ho
    .exact g4 ((hr.ob id _ ho).2.1.2.2 l rfl)
    .rw [ho']at ho;simp at ho
theorem GF(ds:List D):(ds.map T.d).map qn=ds:=by induction ds with|nil=>rfl|cons d ds ih=>simp only[aq,qn,ih]
theorem JA(hr:HR n h1 h):∀(v w:V)(l:List Nat)(cs:List C),ie h v=some (w,l)->eD h v cs->eA n h v->gu h v=true->
  ∃ts bn rd,(∀k,cs.length<=k->gM h1 k cs=some (ts,bn,rd))/\eD h w ((ts.map qn).map .d)/\bn.Sublist l/\cs.length=ts.length/\qS w=qS v:=by
 have done:∀(v:V)(ds:List D),eD h v (ds.map .d)->∃ts bn rd,(∀k,(ds.map C.d).length<=k->gM h1 k (ds.map .d)=some (ts,bn,rd))/\eD h v ((ts.map qn).map .d)/\bn.Sublist ([]:List Nat)/\(ds.map C.d).length=ts.length/\qS v=qS v:=fun v ds hv=>⟨ds.map .d,[],[],fun k hk=>ou ds k (by simpa using hk),by rw[GF];exact hv,bS _,by simp,rfl⟩
 have one:∀(c:C)(q:T)(bn rd:List Nat),(∀k,dZ h1 k c=some (q,bn,rd))->∀k,[c].length<=k->gM h1 k [c]=some ([q],bn,rd):=fun c q bn rd hq k hk=>by
  obtain⟨k,rfl⟩:∃k',k=k'+1:=⟨k-1,by simp at hk;omega⟩
  exact sQ (hq k)
 intro v;induction v with
 |so id=>
  intro w l cs hf hv hk ha;simp only[ie]at hf;split at hf
  .rename_i t s l' hs;obtain⟨rfl,rfl⟩:=ad (aa hf);obtain⟨ver,ho,e⟩:=sg hs;have e:l'=[id]:=e;subst e;obtain⟨c,rfl,hc,_⟩:=hv;rw[hc _ (ki ho)];obtain⟨q,bn,rd,q1,q2,q3⟩:=LB hr ho;have hd:je t=true:=by rcases ho with ho|ho<;>exact(hr.ob id _ ho).2.1.1
   exact⟨[q],bn,rd,one _ q bn rd q1,⟨hd,by simp only[aq,aS,q2];rfl⟩,q3,rfl,rfl⟩
  .simp at hf
 |sr id=>
  intro w l cs hf hv hk ha;simp only[ie]at hf;split at hf
  .rename_i t s ho;obtain⟨rfl,rfl⟩:=ad (aa hf);obtain⟨c,rfl,hc,_⟩:=hv;rw[hc _ (qy ho)];obtain⟨bn,rd,q1,q3⟩:=LC hr ho;exact⟨[_],bn,rd,one _ _ bn rd q1,⟨(hr.ob id _ ho).2.1.1,by simp only[aq,aS,Jy];rfl⟩,q3,rfl,rfl⟩
  .simp at hf
 |sb id ver lo t r=>intro w l cs hf hv hk ha;simp only[ie,ry]at hf;obtain⟨rfl,rfl⟩:=ad (aa hf);obtain⟨hd,ha⟩:=cJ.1 ha;have ha:As h id ver=true:=ha;obtain⟨c,rfl,hc,_⟩:=hv;rw[hc ha];obtain⟨q,bn,rd,q1,q2,q3,_⟩:=ES hr hk ha;exact⟨[q],bn,rd,one _ q bn rd q1,⟨hd,by simp only[aq,aS,q2];rfl⟩,q3,rfl,rfl⟩
 |rc r ih=>
  intro w l cs hf hv hk ha;simp only[ie]at hf;split at hf
  .rename_i w' l' hw;obtain⟨rfl,rfl⟩:=ad (aa hf);obtain⟨ts,bn,rd,a1,a2,a3,a4,_⟩:=ih w' l' cs hw hv hk ha;exact⟨ts,bn,rd,a1,a2,a3,a4,rfl⟩
  .simp at hf
 |co a r iha ihr=>
  intro w l cs hf hv hk ha;simp only[ie]at hf;split at hf
  .rename_i x l1 y l2 hx hy;obtain⟨rfl,rfl⟩:=ad (aa hf);obtain⟨ca,cr,rfl,h2,h3⟩:=hv;simp only[gu,af]at ha;obtain⟨ts,bn,rd,a1,a2,a3,a4,_⟩:=iha x l1 ca hx h2 hk.1 ha.1;obtain⟨us,own2,rd2,b1,b2,b3,b4,_⟩:=ihr y l2 cr hy h3 hk.2 ha.2;refine⟨ts++us,bn++own2,rd++rd2,fun k hk=>?_,⟨_,_,by simp,a2,b2⟩,a3.append b3,by simp[a4,b4],rfl⟩;simp only[aG]at hk;exact sR (a1 k (by omega)) (b1 _ (by omega)) (by omega)
  .simp at hf
 |x t v=>intro w l cs hf hv hk ha;obtain⟨rfl,rfl⟩:=ad (aa hf);obtain⟨hd,rfl⟩:=hv;exact done _ _ ⟨hd,rfl⟩
 |kb c=>intro w l cs hf hv hk ha;obtain⟨rfl,rfl⟩:=ad (aa hf);obtain rfl:=hv;exact done (.kb c) [_] rfl
 |nl k=>intro w l cs hf hv hk ha;obtain⟨rfl,rfl⟩:=ad (aa hf);obtain rfl:=hv;exact done (.nl k) [_] rfl
 |fl q=>
  intro w l cs hf hv hk ha;obtain⟨rfl,rfl⟩:=ad (aa hf);obtain⟨hp,rfl⟩:=hv;have e:eJ q=(q.map D.lit).map C.d:=by simp[eJ]
  rw[e];exact done (.fl q) (q.map D.lit) ⟨hp,e.symm⟩
 |ni=>intro w l cs hf hv hk ha;obtain⟨rfl,rfl⟩:=ad (aa hf);obtain rfl:=hv;exact done .ni [] rfl
 |pt t v=>intro w l cs hf hv hk ha;obtain⟨rfl,rfl⟩:=ad (aa hf);obtain⟨hd,rfl⟩:=hv;exact done (.pt t v) [_] ⟨hd,rfl⟩
 |fn z f q ih=>intro w l cs hf hv hk ha;cases z with|true=>obtain⟨rfl,rfl⟩:=ad (aa hf);obtain⟨ds,hd,rfl⟩:=hv;exact done (.fn true f q) [_] ⟨ds,hd,rfl⟩|false=>simp[ie]at hf
 |_=>intro w l cs hf hv hk ha;simp[ie]at hf
def DR:Sh->Bool
 |.x _=>true
 |_=>false
theorem Kx:∀(c:Sh)(ln:Bool)(v:V)(l:List V)(i:List Nat),dH h c ln v=some (l,i)->l.length=(Ml c).length:=by
 intro c;induction c with
 |x t=>
  intro ln v l i ha;cases ln with
  |true=>simp[dH]at ha
  |false=>
   simp only[dH]at ha;split at ha
   .obtain ⟨rfl,_⟩:=ad (aa ha);rfl
   .simp at ha
 |os t=>
  intro ln v l i ha;cases ln with
  |true=>simp[dH]at ha
  |false=>
   cases v with
   |so id=>
    simp only[dH]at ha;split at ha
    .split at ha
     .obtain ⟨rfl,_⟩:=ad (aa ha);rfl
     .simp at ha
    .simp at ha
   |nl k=>cases k with|zero=>obtain⟨rfl,_⟩:=ad (aa ha);rfl|succ=>simp[dH]at ha
   |_=>simp[dH]at ha
 |rw t=>
  intro ln v l i ha;cases ln with
  |true=>simp[dH]at ha
  |false=>
   cases v with
   |sr id=>
    simp only[dH]at ha;split at ha
    .split at ha
     .obtain ⟨rfl,_⟩:=ad (aa ha);rfl
     .simp at ha
    .simp at ha
   |nl k=>cases k with|zero=>obtain⟨rfl,_⟩:=ad (aa ha);rfl|succ=>simp[dH]at ha
   |_=>simp[dH]at ha
 |pb t c ih=>
  intro ln v l i ha;cases ln with
  |true=>simp[dH]at ha
  |false=>
   cases v with
   |op id u p=>
    cases p with
    |cons=>simp[dH]at ha
    |nil=>
     simp only[dH]at ha;split at ha
     .obtain ⟨_,ha⟩:=aK ha;split at ha
      .rename_i hh;obtain⟨rfl,_⟩:=ad (aa ha);exact ih _ _ _ _ hh
      .simp at ha
     .simp at ha
   |_=>simp[dH]at ha
 |nl k=>
  intro ln v l i ha;cases ln with
  |true=>simp[dH]at ha
  |false=>cases v with|nl k'=>simp only[dH]at ha;obtain⟨_,ha⟩:=aK ha;obtain⟨rfl,_⟩:=ad (aa ha);rfl|_=>simp[dH]at ha
 |st c ih=>
  intro ln v l i ha;cases ln with
  |true=>simp[dH]at ha
  |false=>
   cases v with
   |rc q=>exact ih true q l i ha
   |x t v=>cases t with|st u=>exact ih true _ l i ha|_=>simp[dH]at ha
   |_=>simp[dH]at ha
 |pr a c iha ihc=>
  intro ln v l i ha;cases ln with
  |false=>simp[dH]at ha
  |true=>
   cases v with
   |co x r=>
    simp only[dH]at ha;split at ha
    .rename_i l1 i1 l2 i2 h2 h3;obtain⟨rfl,rfl⟩:=ad (aa ha)
     have hA:l1.length=(Ml a).length:=by
      split at h2
      .unfold NX at h2;split at h2
       .obtain ⟨rfl,_⟩:=ad (aa h2);rfl
       .simp at h2
      .exact iha _ _ _ _ h2
     rw[aG,hA,ihc _ _ _ _ h3];simp[Ml]
    .simp at ha
   |_=>simp[dH]at ha
 |ni=>
  intro ln v l i ha;cases ln with
  |false=>cases v<;>simp[dH]at ha
  |true=>cases v with|ni=>obtain⟨rfl,_⟩:=ad (aa ha);rfl|_=>simp[dH]at ha
 |_=>intro ln v l i ha;cases ln<;>cases v<;>simp[dH]at ha
theorem MB{c:Sh}{v:V}{l:List V}{i:List Nat}(ha:dH h c false v=some (l,i))(hx:DR c=false):qS v=vj c/\eW h v=qv h v:=by
 cases c with
 |x t=>simp[DR]at hx
 |os t=>cases v<;>first|exact⟨rfl,rfl⟩|simp[dH]at ha
 |rw t=>cases v<;>first|exact⟨rfl,rfl⟩|simp[dH]at ha
 |pb t c=>cases v<;>first|exact⟨rfl,rfl⟩|simp[dH]at ha
 |nl k=>cases v<;>first|exact⟨rfl,rfl⟩|simp[dH]at ha
 |st c=>
  cases v with
  |rc q=>exact⟨rfl,rfl⟩
  |x t v=>cases t with|st u=>exact⟨rfl,rfl⟩|_=>simp[dH]at ha
  |_=>simp[dH]at ha
 |_=>cases v<;>simp[dH]at ha
theorem qC{c:C}{ts:List T}{bn rd:List Nat}(hp:gM h1 301 [c]=some (ts,bn,rd)):∃t rd',dZ h1 300 c=some (t,bn,rd')/\ts=[t]:=by
 simp only[gM,nm]at hp;split at hp
 .rename_i t a i xs b j hc hn;obtain⟨rfl,e⟩:=ad (aa hp);obtain⟨rfl,rfl⟩:=ad e;obtain⟨rfl,e⟩:=ad (aa hn);obtain⟨rfl,rfl⟩:=ad e;exact⟨t,i,by simpa using hc,rfl⟩
 .simp at hp
theorem If(hr:HR n h1 h){c:Sh}{v:V}{l:List V}{i:List Nat}{x:TV}(hc:Lr h c v=some (l,i))(hx:eW h v x)(hk:eA n h v)(ha:gu h v=true)(hf:gm (oY c) 300=true):
  l.length=(Ml c).length/\∃r0 bn,qg h1 x=some (r0,bn)/\bn.Sublist i/\∀rest,(bif DR c then GQ r0 else r0)=(bif vj c then .agg (eK c (l++rest)).1 else .c ((eK c (l++rest)).1.headD default))/\(eK c (l++rest)).2=rest:=by
 have hf:oY c<=300:=g_ hf;have main:DR c=false->dH h c false v=some (l,i)->l.length=(Ml c).length/\∃r0 bn,qg h1 x=some (r0,bn)/\bn.Sublist i/\∀rest,(bif DR c then GQ r0 else r0)=(bif vj c then .agg (eK c (l++rest)).1 else .c ((eK c (l++rest)).1.headD default))/\(eK c (l++rest)).2=rest:=by intro hX hc;obtain⟨hag,htv⟩:=MB hc hX;rw[htv]at hx;obtain⟨cs,h2,h3,h4⟩:=hx;obtain⟨ts,bn,rd,g1,g2,g3,_,_,g6,_⟩:=uB hr c false v l i cs hc h2 hk;refine⟨Kx _ _ _ _ _ hc,?_⟩;cases hg:vj c with|true=>obtain rfl:=h3 (hag.trans hg);refine⟨.agg ts,bn,by simp only[qg,g1 300 hf],g3,fun rest=>?_⟩;rw[g2 rest,hX];exact⟨rfl,rfl⟩|false=>obtain⟨c1,rfl,rfl⟩:=h4 (hag.trans hg);obtain⟨t,rd',p1,rfl⟩:=qC (g1 301 (by omega));refine⟨.c t,bn,by simp only[qg,p1],g3,fun rest=>?_⟩;rw[g2 rest,hX];exact⟨rfl,rfl⟩
 cases c with
 |x t=>
  simp only[Lr]at hc;split at hc
  .rename_i w l' hw;split at hc
   .rename_i y hy;obtain⟨rfl,rfl⟩:=ad (aa hc);have h5:qv h v x:=by cases v with|tp q=>simp[ie]at hw|no=>simp[gu]at ha|gn=>simp[gu]at ha|_=>exact hx
    obtain⟨cs,h2,h3,h4⟩:=h5;obtain⟨ts,bn,rd,g1,g2,g3,g4,g5⟩:=JA hr v w l' cs hw h2 hk ha;have e:=gW w false t y _ hy g2;have e:=nG e;have hag:qS v=lH t:=g5.symm.trans (ut hy);have hlen:cs.length=bm t:=by rw[g4,<-bD t y,<-e,List.length_map]
    have hf2:bm t+1<=300:=hf;refine⟨rfl,?_⟩;cases hg:lH t with|true=>obtain rfl:=h3 (hag.trans hg);refine⟨.agg ts,bn,by simp only[qg,g1 300 (by omega)],g3,fun rest=>⟨?_,rfl⟩⟩;simp only[DR,cond_true,GQ,vj,hg,eK,aO,bo,R.agg.injEq];rw[<-e,kc];rfl|false=>obtain⟨c1,rfl,rfl⟩:=h4 (hag.trans hg);obtain⟨q,rd',p1,rfl⟩:=qC (g1 301 (by simp));refine⟨.c q,bn,by simp only[qg,p1],g3,fun rest=>⟨?_,rfl⟩⟩;simp only[DR,cond_true,GQ,vj,hg,cond_false,eK,aO,bo,R.c.injEq];rw[<-e];rfl
   .simp at hc
  .simp at hc
 |os t=>
  cases v with
  |sb id ver lo u r=>
   simp only[Lr]at hc;split at hc
   .rename_i u0 s0 v0 ho;split at hc
    .rename_i s hs;obtain⟨rfl,rfl⟩:=ad (aa hc);obtain⟨e,rfl⟩:=cR hs;cases e;obtain rfl:=oH hx ha;obtain⟨q,bn,rd,q1,_,q3,q4⟩:=ES hr hk (cJ.1 ha).2;obtain rfl:=q4 ⟨_,_,_,ho⟩;exact⟨rfl,.c (xD (bm t) (aM t) r),bn,by simp only[qg,q1],q3,fun rest=>⟨rfl,rfl⟩⟩
    .simp at hc
   .simp at hc
  |_=>exact main rfl hc
 |_=>exact main rfl hc
theorem Dk(hr:HR n h1 h):∀(cs:List Sh)(vs:List V)(l:List V)(i:List Nat)(xs:List TV),yt h cs vs=some (l,i)->kH h vs xs->(∀v∈vs,eA n h v/\gu h v=true)->cs.all (fun c=>gm (oY c) 300)=true->
  l.length=(gG cs).length/\∃rs0 bn,ss h1 xs=some (rs0,bn)/\bn.Sublist i/\rN (cs.map DR) rs0=mT cs l:=by
 intro cs;induction cs with
 |nil=>intro vs l i xs hc hx _ _;cases vs with|cons=>simp[yt]at hc|nil=>obtain⟨rfl,rfl⟩:=ad (aa hc);rw[jB hx];exact⟨rfl,[],[],rfl,bS _,rfl⟩
 |cons c cs ih=>
  intro vs l i xs hc hx hk hf;cases vs with
  |nil=>simp[yt]at hc
  |cons v vs=>
   simp only[yt]at hc;split at hc
   .rename_i l1 i1 l2 i2 h2 h3;obtain⟨rfl,rfl⟩:=ad (aa hc);obtain⟨y,ys,rfl,hy,hys⟩:=fg hx;simp only[e9,af]at hf;obtain⟨e1,r0,bn,a1,a2,a3⟩:=If hr h2 hy (hk v (by simp)).1 (hk v (by simp)).2 hf.1;obtain⟨e2,rs0,own2,b1,b2,b3⟩:=ih vs l2 i2 ys h3 hys (fun w hw=>hk w (by simp[hw])) hf.2;refine⟨by simp[gG,e1,e2],r0::rs0,bn++own2,by simp only[ss,a1,b1],a2.append b2,?_⟩;obtain⟨c1,c2⟩:=a3 l2;simp only[aq,rN,mT,c2,b3];rw[<-c1];cases DR c<;>rfl
   .simp at hc
theorem Dj(hr:HR n h1 h):∀(cs:List Sh)(g:V)(l:List V)(i:List Nat)(xs:List C),yr h cs (yg g)=some (l,i)->HB h g xs->eA n h g->cs.all (fun c=>gm (oY c) 300&&!DR c)=true->
  ∃bn,tH h1 xs (jr cs l) bn/\bn.Sublist i:=by
 intro cs;induction cs with
 |nil=>intro g l i xs hc hx _ _;cases g with|ni=>obtain⟨rfl,rfl⟩:=ad (aa hc);obtain rfl:=hx;exact⟨[],.nil,bS _⟩|co a r=>simp[yg,yr]at hc|_=>exact hx.elim
 |cons c cs ih=>
  intro g l i xs hc hx hk hf;cases g with
  |ni=>simp[yg,yr]at hc
  |co a r=>
   simp only[yg,yr]at hc;split at hc
   .rename_i l1 i1 l2 i2 h2 h3;obtain⟨rfl,rfl⟩:=ad (aa hc);obtain⟨y,ys,rfl,hy,hys⟩:=hx;simp only[e9,af,Bool.not_eq_true']at hf;obtain⟨own2,b1,b2⟩:=ih r l2 i2 ys h3 hys hk.2 (by simpa using hf.2);have BX:(bif gu h a then dH h c false a else none)=some (l1,i1)->∃bn,tH h1 (y::ys) (jr (c::cs) (l1++l2)) bn/\bn.Sublist (i1++i2):=by intro h2;obtain⟨ha,h2⟩:=aK h2;obtain⟨ts,bn,rd,g1,g2,g3,_⟩:=uB hr c false a l1 i1 [y] h2 (hy ha) hk.1;have hfu:oY c<=300:=g_ hf.1.1;obtain⟨t,rd',p1,rfl⟩:=qC (g1 301 (by omega));refine⟨bn++own2,?_,g3.append b2⟩;simp only[jr,g2 l2,bH];exact .cons p1 b1
    cases c with|gn=>obtain⟨rfl,rfl⟩:=ad (aa (show some (([]:List V),([]:List Nat))=some (l1,i1)from h2));exact⟨own2,.rD b1,b2⟩|_=>exact BX h2
   .simp at hc
  |_=>exact hx.elim
end
theorem F7(hg:kg){s1:St}{s:S2}(hr:R2 s1 s){r:RV}{v:V}(h:Lq s r=some v):∃x,uO s1 r=some x/\eW s.heap v x/\eA s.next s.heap v/\gu s.heap v=true:=by
 cases r with
 |tmp t=>exact mq hg hr (o:=.tmp t) h
 |cell t g n=>
  simp only[Lq]at h;split at h
  .rename_i p hp;split at h
   .rename_i w l hl;obtain⟨hc,h⟩:=aK h;obtain rfl:=aa h;obtain⟨x,h1,h2,h3,h4⟩:=mq hg hr hp;obtain⟨y,h5,h6,h7⟩:=ug (nx:=0) (c:=oN) hr.hr hl hc h2 h3;refine⟨y,?_,h6,h7,(mB hc).2.2.2⟩;have h1:bX s1.db t=some x:=h1;simp only[uO,h1];cases x with
    |c pc=>
     simp only[cm]at h5;split at h5
     .rename_i z aw hz;obtain⟨rfl,_⟩:=ad (aa h5);simp only[hz]
     .simp at h5
    |_=>simp[cm]at h5
   .simp at h
  .simp at h
theorem GG(hg:kg){s1:St}{s:S2}(hr:R2 s1 s):∀(ji:List RV)(vs:List V),LS (Lq s) ji=some vs->∃xs,dX (ji.map (uO s1))=some xs/\kH s.heap vs xs/\∀v∈vs,eA s.next s.heap v/\gu s.heap v=true:=by
 intro ji;induction ji with
 |nil=>intro vs h;obtain rfl:=aa h;exact⟨[],rfl,trivial,fun v hv=>by simp at hv⟩
 |cons r ji ih=>
  intro vs h;simp only[LS]at h;split at h
  .rename_i x y hx hy;obtain rfl:=aa h;obtain⟨x1,a1,a2,a3⟩:=F7 hg hr hx;obtain⟨xs,b1,b2,b3⟩:=ih y hy;refine⟨x1::xs,by simp only[aq,dX,a1,b1],⟨a2,b2⟩,fun v hv=>?_⟩;rcases aF.1 hv with rfl|hv
   .exact a3
   .exact b3 v hv
  .simp at h
def PL(al:Wy):Bool:=al.all fun w=>w.1.all (fun c=>gm (oY c) 300)&&w.2.all (fun c=>gm (oY c) 300&&!DR c)
theorem GT(hg:kg){s1:St}{s:S2}(hr:R2 s1 s){ji:List RV}{rs os:List Sh}{l:List V}(h:GU ji rs os s=some l)(hf1:rs.all (fun c=>gm (oY c) 300)=true)(hf2:os.all (fun c=>gm (oY c) 300&&!DR c)=true):
  ∃rs0,uF ji s1 rs0 (jr os (l.drop (gG rs).length))/\rN (rs.map DR) rs0=mT rs (l.take (gG rs).length):=by
 unfold GU at h;split at h
 .rename_i vs hvs;split at h
  .rename_i l1 i m j h2 h3;obtain⟨hn,h⟩:=aK h;obtain rfl:=aa h;obtain⟨xs,a1,a2,a3⟩:=GG hg hr ji vs hvs;obtain⟨e,rs0,bn,b1,b2,b3⟩:=Dk hr.hr rs vs l1 i xs h2 a2 a3 hf1;obtain⟨own2,c1,c2⟩:=Dj hr.hr os s.gh m j s1.gh h3 hr.gh.1 hr.gh.2 hf2;rw[<-e,List.take_left,List.drop_left];exact⟨rs0,⟨xs,bn,own2,a1,b1,c1,(b2.append c2).nodup (By hn)⟩,b3⟩
  .simp at h
 .simp at h
section
variable{h1:bz}
theorem FI:∀(c:Sh)(l:List V)(w:V)(l':List V),AI c l=some (w,l')->oU w=some (pp c l).1/\l'=(pp c l).2:=by
 intro c;induction c with
 |ni=>intro l w l' h;obtain⟨rfl,rfl⟩:=ad (aa h);exact⟨rfl,rfl⟩
 |pr a c _ ih=>
  intro l w l' h;cases a with
  |pt t=>
   match l with
   |.x u v::l=>
    simp only[AI]at h;obtain⟨hc,hh⟩:=aK h;clear h;simp only[af,decide_eq_true_eq]at hc;obtain⟨rfl,hd⟩:=hc;split at hh
    .rename_i w2 l2 hw;obtain⟨rfl,rfl⟩:=ad (aa hh);obtain⟨h2,h3⟩:=ih l w2 l2 hw;refine⟨?_,h3⟩;simp only[oU,hd,if_true,h2,pp]
    .simp at hh
   |[]|.kb _::_|.nl _::_|.so _::_|.sb _ _ _ _ _::_|.op _ _ _::_|.ep _ _ _ _::_|.pt _ _::_|.fn _ _ _::_|.om _::_|.rc _::_|.tp _::_|.ni::_|.co _ _::_|.fl _::_|.no::_|.gn::_=>simp[AI]at h
  |_=>simp[AI]at h
 |_=>intro l w l' h;simp[AI]at h
theorem Hg:∀{w:V}{ds:List D},oU w=some ds->Ar w=true:=by
 intro w;induction w with
 |pt t v=>
  intro ds h;simp only[oU]at h;split at h
  .assumption
  .simp at h
 |ni=>intro ds _;rfl
 |co a r iha ihr=>
  intro ds h;simp only[oU]at h;split at h
  .rename_i x y hx hy;simp only[Ar,iha hx,ihr hy,Bool.and_self]
  .simp at h
 |_=>intro ds h;simp[oU]at h
theorem M0{h:H2}{n:Nat}{i:Nat}{u:Ty}{v:El u}(hd:je u=true)(hs:(vj (.x u)||wy (.x u))=true):∃x,eW h (.x u v) x/\eA n h (.x u v)/\
  ∀(r:List A)(k:Nat),enter ((bif vj (.x u)then A.agg (aM u v)else A.d ((aM u v).headD default))::r) i k=((i,x)::(enter r (i+1) k).1,(enter r (i+1) k).2.1,(enter r (i+1) k).2.2.1,(enter r (i+1) k).2.2.2):=by
 cases hg:lH u with
 |true=>refine⟨.agg ((aM u v).map .d),bM ⟨_,⟨hd,rfl⟩,fun _=>rfl,fun e=>(by rw[show qS (.x u v)=lH u from rfl,hg]at e;cases e)⟩,trivial,fun r k=>?_⟩;simp only[vj,hg,cond_true,enter]
 |false=>
  have h1:bm u=1:=by simpa[vj,hg,wy]using hs
  have hl:=bD u v;rw[h1]at hl
  match he:aM u v,hl with|[d],_=>refine⟨.c (.d d),bM ⟨[.d d],⟨hd,by rw[he];rfl⟩,fun e=>(by rw[show qS (.x u v)=lH u from rfl,hg]at e;cases e),fun _=>⟨_,rfl,rfl⟩⟩,trivial,fun r k=>?_⟩;simp only[vj,hg,cond_false,enter,bH]
theorem uU{α:Type}{a t:Nat}{x:α}{l:List (Nat×α)}(h:a≠t):bX ((a,x)::l) t=bX l t:=by simp only[bX];rw[show(a==t)=false by simpa using h,cond_false]
theorem oA{α:Type}{a:Nat}{x:α}{l:List (Nat×α)}:bX ((a,x)::l) a=some x:=by simp[bX]
theorem G2:∀(ps:List (Bool×Sh))(i:Nat)(l:List V)(s:S2)(h1:bz)(e:List (Nat×V))(s':S2),qM ps i l s=some (e,s')->zD ps=true->HR s.next h1 s.heap->s.gh=.ni->
  HR s'.next ((enter (fT ps l) i s.next).2.1++h1) s'.heap/\ik s.next s.heap s'.heap/\s.next<=s'.next/\(∀p∈(enter (fT ps l) i s.next).2.1,s.next<=p.1/\p.1<s'.next)/\
  (∀t v,bX e t=some v->eA s'.next s'.heap v/\∃x,bX (enter (fT ps l) i s.next).1 t=some x/\eW s'.heap v x)/\
  s'.next=(enter (fT ps l) i s.next).2.2.1/\HB s'.heap s'.gh (enter (fT ps l) i s.next).2.2.2/\eA s'.next s'.heap s'.gh:=by
 intro ps;induction ps with
 |nil=>
  intro i l s h1 e s' he _ hr hg;cases l with
  |cons=>simp[qM]at he
  |nil=>
   obtain⟨rfl,rfl⟩:=ad (aa he);simp only[fT,enter,bo];refine⟨hr,ik.refl _ _,ao _,fun p hp=>by simp at hp,fun t v h=>by simp[bX]at h,trivial,?_,?_⟩
   .rw [hg];rfl
   .rw [hg];trivial
 |cons p ps ih=>
  obtain⟨b,c⟩:=p;intro i l s h1 e s' he hp hr hg;simp only[zD,af]at hp;obtain⟨hc,hps⟩:=hp
  -- data: one more temporary
  have data:∀(l2:List V)(w:V)(a:A)(x:TV),fT ((b,c)::ps) l=a::fT ps l2->(∀(r:List A)(k:Nat),enter (a::r) i k=((i,x)::(enter r (i+1) k).1,(enter r (i+1) k).2.1,(enter r (i+1) k).2.2.1,(enter r (i+1) k).2.2.2))->
    (∀h,eW h w x)->(∀n h,eA n h w)->(match qM ps (i+1) l2 s with|some (e,s)=>some ((i,w)::e,s)|none=>none)=some (e,s')->
    HR s'.next ((enter (fT ((b,c)::ps) l) i s.next).2.1++h1) s'.heap/\ik s.next s.heap s'.heap/\s.next<=s'.next/\(∀p∈(enter (fT ((b,c)::ps) l) i s.next).2.1,s.next<=p.1/\p.1<s'.next)/\
    (∀t v,bX e t=some v->eA s'.next s'.heap v/\∃x,bX (enter (fT ((b,c)::ps) l) i s.next).1 t=some x/\eW s'.heap v x)/\
    s'.next=(enter (fT ((b,c)::ps) l) i s.next).2.2.1/\HB s'.heap s'.gh (enter (fT ((b,c)::ps) l) i s.next).2.2.2/\eA s'.next s'.heap s'.gh:=by
   intro l2 w a x ha hen hx hk he;split at he
   .rename_i e1 s1 h2;obtain⟨rfl,rfl⟩:=ad (aa he);obtain⟨a1,a2,a3,a4,a5,a6,a7,a8⟩:=ih (i+1) l2 s h1 e1 s1 h2 hps hr hg;rw[ha,hen];refine⟨a1,a2,a3,a4,fun t v h=>?_,a6,a7,a8⟩;by_cases et:i=t
    .subst et;rw[oA]at h;obtain rfl:=aa h;exact⟨hk _ _,x,oA,hx _⟩
    .rw [uU et]at h|-;exact a5 t v h
   .simp at he
  cases b with
  |true=>
   simp only[cond_true,af]at hc;simp only[qM]at he;split at he
   .rename_i w l2 s1 hm;split at he
    .rename_i e1 s2 h2;obtain⟨rfl,rfl⟩:=ad (aa he);obtain⟨g1,g2,g3,g4,g5,_⟩:=tg c false l s w l2 s1 h1 hm hr;have hone:wy c=true:=by have:=hc.1;cases c<;>simp[tn]at this<;>rfl
     have hlen:=Ad hm hone
     match ht:(eK c l).1,hlen with
     |[t0],_=>
      have hu:gC s.next [t0]=([(jA s.next t0).1],(jA s.next t0).2.1++[],(jA s.next t0).2.2):=rfl;rw[ht,hu]at g1 g3 g4;simp only[bi]at g1 g3 g4;obtain⟨k1,k2,k3,k4,k5,k6,_⟩:=g3;obtain⟨a1,a2,a3,a4,a5,a6,a7,a8⟩:=ih (i+1) l2 s1 ((jA s.next t0).2.1++h1) e1 s2 h2 hps k1 (k4.trans hg);have hen:enter (fT ((true,c)::ps) l) i s.next=((i,.c (jA s.next t0).1)::(enter (fT ps l2) (i+1) s1.next).1,(jA s.next t0).2.1++(enter (fT ps l2) (i+1) s1.next).2.1,(enter (fT ps l2) (i+1) s1.next).2.2.1,(jA s.next t0).1::(enter (fT ps l2) (i+1) s1.next).2.2.2):=by simp only[fT,ht,bH,<-g5,enter,<-g4]
      rw[hen];have hk:=fN a3 a2 g2;have hcel:=j8 a2 g2 g1;refine⟨a1.ext fun j=>ue (fun p hp q hq e=>?_) j,ik.trans k5 k2 a2,dD k5 a3,fun p hp=>?_,fun t v h=>?_,a6,⟨_,_,rfl,fun _=>hcel,a7⟩,⟨hk,a8⟩⟩
      .have:=(k6 p hp).2;have:=(a4 q hq).1;omega
      .rcases ak.1 hp with hp|hp
       .exact ⟨(k6 p hp).1,Nat.lt_of_lt_of_le (k6 p hp).2 a3⟩
       .exact ⟨dD k5 (a4 p hp).1,(a4 p hp).2⟩
      .by_cases et:i=t
       .subst et;rw[oA]at h;obtain rfl:=aa h;refine⟨hk,_,oA,?_⟩;have hag:qS w=false:=by have:=tg c false l s w l2 s1 h1 hm hr;rw[this.2.2.2.2.2 rfl];have:=hc.1;cases c<;>simp[tn]at this<;>rfl
        exact bM ⟨_,hcel,fun e=>(by rw[hag]at e;cases e),fun _=>⟨_,rfl,rfl⟩⟩
       .rw [uU et]at h|-;exact a5 t v h
    .simp at he
   .simp at he
  |false=>
   simp only[cond_false,af]at hc;cases c with
   |x t=>
    match l,he with
    |.x u v::l,he=>
     simp only[qM]at he;obtain⟨hd,he2⟩:=aK he;simp only[af,decide_eq_true_eq]at hd;obtain⟨rfl,hd⟩:=hd;obtain⟨x,_,_,h3⟩:=M0 (h:=[]) (n:=0) (i:=i) (v:=v) hd hc.1
     have hx:∀h,eW h (.x u v) x:=fun h=>by
      obtain⟨x',h1,_,h3'⟩:=M0 (h:=h) (n:=0) (i:=i) (v:=v) hd hc.1;have e1:=h3 [] 0;rw[h3' [] 0]at e1;have:x'=x:=by have:=(ad e1).1;exact(ad (List.cons.inj this).1).2
      rw[<-this];exact h1
     exact data l (.x u v) _ x rfl h3 hx (fun _ _=>trivial) he2
    |[],he|.kb _::_,he|.nl _::_,he|.so _::_,he|.sb _ _ _ _ _::_,he|.op _ _ _::_,he|.ep _ _ _ _::_,he|.pt _ _::_,he|.fn _ _ _::_,he|.om _::_,he|.rc _::_,he|.tp _::_,he|.ni::_,he|.co _ _::_,he|.fl _::_,he|.no::_,he|.gn::_,he=>simp[qM]at he
   |pt t=>match l,he with|.x u v::l,he=>simp only[qM]at he;obtain⟨hd,he2⟩:=aK he;simp only[af,decide_eq_true_eq]at hd;obtain⟨rfl,hd⟩:=hd;refine data l (.pt u v) (.d (.pt (aM u v))) (.c (.d (.pt (aM u v)))) rfl (fun r k=>by simp only[enter]) (fun h=>bM (c_ rfl ⟨hd,rfl⟩)) (fun _ _=>trivial) he2|[],he|.kb _::_,he|.nl _::_,he|.so _::_,he|.sb _ _ _ _ _::_,he|.op _ _ _::_,he|.ep _ _ _ _::_,he|.pt _ _::_,he|.fn _ _ _::_,he|.om _::_,he|.rc _::_,he|.tp _::_,he|.ni::_,he|.co _ _::_,he|.fl _::_,he|.no::_,he|.gn::_,he=>simp[qM]at he
   |nl k=>
    have he:(match qM ps (i+1) l s with|some (e,s)=>some ((i,V.nl k)::e,s)|none=>none)=some (e,s'):=by cases l<;>exact he
    refine data l (.nl k) (.d (MR k)) (.c (.d (MR k))) (by cases l<;>rfl) (fun r k=>by simp only[enter]) (fun h=>bM (c_ rfl rfl)) (fun _ _=>trivial) he
   |fn f c2=>
    have he:(match AI c2 l with|some (w,l)=>(match qM ps (i+1) l s with|some (e,s)=>some ((i,V.fn true f w)::e,s)|none=>none)|none=>none)=some (e,s'):=by cases l<;>exact he
    split at he
    .rename_i w l2 hw;obtain⟨h2,rfl⟩:=FI c2 l w l2 hw;refine data _ (.fn true f w) (.d (.fn f (pp c2 l).1)) (.c (.d (.fn f (pp c2 l).1))) (by cases l<;>rfl) (fun r k=>by simp only[enter]) (fun h=>bM (c_ rfl ⟨_,h2,rfl⟩)) (fun n h=>?_) he;exact(xw (h:=h) w (Hg h2)).2 n
    .simp at he
   |_=>cases l<;>simp[qM]at he
theorem G1{ps:List (Bool×Sh)}{l:List V}{s:S2}(h:Ov ps l=some s)(hp:zD ps=true):R2 (nf (fT ps l)) s:=by
 unfold Ov at h;split at h
 .rename_i e s1 he;obtain rfl:=aa h;obtain⟨a1,a2,a3,a4,a5,a6,a7,a8⟩:=G2 ps 0 l ⟨[],[],0,[],.ni⟩ [] e s1 he hp ⟨fun i o ho=>by simp[fO,bX]at ho⟩ rfl;rw[bi]at a1;exact⟨fun t v ht=>⟨(a5 t v ht).1,fun _=>(a5 t v ht).2⟩,a1,Nat.le_of_eq a6.symm,a7,a8⟩
 .simp at h
end
theorem G3:∀(ps:List (Bool×Sh))(l:List V),(fT ps l).length=ps.length:=by intro ps;induction ps with|nil=>intro l;rfl|cons p ps ih=>obtain⟨b,c⟩:=p;intro l;cases b<;>simp[fT,ih]
theorem Kb{P:Program}{da:uY}{nt:Nat}{an:List (Nat×An)}:∀(c:Code)(n:Nat)(s:St)(Q:qo->St->Prop),W P (lM (nR P da nt an c n).1) s Q->W P (nW P da nt c) s Q:=by
 intro c;induction c with
 |skip=>intro n s Q h;exact h
 |exit id=>intro n s Q h;exact h
 |ret=>intro n s Q h;exact h
 |region o ops draw=>
  intro n s Q h;have hm:(ops.toList.map (NQ P da nt ops)).map (·.o)=ops.toList.map (fz P da nt ops):=by rw[kc];rfl
  cases draw with
  |false=>simp only[nR,aN,if_false,lM,hm]at h;simpa only[nW,aN,if_false]using h
  |true=>
   simp only[nR,if_true]at h;simp only[nW,if_true,uv];split at h
   .rename_i hc;simp only[lM,hm]at h;rw[if_pos (by simpa using hc)];exact h
   .exact h.elim
 |seq a b iha ihb=>intro n s Q h;simp only[nR,lM]at h;exact iha _ s _ (W.mono (rT.mono (fun s1 h1=>ihb _ s1 Q h1) fun _ _ h=>h) h)
 |cond x a b iha ihb=>intro n s Q h;simp only[nR,lM]at h;obtain⟨s1,h0,t,h1,h2,h3⟩:=h;exact⟨s1,h0,t,h1,fun ht=>iha _ s1 Q (h2 ht),fun ht=>ihb _ s1 Q (h3 ht)⟩
 |block id a ih=>intro n s Q h;simp only[nR,lM]at h;exact ih _ s _ h
 |loop a ih=>
  intro n s Q h;simp only[nR]at h;split at h
  .simp only[lM]at h;obtain⟨I,m,h1,h2⟩:=h;exact⟨I,m,h1,fun k s1 hI=>ih _ s1 _ (h2 k s1 hI)⟩
  .exact h.elim
 |scope a ih=>intro n s Q h;exact ih _ s Q h
 |label l=>intro n s Q h;exact h
 |_=>intro n s Q h;exact h.elim
theorem D_{P:Program}{da:uY}{f np:Nat}{an:List (Nat×An)}{F:F2}(h:yY P da f np an=some F):∃G,xe P da f np=some G/\G.np=np/\G.ji=F.ji/\∀s Q,W P (lM F.body) s Q->W P G.body s Q:=by
 unfold yY at h;split at h
 .simp at h
 rename_i g hg;split at h
 .simp at h
 rename_i code hb;split at h
 case isFalse=>simp at h
 rename_i hc;split at h
 case h_2=>simp at h
 rename_i ji hrv;obtain rfl:=aa h;unfold xe;simp only[hg,hb,hrv];rw[if_pos (by simpa using hc)];exact⟨_,rfl,rfl,rfl,fun s Q hw=>Kb code 0 s Q hw⟩
theorem Nk{ji:List RV}:∀(al:Wy)(z:tG al),∃r o l,(r,o)∈al/\(∀s,Ma ji s al=some z->GU ji r o s=some l)/\∀Q:List Sh->List Sh->List V->Prop,Q r o l->KY Q al z:=by
 have key:∀(w:Wy)(r o:List Sh)(z:tG.Et r o w),∃r' o' l,(r',o')∈(r,o)::w/\(∀s,GW ji s r o w=some z->GU ji r' o' s=some l)/\∀Q:List Sh->List Sh->List V->Prop,Q r' o' l->KX Q r o w z:=by
  intro w;induction w with
  |nil=>
   intro r o z;refine⟨r,o,mV (gG r++gG o) z,by simp,fun s hz=>?_,fun Q hQ=>hQ⟩;simp only[GW]at hz;split at hz
   .rename_i l hl;rw[od _ _ _ hz];exact hl
   .simp at hz
  |cons p w ih=>
   obtain⟨r',o'⟩:=p;intro r o z;cases z with
   |inl y=>
    refine⟨r,o,mV (gG r++gG o) y,by simp,fun s hz=>?_,fun Q hQ=>hQ⟩;simp only[GW]at hz;split at hz
    .rename_i l hl;split at hz
     .rename_i y2 hy;have e:y2=y:=by have:=aa hz;cases this;rfl
      subst e;rw[od _ _ _ hy];exact hl
     .simp at hz
    .split at hz
     .have:=aa hz;cases this
     .simp at hz
   |inr y=>
    obtain⟨r2,o2,l,h1,h2,h3⟩:=ih r' o' y;refine⟨r2,o2,l,aA _ h1,fun s hz=>?_,fun Q hQ=>h3 Q hQ⟩;simp only[GW]at hz;split at hz
    .split at hz
     .have:=aa hz;cases this
     .simp at hz
    .split at hz
     .rename_i y2 hy;have e:y2=y:=by have:=aa hz;cases this;rfl
      subst e;exact h2 s hy
     .simp at hz
 intro al z;cases al with|nil=>exact nomatch z|cons p w=>exact key w p.1 p.2 z
theorem JR{P:Program}(hm:P.follows .mixedOrders=true){da:uY}{f np:Nat}{an:List (Nat×An)}{F:F2}{tb:Cz}(htb:nV P tb)(hg:kg)(hF:yY P da f np an=some F){ps:List (Bool×Sh)}{al:Wy}(hnp:ps.length=np)(hps:zD ps=true)(hal:PL al=true)
  {p:oV (gG (ps.map (·.2)))} {z:tG al} (hz:PO tb (some F) ps al p=some z):
  KY (fun rs os l=>qV P f (fT ps (mV (gG (ps.map (·.2))) p)) (mT rs (l.take (gG rs).length)) (jr os (l.drop (gG rs).length))) al z:=by
 obtain⟨G,hG,hGn,hGr,hGb⟩:=D_ hF;simp only[PO]at hz;split at hz
 case h_2=>simp at hz
 rename_i s hs;have hr:=G1 hs hps
 -- the ways that the run may end in
 have hend:∀o s1',Pf (k9 F.body) (nf (fT ps (mV _ p))) s (fun o s=>match o with|.exit _=>none|_=>Ma F.ji s al) z o s1'->wk (fun s1''=>∃s',R2 s1'' s'/\s1''.gh.length=(nf (fT ps (mV _ p))).gh.length/\(∀i,o≠.exit i)/\Ma F.ji s' al=some z) s1':=by
  intro o s1' h;refine wk.mono h fun s1''⟨s',h1,⟨w,h2,h3⟩,h4⟩=>⟨s',h1,h3.gl,fun i e=>?_,?_⟩
  .subst e;simp at h4
  .cases o with|exit i=>simp at h4|_=>exact h4
 have hW:=W.mono hend (GX htb hg F.body _ s _ z hz hr);obtain⟨r,o,l,h1,h2,h3⟩:=Nk (ji:=F.ji) al z;refine h3 _ (L8 hm hG (m:=r.map DR) ⟨?_,hGb _ _ (W.mono (fun jZ s1' h=>?_) hW)⟩)
 .rw [G3,hnp,hGn]
 .have hf:=aV.1 hal (r,o) h1;simp only[af]at hf;have fin:wk (fun s=>s.gh.length=(nf (fT ps (mV (gG (ps.map (·.2))) p))).gh.length/\∃rs0,uF G.ji s rs0 (jr o (l.drop (gG r).length))/\rN (r.map DR) rs0=mT r (l.take (gG r).length)) s1':=by refine wk.mono h fun s1''⟨s',k1,k2,_,k4⟩=>⟨k2,?_⟩;rw[hGr];exact GT hg k1 (h2 s' k4) hf.1 hf.2
  cases jZ with|normal=>exact fin|ret=>exact fin|exit i=>obtain⟨_,_,_,_,_,k,_⟩:=h;exact absurd rfl (k i)
theorem dh{P:Program}(hm:P.follows .mixedOrders=true)(hg:kg){da:uY}{f np:Nat}{an:List (Nat×An)}{tb:Cz}(htb:nV P tb){sp:l8}
  (h1:(KW sp&&jy sp.ps.length np&&PL sp.al)=true) (h3:(fun p=>PO tb (yY P da f np an) sp.ps sp.al p)=sp.fn):dq P f sp:=by
 simp only[af]at h1;obtain⟨⟨h4,h5⟩,h6⟩:=h1;refine⟨h4,fun p z hz=>?_⟩;have hp:zD sp.ps=true:=by simp only[KW,af]at h4;exact h4.1.1.2
 rw[<-h3]at hz;have hz:PO tb (yY P da f np an) sp.ps sp.al p=some z:=hz;cases hF:yY P da f np an with|none=>rw[hF]at hz;simp[PO]at hz|some F=>rw[hF]at hz;exact JR hm htb hg hF (cZ h5) hp h6 hz
theorem Fe{v:V}{d:D}(hv:∀g w,Jv g=some w->g=0/\w=v)(h0:Oe 0=some d)(hd:∀h n,eW h v (.c (.d d))/\eA n h v/\gu h v=true):kg:=fun g w hg=>by obtain⟨rfl,rfl⟩:=hv g w hg;exact⟨d,h0,hd⟩
open Go.ChangeShapes Go.WideShapes Go.ChangeAt Go.RowKit
def up:(t:Ty)->El t->Prop
 |.i k,x=>k.min<=x/\x<=k.max
 |.s,s=>s.size<=maxLen
 |.f k,b=>(Lit.float k b).wf=true
 |.sl t,s=>s.l.length<=maxLen/\∀x∈s.l,up t x
 |.pr a c,v=>up a v.1/\up c v.2
 |.st t,v=>up t v
 |.ar _ t,v=>∀x∈v.1,up t x
 |_,_=>True
def Gr(P:Program)(ok:TypeId->Bool)(sz:TypeId->Nat):List Field->Nat->Nat->Bool
 |[],off,Nu=>jy off Nu
 |f::r,off,Nu=>ok f.type&&jy f.offset off&&jy (P.cellsOf f.type) (sz f.type)&&Gr P ok sz r (off+sz f.type) Nu
def EX(P:Program):Nat->TypeId->Bool
 |0,_=>false
 |n+1,t=>match P.underlying t with|some (.int _)|some .bool|some .string|some (.float _)=>true|some (.slice e)=>EX P n e&&Nat.blt 0 (bm (ed P n e))&&jy (P.cellsOf e) (bm (ed P n e))|some (.struct fs)=>Gr P (EX P n) (fun t=>bm (ed P n t)) fs.toList 0 (P.cellsOf t)|some (.array m e)=>EX P n e&&jy (P.cellsOf e) (bm (ed P n e))&&jy (P.cellsOf t) (m*bm (ed P n e))|_=>false
theorem Ir{P:Program}:∀(n:Nat)(t:TypeId),EX P n t=true->pz P t (aM (ed P n t)) (up (ed P n t)):=by
 intro n;induction n with
 |zero=>intro t h;simp[EX]at h
 |succ n ih=>
  intro t h;simp only[EX]at h;split at h
  .rename_i k hu;rw[show ed P (n+1) t=.i k by simp only[ed,hu]];exact Gk hu
  .rename_i hu;rw[show ed P (n+1) t=.b by simp only[ed,hu]];exact Dz hu
  .rename_i hu;rw[show ed P (n+1) t=.s by simp only[ed,hu]];exact zG hu
  .rename_i k hu;rw[show ed P (n+1) t=.f k by simp only[ed,hu]];exact Bm hu
  .rename_i e hu;simp only[af]at h;obtain⟨⟨h1,h2⟩,h3⟩:=h;rw[show ed P (n+1) t=.sl (ed P n e)by simp only[ed,hu]];exact Bl (enc:=aM (ed P n e)) hu (cZ h3) (by simpa[Nat.blt_eq]using h2) (fun a=>bD _ a) (ih e h1)
  .rename_i fs hu;rw[show ed P (n+1) t=.st (ed.P0 (fs.toList.map fun f=>ed P n f.type))by simp only[ed,hu]];intro H en w fuel cs x hx;have hl:=CW hu hx
   have key:∀(suf:List Field)(i off:Nat),(∀j,fs[i+j]?=suf[j]?)->Gr P (EX P n) (fun t=>bm (ed P n t)) suf off (P.cellsOf t)=true->
     ∃v:El (ed.P0 (suf.map fun f=>ed P n f.type)),up _ v/\jw w (cs.drop off) (aM _ v):=by
    intro suf;induction suf with
    |nil=>intro i off _ hok;have e:=cZ hok;exact⟨(),trivial,jw.nil (by rw[fS,hl,e];omega)⟩
    |cons f r ihr=>
     intro i off hi hok;simp only[Gr,af]at hok;obtain⟨⟨⟨k1,k2⟩,k3⟩,k4⟩:=hok;have k2:=cZ k2;have k3:=cZ k3;have hf:fs[i]?=some f:=by have:=hi 0;simpa using this
     obtain⟨a,f1,c1⟩:=Bn hu hx hf (ih f.type k1);rw[k2,k3]at c1;obtain⟨v,f2,c2⟩:=ihr (i+1) (off+bm (ed P n f.type)) (fun j=>by have:=hi (j+1);rw[show i+1+j=i+(j+1)by omega,this];rfl) k4
     have hle:off+bm (ed P n f.type)<=cs.length:=by
      have hmono:∀(suf:List Field)(off:Nat),Gr P (EX P n) (fun t=>bm (ed P n t)) suf off (P.cellsOf t)=true->off<=P.cellsOf t:=by intro suf;induction suf with|nil=>intro off h;exact Nat.le_of_eq (cZ h)|cons g r ih=>intro off h;simp only[Gr,af]at h;have:=ih _ h.2;omega
      rw[hl];exact hmono r _ k4
     have hfield:=jw.field c1 rfl c2 hle;cases r with|nil=>have e:aM (ed.P0 (([]:List Field).map fun f=>ed P n f.type)) v=[]:=rfl;rw[e,bi]at hfield;exact⟨a,f1,hfield⟩|cons g r=>exact⟨(a,v),⟨f1,f2⟩,hfield⟩
   obtain⟨v,f1,c1⟩:=key fs.toList 0 0 (fun j=>by simp) h;exact⟨v,f1,by rw[cA]at c1;exact c1⟩
  .rename_i m e hu;simp only[af]at h;obtain⟨⟨h1,h2⟩,h3⟩:=h;have h2:=cZ h2;have h3:=cZ h3;rw[show ed P (n+1) t=.ar m (ed P n e)by simp only[ed,hu]];intro H en w fuel cs x hx;have hl:=Ht hu hx
   have key:∀j,j<=m->∃l:List (El (ed P n e)),l.length=j/\(∀y∈l,up _ y)/\jw w (cs.drop ((m-j)*bm (ed P n e))) (l.flatMap (aM (ed P n e))):=by
    intro j;induction j with
    |zero=>intro _;exact⟨[],rfl,fun y hy=>by simp at hy,jw.nil (by rw[fS,hl,h3];simp)⟩
    |succ j ihj=>
     intro hj;obtain⟨l,l1,l2,l3⟩:=ihj (by omega);obtain⟨a,f1,c1⟩:=Dy hu hx (i:=m-(j+1)) (by omega) (ih e h1);rw[h2]at c1;have hs:(m-(j+1))*bm (ed P n e)+bm (ed P n e)=(m-j)*bm (ed P n e):=by rw[show m-j=(m-(j+1))+1 by omega,Nat.succ_mul]
     refine⟨a::l,by simp[l1],fun y hy=>?_,?_⟩
     .rcases aF.1 hy with rfl|hy
      .exact f1
      .exact l2 y hy
     .rw [List.flatMap_cons];refine jw.field c1 hs l3 ?_;rw[hl,h3];exact Nat.mul_le_mul_right _ (by omega)
   obtain⟨l,l1,l2,l3⟩:=key m (ao _);rw[Nat.sub_self,Nat.zero_mul,cA]at l3;exact⟨⟨l,l1⟩,l2,l3⟩
  .simp at h
def CF:List Ty->List V->Prop
 |[],l=>l=[]
 |a::r,l=>∃(v:El a)(m:List V),l=.x a v::m/\up a v/\CF r m
theorem Fu{a:Ty}(v:El a):rQ a (.x a v)=some v:=by simp[rQ,fk]
theorem CF.gR:∀{cs:List Ty}{l:List V},CF cs l->∃p,tU cs l=some p/\mV cs p=l:=by
 have key:∀(r:List Ty)(a:Ty)(l:List V),CF (a::r) l->∃p,CP a r l=some p:=by intro r;induction r with|nil=>rintro a l ⟨v,m,rfl,_,hm⟩;have hm:m=[]:=hm;subst hm;exact⟨v,Fu v⟩|cons c r ih=>rintro a l ⟨v,m,rfl,_,hm⟩;obtain⟨p,hp⟩:=ih c m hm;refine⟨(v,p),?_⟩;show FM (rQ a (.x a v)) (CP c r m)=_;rw[Fu,hp];rfl
 intro cs l h;cases cs with|nil=>have h:l=[]:=h;subst h;exact⟨(),rfl,rfl⟩|cons a r=>obtain⟨p,hp⟩:=key r a l h;exact⟨p,hp,od (a::r) l p hp⟩
theorem OV{P:Program}{n:Nat}{t:TypeId}(ho:EX P n t=true)(h1:(lH (ed P n t)||jy (bm (ed P n t)) 1)=true){w:World}{r:Reach}{b:Nat}{v:Value}(hv:Value.okWide P w r b t v)
  {H:Type} {en:TypeId×Value->H} {x:DataW H} {ps:List MemPlace} (h:DataW.Trod en P w 0 (fun _=>true) true t v x ps):∃a:El (ed P n t),up _ a/\RA (S0 w) w (bif lH (ed P n t)then .agg (aM _ a)else .d ((aM _ a).headD default)) v []:=by
 have hop:=Ir n t ho;cases hag:lH (ed P n t)with
 |true=>
  simp only[cond_true];cases n with
  |zero=>simp[EX]at ho
  |succ n=>
   simp only[EX]at ho;split at ho
   .rename_i hu;simp[ed,hu,lH]at hag
   .rename_i hu;simp[ed,hu,lH]at hag
   .rename_i hu;simp[ed,hu,lH]at hag
   .rename_i hu;simp[ed,hu,lH]at hag
   .rename_i hu;simp[ed,hu,lH]at hag
   .rename_i fs hu;exact MA hop hv hu h
   .rename_i m e hu;exact Mz hop hv hu h
   .simp at ho
 |false=>
  simp only[cond_false];have hsz:bm (ed P n t)=1:=by rw[hag,Bool.false_or]at h1;exact cZ h1
  have he:(fun a=>[(aM (ed P n t) a).headD default])=aM (ed P n t):=by
   funext a;have hl:=bD (ed P n t) a;rw[hsz]at hl
   match hh:aM (ed P n t) a,hl with|[d],_=>rfl
  have hs:match P.underlying t with|some (.struct _)|some (.array _ _)|some (.interface _)|some (.func ..)|some (.chan ..)|some .unsafePointer|some (.map _ _)=>False|_=>True:=by
   cases n with
   |zero=>simp[EX]at ho
   |succ n=>
    simp only[EX]at ho;split at ho
    .rename_i hu;rw[hu];trivial
    .rename_i hu;rw[hu];trivial
    .rename_i hu;rw[hu];trivial
    .rename_i hu;rw[hu];trivial
    .rename_i hu;rw[hu];trivial
    .rename_i fs hu;simp[ed,hu,lH]at hag
    .rename_i m e hu;simp[ed,hu,lH]at hag
    .simp at ho
  exact P4 (d:=fun a=>(aM (ed P n t) a).headD default) (fit:=up (ed P n t)) (by rw[he];exact hop) hv hs h
def Qb(P:Program)(ts:List TypeId):Bool:=ts.all fun t=>EX P G7 t&&(lH (ed P G7 t)||jy (bm (ed P G7 t)) 1)
theorem My{P:Program}{W:World}{aL:Nat}{H:Type}{en:TypeId×Value->H}:∀(ts:List TypeId)(vs:List Value)(ds:List (DataW H))(ps:List MemPlace),DataW.TrodAll en P W 0 (fun _=>true) true ts vs ds ps->Qb P ts=true->
  (∀(j:Nat)t v,ts[j]?=some t->vs[j]?=some v->Value.okWide P W .any aL t v)->∃l,CF (ts.map (ed P G7)) l/\KV (S0 W) W (fT (ts.map fun t=>(false,Sh.x (ed P G7 t))) l) vs []:=by
 intro ts;induction ts with
 |nil=>intro vs ds ps h _ _;cases vs with|nil=>exact⟨[],rfl,rfl⟩|cons=>cases ds<;>exact h.elim
 |cons t ts ih=>
  intro vs ds ps h hok hv;cases vs with
  |nil=>cases ds<;>exact h.elim
  |cons v vs=>cases ds with|nil=>exact h.elim|cons d ds=>obtain⟨p,q,h1,h2,rfl⟩:=h;simp only[Qb,e9,af]at hok;obtain⟨a,f1,r1⟩:=OV hok.1.1 (by simpa using hok.1.2) (hv 0 t v rfl rfl) h1;obtain⟨l,f2,r2⟩:=ih vs ds q h2 (by simpa[Qb]using hok.2) fun j t' v' ht hv'=>hv (j+1) t' v' (by simpa using ht) (by simpa using hv');exact⟨.x _ a::l,⟨a,l,rfl,f1,f2⟩,[],[],rfl,r1,r2⟩
theorem OG:∀(tys:List Ty),gG ((tys.map fun t=>(false,Sh.x t)).map (·.2))=tys:=by intro tys;induction tys with|nil=>rfl|cons a r ih=>show a::gG ((r.map fun t=>(false,Sh.x t)).map (·.2))=a::r;rw[ih]
theorem Hb{P:Program}{f:FuncId}{fn:Func}{s:ChangeSpec}{kC fG handsOn again:Bool}{tb:TypeId}{H:Type}{en:TypeId×Value->H}(hl:laidOutB P=true)(hfn:P.funcs[f]?=some fn)(hbody:fn.body.isSome=true)(hname:(fn.name== "runtime.NumGoroutine")=false)
  (hts:fn.params.toList.all (fun t=>P.readableRec t&&decide (t<P.types.size))=true) (hrt:fn.resultTypes= #[tb]) (htb:P.underlying tb=some .bool) (hvars:s.vars=[])
  {W:World} {args:Array Value} {ds gs:List (DataW H)} {eB:List MemPlace} (hW:DataW.Whole en P fn.params.toList s.vars kC W args.toList ds gs eB)
  (hspec:(s.fn H (ds++gs)).results=[.lit (.bool true)]/\(s.fn H (ds++gs)).args=ds/\(s.fn H (ds++gs)).vars=[])
  (hgl:sE (S0 W) W) {aL:Nat} (hval:∀(j:Nat)t v,fn.params[j]?=some t->args[j]?=some v->Value.okWide P W .any aL t v)
  {tys:List Ty} (hty:fn.params.toList.map (ed P G7)=tys) (hok:Qb P fn.params.toList=true) {ro:Bool} {iR:List Bool} {g:oV (gG ((tys.map fun t=>(false,Sh.x t)).map (·.2)))->Option (tG [([.x .b],[])])}
  (hsp:dq P f ⟨tys.map fun t=>(false,Sh.x t),[([.x .b],[])],ro,iR,g⟩) (law:∀p,CF (gG ((tys.map fun t=>(false,Sh.x t)).map (·.2))) (mV _ p)->g p=some true):
  Calls P f args W fun e W'=>∃v,e=.returned v/\s.post en P fn kC fG handsOn again W args v W':=by
 have hW':=hW;obtain⟨p,q,hA0,hV,hpq,hfz,hnd⟩:=hW;have hA:DataW.TrodAll en P W 0 (fun _=>true) true fn.params.toList args.toList ds p:=hA0;obtain⟨l,h1,h2⟩:=My (aL:=aL) _ _ _ _ hA hok fun j t v ht hv=>hval j t v (by simpa using ht) (by simpa using hv);have h3:fn.params.toList.map (fun t=>(false,Sh.x (ed P G7 t)))=tys.map fun t=>(false,Sh.x t):=by rw[<-hty,kc];rfl
 rw[h3]at h2;rw[hty,<-OG tys]at h1;obtain⟨pl,hp,hu⟩:=h1.gR;have hg:=hsp.2 pl true (law pl (by rw[hu];exact h1));rw[<-hu]at h2;exact Ch hl hfn hbody hname hts hrt htb hvars hW' hspec hgl ⟨_,h2,hg⟩
end Go.Ev
