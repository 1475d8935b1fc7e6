/- Code: what is evaluated is what the abstract machine does. Conditions: as stated. -/
import Derived.Test.YtjjajcecekocdaaGreatKh
import Derived.Test.YtjjajcecekocdaaGreatEvY
open Bool renaming and_eq_true->ah,and_eq_true_iff->cN,and_self->lW,false_eq_true->aE
open Int renaming le_refl->mD
open List renaming all_cons->fJ,all_eq_true->aV,append_nil->bo,cons_append->aO,drop_eq_nil_of_le->fr,drop_zero->cM,headD_cons->bJ,length_append->bm,length_drop->fq,map_cons->ap,map_map->lA,map_nil->aN,mem_append->ak,mem_append_left->aG,mem_append_right->aD,mem_cons->aJ,mem_cons_of_mem->aC,mem_singleton->aq,nil_append->bB,nil_sublist->iI,replicate->aB,take_append_of_le_length->jY,take_of_length_le->bZ,take_take->ne
open List.Sublist renaming refl->bI
open Nat renaming beq->l7,ble->gZ,eq_of_beq_eq_true->dl,le_of_ble_eq_true->fD,le_refl->am,le_trans->e9,mul_le_mul_right->aI,zero_add->bk,zero_mul->gP
open Option renaming getD_none->iF,getD_some->cm
open Option.some renaming inj->aa
open Prod.mk renaming inj->ad
namespace Go.Ev
theorem Bm(j:J)(s0 s:S2):xg j s0 s=As j s0 (zD j.vs s):=rfl
theorem Bl{j:J}{s1':St}{s0 s':S2}{l:List V}(hr:R2 s1' s')(hc:xg j s0 s'=some l):∀i∈s'.wo,s0.next<=i\/i∈j.kl:=by
 obtain⟨s1c,_,_,wc,hwc,_⟩:=Am j.vs s1' s' hr;rw[Bm]at hc;unfold As at hc;split at hc
 case h_2=>simp at hc
 split at hc
 case h_2=>simp at hc
 split at hc
 case h_2=>simp at hc
 obtain⟨hchk,_⟩:=aH hc;simp only[ah,aV]at hchk;intro i hi;have:=hchk.1 i (by rw[hwc];simp[hi]);simpa[Nat.ble_eq]using this
theorem s_{j:J}{ds w:List Nat}{s1 s1':St}{s0 s' s'':S2}{l:List V}(hr0:R2 s1 s0)(hr:R2 s1' s')(hf:wZ ds w s1 s1' s0 s')(hw:∀i∈w,s0.next<=i\/i∈j.kl)(hc:xg j s0 s'=some l)(hs:uI j ds s0 l=some s''):
  ∃s1'' w',Sub s1' s1''/\R2 s1'' s''/\s''.wo=w'++s0.wo/\wZ ds w' s1 s1'' s0 s''/\∀i∈w',s0.next<=i\/i∈j.kl:=by
 obtain⟨s1c,hsub,hrc,wc,hwc,hfc⟩:=Am j.vs s1' s' hr;have hc2:=hc;rw[Bm]at hc2
 have hwcc:∀i∈wc,s0.next<=i\/i∈j.kl:=by
  unfold As at hc2;split at hc2
  case h_2=>simp at hc2
  split at hc2
  case h_2=>simp at hc2
  split at hc2
  case h_2=>simp at hc2
  obtain⟨hchk,_⟩:=aH hc2;simp only[ah,aV]at hchk;intro i hi;have:=hchk.1 i (by rw[hwc];simp[hi]);simpa[Nat.ble_eq]using this
 obtain⟨s1'',w',h1,h2,h3,h4,h5⟩:=NM (w:=wc++w) hr0 hrc (hf.trans (hfc.mono (fun t ht=>by simp at ht) fun i hi=>hi)) (fun i hi=>by
  rcases ak.1 hi with hi|hi
  .exact hwcc i hi
  .exact hw i hi) (by rw[<-Bm];exact hc) hs
 exact⟨s1'',w',hsub.trans h1,h2,h3,h4,h5⟩
theorem FC{β:Type}{s0 s':S2}{o:ql}{ds:List Nat}{k:ql->S2->Option β}{z:β}:∀(e:Ex)(x:Dk e),GK s0 o s' e=some x->H7 ds s0 k e x=some z->∃j∈e,∃l s'',xg j.2 s0 s'=some l/\uI j.2 ds s0 l=some s''/\k o s''=some z:=by
 have fin:∀(j:J)(p:qG (pQ j))(l:List V),vR (pQ j) l=some p->(match uI j ds s0 (gU (pQ j) p)with|some s=>k o s|none=>none)=some z->∃s'',uI j ds s0 l=some s''/\k o s''=some z:=by
  intro j p l h1 h2;rw[pW _ _ _ h1]at h2;split at h2
  .rename_i s'' hs;exact⟨s'',hs,h2⟩
  .simp at h2
 have key:∀(r:Ex)(o1:ql)(j:J)(x:Dk.JW j r),I0 s0 o s' o1 j r=some x->MJ ds s0 k o1 j r x=some z->∃j'∈(o1,j)::r,∃l s'',xg j'.2 s0 s'=some l/\uI j'.2 ds s0 l=some s''/\k o s''=some z:=by
  intro r;induction r with
  |nil=>
   intro o1 j x hx hz;simp only[I0]at hx;obtain⟨ho,hx2⟩:=aH hx;clear hx;obtain rfl:o=o1:=by simpa using ho
   split at hx2
   .rename_i l hl;obtain⟨s'',h1,h2⟩:=fin j x l hx2 hz;exact⟨(o,j),by simp,l,s'',hl,h1,h2⟩
   .simp at hx2
  |cons q r ih=>
   obtain⟨o2,j2⟩:=q;intro o1 j x hx hz;simp only[I0]at hx;cases hd:decide (o=o1)with
   |true=>
    rw[hd,cond_true]at hx;obtain rfl:o=o1:=by simpa using hd
    split at hx
    .rename_i l hl;split at hx
     .rename_i p hp;obtain rfl:=aa hx;obtain⟨s'',h1,h2⟩:=fin j p l hp hz;exact⟨(o,j),by simp,l,s'',hl,h1,h2⟩
     .simp at hx
    .simp at hx
   |false=>
    rw[hd,cond_false]at hx;split at hx
    .rename_i y hy;obtain rfl:=aa hx;obtain⟨j',h1,h2⟩:=ih o2 j2 y hy hz;exact⟨j',aC _ h1,h2⟩
    .simp at hx
 intro e x hx hz;cases e with|nil=>exact nomatch x|cons q r=>exact key r q.1 q.2 x hx hz
def Og{β:Type}(ds:List Nat)(s1:St)(s:S2)(k:ql->S2->Option β)(z:β)(o:ql)(s1':St):Prop:=wk (fun s1''=>∃s',R2 s1'' s'/\Fr ds s1 s1'' s s'/\k o s'=some z) s1'
theorem GX{P:Program}{tb:Dj}(htb:pM P tb)(hg:lU):∀(c:C2){β:Type}(s1:St)(s:S2)(k:ql->S2->Option β)(z:β),xe tb c s k=some z->R2 s1 s->W P (mC c) s1 (Og (mH c) s1 s k z):=by
 intro c;induction c with
 |skip=>intro β s1 s k z hz hr;exact wk.of (wk.of ⟨s,hr,Fr.refl,hz⟩)
 |exit id=>intro β s1 s k z hz hr;exact wk.of (wk.of ⟨s,hr,Fr.refl,hz⟩)
 |ret=>intro β s1 s k z hz hr;exact wk.of (wk.of ⟨s,hr,Fr.refl,hz⟩)
 |fG=>intro β s1 s k z hz hr;simp[xe]at hz
 |Kz ops dr jn=>
  intro β s1 s k z hz hr;cases jn with
  |none=>refine W.mono (fun o s1' h=>?_) (B0 (jn:=none) htb hg (show FF tb ops dr s (fun s=>k .normal s)=some z by simpa only[xe]using hz) hr);obtain⟨rfl,s',h1,h2,h3⟩:=h;exact wk.of ⟨s',h1,h2,h3⟩
  |some j=>
   simp only[xe]at hz;obtain⟨p,hp,hz⟩:=qN hz;refine W.mono (fun o s1' h=>?_) (B0 (jn:=some j) htb hg hp (hr.wo []));obtain⟨rfl,s',h1,⟨w,h2,h3⟩,h4⟩:=h;split at h4
   .rename_i l hl;rw[pW _ _ _ h4]at hz;split at hz
    .rename_i s'' hs;have hf:wZ (ops.filterMap (·.o.dst)) w s1 s1' s s':=⟨h3.le,h3.eG,h3.gl,h3.ob,h3.cR⟩
     obtain⟨s1'',w',g1,g2,g3,g4,_⟩:=s_ hr h1 hf (fun i hi=>Bl h1 hl i (by rw[h2];simp[hi])) hl hs;exact⟨s1'',g1,s'',g2,⟨w',g3,g4⟩,hz⟩
    .simp at hz
   .simp at h4
 |seq a b e iha ihb=>
  intro β s1 s k z hz hr;have go:∀(o:ql)(s1' s1'':St)(s':S2),Sub s1' s1''->R2 s1'' s'->Fr (mH a) s1 s1'' s s'->(match o with|.normal=>xe tb b s' k|o=>k o s')=some z->ut (fun s'=>W P (mC b) s' (Og (mH (.seq a b e)) s1 s k z)) (Og (mH (.seq a b e)) s1 s k z) o s1':=by intro o s1' s1'' s' hsub h1 h2 h3;have hda:∀t∈mH a,t∈mH (.seq a b e):=fun t ht=>aG _ ht;have hdb:∀t∈mH b,t∈mH (.seq a b e):=fun t ht=>aD _ ht;cases o with|normal=>refine W.sub hsub (W.mono (fun o s2 h=>?_) (ihb s1'' s' k z h3 h1));exact wk.mono h fun _⟨s3,g1,g2,g3⟩=>⟨s3,g1,(h2.mono hda).trans (g2.mono hdb),g3⟩|exit id=>exact⟨s1'',hsub,s',h1,h2.mono hda,h3⟩|ret=>exact⟨s1'',hsub,s',h1,h2.mono hda,h3⟩
  cases e with
  |nil=>simp only[xe]at hz;refine eX (W.mono (fun o s1' h=>?_) (iha s1 s _ z hz hr));obtain⟨s1'',hsub,s',h1,h2,h3⟩:=h;exact go o s1' s1'' s' hsub h1 h2 h3
  |cons q r=>
   simp only[xe]at hz;obtain⟨x,hx,hz⟩:=qN hz;refine eX (W.mono (fun o s1' h=>?_) (iha s1 {s with wo:=[]} _ x hx (hr.wo [])));obtain⟨s1'',hsub,s',h1,⟨w,h2,h3⟩,h4⟩:=h;obtain⟨j,_,l,s'',g1,g2,g3⟩:=FC (q::r) x h4 hz;have hf:wZ (mH a) w s1 s1'' s s':=⟨h3.le,h3.eG,h3.gl,h3.ob,h3.cR⟩
   obtain⟨s2,w',k1,k2,k3,k4,_⟩:=s_ hr h1 hf (fun i hi=>Bl h1 g1 i (by rw[h2];simp[hi])) g1 g2;exact go o s1' s2 s'' (hsub.trans k1) k2 ⟨w',k3,k4⟩ g3
 |cond c a b iha ihb=>
  intro β s1 s k z hz hr;have hda:∀t∈mH a,t∈mH (.cond c a b):=fun t ht=>aG _ ht;have hdb:∀t∈mH b,t∈mH (.cond c a b):=fun t ht=>aD _ ht
  have go:∀t,jB s1.cR c=some (tB t)->(bif t then xe tb a s k else xe tb b s k)=some z->W P (mC (.cond c a b)) s1 (Og (mH (.cond c a b)) s1 s k z):=by
   intro t hc hz;refine xC (t:=t) hc (fun ht=>?_) fun ht=>?_
   .subst ht;exact W.mono (fun o s2 h=>wk.mono h fun _⟨s3,g1,g2,g3⟩=>⟨s3,g1,g2.mono hda,g3⟩) (iha s1 s k z hz hr)
   .subst ht;exact W.mono (fun o s2 h=>wk.mono h fun _⟨s3,g1,g2,g3⟩=>⟨s3,g1,g2.mono hdb,g3⟩) (ihb s1 s k z hz hr)
  simp only[xe]at hz;split at hz
  .rename_i t ht;obtain⟨x,h1,h2,_⟩:=nV hg hr ht;rw[vP h2]at h1;exact go t h1 hz
  .rename_i t ht;obtain⟨x,h1,h2,_⟩:=nV hg hr ht;rw[E2 h2]at h1;exact go t h1 hz
  .simp at hz
 |block id a ih=>
  intro β s1 s k z hz hr;simp only[xe]at hz;refine J_ (W.mono (fun o s1' h=>?_) (ih s1 s _ z hz hr));cases o with
  |normal=>exact h
  |ret=>exact h
  |exit i=>
   simp only[vI];obtain⟨s1'',hsub,s',h1,h2,h3⟩:=h;by_cases e:i=id
   .subst e;rw[if_pos rfl];simp only[beq_self_eq_true,cond_true]at h3;exact⟨s1'',hsub,s',h1,h2,h3⟩
   .rw [if_neg e];have e':(i==id)=false:=by simpa using e
    simp only[e',cond_false]at h3;exact⟨s1'',hsub,s',h1,h2,h3⟩
 |loop j e a ih=>
  intro β s1 s k z hz hr;simp only[xe]at hz;obtain⟨hkl,hz⟩:=aH hz;have hkl:∀x∈e,∀i∈j.kl,i∈x.2.kl:=fun x hx i hi=>by have:=aV.1 (aV.1 hkl x hx) i hi;simpa using this
  split at hz
  case h_2=>simp at hz
  rename_i l hl;split at hz
  case h_2=>simp at hz
  rename_i p0 hp0;obtain⟨x,hx,hz⟩:=qN hz;obtain⟨n,hn⟩:=o5.1 hx;clear hx
  generalize hf:(fun(p:qG (pQ j))=>(match uI j (mH a) s (gU (pQ j) p)with
     |some s1=>xe tb a {s1 with wo:=[]} fun o s'=>(match o with
      |.normal=>(match xg j s s' with|some l=>(match vR (pQ j) l with|some q=>some (Sum.inl q)|none=>none)|none=>none)
      |o=>(match GK s o s' e with|some x=>some (Sum.inr x)|none=>none))
     |none=>none:Option (qG (pQ j)⊕Dk e)))=f at hn
  have hrs:∀n p,ku f n p=some x->∃s2,uI j (mH a) s (gU (pQ j) p)=some s2:=by
   intro n p h;cases n with
   |zero=>simp[ku]at h
   |succ n=>
    cases hq:uI j (mH a) s (gU (pQ j) p)with
    |some s2=>exact⟨s2,rfl⟩
    |none=>
     have:f p=none:=by rw[<-hf];simp only[hq]
     simp[ku,this]at h
  refine⟨fun n t=>∃p s2 w,ku f n p=some x/\uI j (mH a) s (gU (pQ j) p)=some s2/\R2 t s2/\wZ (mH a) w s1 t s s2/\∀i∈w,s.next<=i\/i∈j.kl,n,?_,?_⟩
  .obtain ⟨s2,hs2⟩:=hrs n p0 hn;have hs3:=hs2;rw[pW _ _ _ hp0]at hs3;obtain⟨s1'',w',g1,g2,_,g4,g5⟩:=s_ (w:=[]) hr (hr.wo []) ⟨am _,jq.refl _ _,rfl,fun _ _ _=>⟨rfl,fun _ _ _ h=>h⟩,fun _ _ _ h _=>h⟩ (fun i hi=>by simp at hi) hl hs3;exact⟨s1'',g1,p0,s2,w',hn,hs2,g2,g4,g5⟩
  .rintro n t ⟨p,s2,w,h1,h2,h3,h4,h5⟩;cases n with
   |zero=>simp[ku]at h1
   |succ n=>
    have hfp:f p=xe tb a {s2 with wo:=[]} fun o s'=>(match o with
      |.normal=>(match xg j s s' with|some l=>(match vR (pQ j) l with|some q=>some (Sum.inl q)|none=>none)|none=>none)
      |o=>(match GK s o s' e with|some x=>some (Sum.inr x)|none=>none)):=by
     rw[<-hf];simp only[h2]
    have hend:∀(o:ql)(t' t'':St)(s':S2)(y:Dk e),o≠.normal->Sub t' t''->R2 t'' s'->Fr (mH a) t t'' {s2 with wo:=[]} s'->GK s o s' e=some y->y=x->Og (mH a) s1 s k z o t':=by
     rintro o t' t'' s' y _ hsub r1 ⟨wb,e1,e2⟩ hy rfl;obtain⟨j',hj',l',s'',g1,g2,g3⟩:=FC e y hy hz;have hfw:wZ (mH a) (wb++w) s1 t'' s s':=h4.trans ⟨e2.le,e2.eG,e2.gl,e2.ob,e2.cR⟩
     obtain⟨s3,w',k1,k2,k3,k4,_⟩:=s_ hr r1 hfw (fun i hi=>by
      rcases ak.1 hi with hi|hi
      .exact Bl r1 g1 i (by rw[e1];simp[hi])
      .exact (h5 i hi).imp id (hkl j' hj' i)) g1 g2
     exact⟨s3,hsub.trans k1,s'',k2,⟨w',k3,k4⟩,g3⟩
    simp only[ku]at h1;cases hr1:f p with
    |none=>simp[hr1]at h1
    |some r=>
     rw[hr1]at h1;rw[hfp]at hr1;refine W.mono (fun o t' hq=>?_) (ih t _ _ r hr1 (h3.wo []));obtain⟨t'',hsub,s',r1,r2,r3⟩:=hq;cases o with
     |normal=>
      simp only at r3;split at r3
      .rename_i l2 hl2;split at r3
       .rename_i q hq;obtain rfl:=aa r3;simp only at h1;obtain⟨wb,e1,e2⟩:=r2;obtain⟨s3,hs3⟩:=hrs n q h1;have hs4:=hs3;rw[pW _ _ _ hq]at hs4;have hfw:wZ (mH a) (wb++w) s1 t'' s s':=h4.trans ⟨e2.le,e2.eG,e2.gl,e2.ob,e2.cR⟩
        obtain⟨t3,w',k1,k2,_,k4,k5⟩:=s_ hr r1 hfw (fun i hi=>by
         rcases ak.1 hi with hi|hi
         .exact Bl r1 hl2 i (by rw[e1];simp[hi])
         .exact h5 i hi) hl2 hs4
        exact⟨n,Nat.lt_succ_self n,t3,hsub.trans k1,q,s3,w',h1,hs3,k2,k4,k5⟩
       .simp at r3
      .simp at r3
     |exit id=>
      simp only at r3;split at r3
      .rename_i y hy;obtain rfl:=aa r3;exact hend (.exit id) t' t'' s' y (by simp) hsub r1 r2 hy (aa h1)
      .simp at r3
     |ret=>
      simp only at r3;split at r3
      .rename_i y hy;obtain rfl:=aa r3;exact hend .ret t' t'' s' y (by simp) hsub r1 r2 hy (aa h1)
      .simp at r3
section
variable{h:H2}{n:Nat}{h1:bh}
theorem B4{id sz lo len:Nat}{rows:List (List D)}(ho:ao h1 id=some (.aF sz rows)\/ao h1 id=some (.pD sz rows))(hl:lo+len<=rows.length)(szo:Nat):
  ∃t bi rd,(∀k,dn h1 k (.bP szo id lo len)=some (t,bi,rd))/\xd t=.sl szo ((rows.drop lo).take len)/\bi.Sublist [id]/\(ao h1 id=some (.aF sz rows)->t=.sl szo ((rows.drop lo).take len))/\wQ t=true:=by
 by_cases ha:ao h1 id=some (.aF sz rows)
 .exact ⟨.sl szo ((rows.drop lo).take len),[id],[id],fun k=>by cases k<;>simp only[dn,ha,if_pos hl],rfl,bI _,fun _=>rfl,rfl⟩
 .have hi:=ho.resolve_left ha;exact⟨.d (.sl szo ((rows.drop lo).take len)),[],[id],fun k=>by cases k<;>simp only[dn,hi,if_pos hl],rfl,iI _,fun e=>absurd e ha,rfl⟩
theorem KF(hr:HR n h1 h){id ver:Nat}{t:Ty}{s:Sl (El t)}(ho:fO h id=some (.ar t s ver)\/fO h id=some (.im t s ver)):
  ∃q bi rd,(∀k,dn h1 k (kr (bG t) (aP t) id s)=some (q,bi,rd))/\xd q=vU (bG t) (aP t) s/\bi.Sublist [id]/\wQ q=true:=by
 cases s with
 |nil=>exact⟨_,_,_,fun k=>vi k _,rfl,iI _,rfl⟩
 |mk l=>
  have hb:ao h1 id=some (.aF (bG t) (l.map (aP t)))\/ao h1 id=some (.pD (bG t) (l.map (aP t))):=by
   rcases ho with ho|ho
   .exact .inl ((hr.ob id _ ho).2.1.2.2 l rfl)
   .exact .inr ((hr.ob id _ ho).2.1.2.2 l rfl)
  obtain⟨q,bi,rd,g1,g2,g3,_,g5⟩:=B4 (lo:=0) (len:=(l.map (aP t)).length) hb (by omega) (bG t);rw[tY]at g2;exact⟨q,bi,rd,g1,g2,g3,g5⟩
theorem I4{t:Ty}(s:Sl (Sl (El t))):xd (xR t s)=vU 1 (aP (.sl t)) (s:Sl (El (.sl t))):=by cases s with|nil=>rfl|mk l=>simp only[xR,xd,vU,lA];congr 1;exact List.map_congr_left fun r _=>by cases r<;>rfl
theorem KG(hr:HR n h1 h){id:Nat}{t:Ty}{s:Sl (Sl (El t))}(ho:fO h id=some (.rw t s none)):
  ∃bi rd,(∀k,dn h1 k (kr 1 (aP (.sl t)) id (s:Sl (El (.sl t))))=some (xR t s,bi,rd))/\bi.Sublist [id]:=by
 cases s with|nil=>exact⟨_,_,fun k=>vi k _,iI _⟩|mk l=>exact⟨_,_,fun k=>Rt (k:=k) ((hr.ob id _ ho).2.1.2.2 l rfl),bI _⟩
theorem Fd(hr:HR n h1 h){id ver lo:Nat}{t:Ty}{r:Sl (El t)}(hk:eW n h (.sb id ver lo t r))(ha:za h id ver=true):
  ∃q bi rd,(∀k,dn h1 k (xp id lo t r)=some (q,bi,rd))/\xd q=vU (bG t) (aP t) r/\bi.Sublist [id]/\((∃u s v,fO h id=some (.ar u s v))->q=MA (bG t) (aP t) r)/\wQ q=true:=by
 obtain⟨u,s,ho⟩:=lu ha;obtain⟨_,hc⟩:=hk.2 u s ver ho;obtain⟨hz,hc⟩:=hc rfl;cases r with
 |nil=>exact⟨_,_,_,fun k=>vi k _,rfl,iI _,fun _=>rfl,rfl⟩
 |mk m=>
  cases s with
  |nil=>exact hc.elim
  |mk l=>
   obtain⟨hl,he⟩:=hc
   have hb:ao h1 id=some (.aF (bG u) (l.map (aP u)))\/ao h1 id=some (.pD (bG u) (l.map (aP u))):=by
    rcases ho with ho|ho
    .exact .inl ((hr.ob id _ ho).2.1.2.2 l rfl)
    .exact .inr ((hr.ob id _ ho).2.1.2.2 l rfl)
   obtain⟨q,bi,rd,g1,g2,g3,g4,g5⟩:=B4 (lo:=lo) (len:=(m.map (aP t)).length) hb (by simpa using hl) (bG t);rw[show(m.map (aP t)).length=m.length by simp,he]at g2 g4;refine⟨q,bi,rd,fun k=>?_,g2,g3,?_,g5⟩
   .have:=g1 k;simpa[xp]using this
   .rintro ⟨u',s',v',ho'⟩;rcases ho with ho|ho
    .exact g4 ((hr.ob id _ ho).2.1.2.2 l rfl)
    .rw [ho']at ho;simp at ho
theorem GC(ds:List D):(ds.map T.d).map xd=ds:=by induction ds with|nil=>rfl|cons d ds ih=>simp only[ap,xd,ih]
theorem I6(hr:HR n h1 h):∀(v w:V)(l:List Nat)(cs:List C),jb h v=some (w,l)->eY h v cs->eW n h v->ig h v=true->
  ∃ts bi rd,(∀k,cs.length<=k->iB h1 k cs=some (ts,bi,rd))/\eY h w ((ts.map xd).map .d)/\bi.Sublist l/\cs.length=ts.length/\tw w=tw v/\∀q∈ts,wQ q=true:=by
 have done:∀(v:V)(ds:List D),eY h v (ds.map .d)->∃ts bi rd,(∀k,(ds.map C.d).length<=k->iB h1 k (ds.map .d)=some (ts,bi,rd))/\eY h v ((ts.map xd).map .d)/\bi.Sublist ([]:List Nat)/\(ds.map C.d).length=ts.length/\tw v=tw v/\∀q∈ts,wQ q=true:=fun v ds hv=>⟨ds.map .d,[],[],fun k hk=>oZ ds k (by simpa using hk),by rw[GC];exact hv,bI _,by simp,rfl,fun q hq=>by obtain⟨d,_,rfl⟩:=List.mem_map.1 hq;rfl⟩
 have one:∀(c:C)(q:T)(bi rd:List Nat),(∀k,dn h1 k c=some (q,bi,rd))->∀k,[c].length<=k->iB h1 k [c]=some ([q],bi,rd):=fun c q bi rd hq k hk=>by
  obtain⟨k,rfl⟩:∃k',k=k'+1:=⟨k-1,by simp at hk;omega⟩
  exact qV (hq k)
 intro v;induction v with
 |so id=>
  intro w l cs hf hv hk ha;simp only[jb]at hf;split at hf
  .rename_i t s l' hs;obtain⟨rfl,rfl⟩:=ad (aa hf);obtain⟨ver,ho,e⟩:=uF hs;have e:l'=[id]:=e;subst e;obtain⟨c,rfl,hc,_⟩:=hv;rw[hc _ (lF ho)];obtain⟨q,bi,rd,q1,q2,q3,q5⟩:=KF hr ho;have hd:jW t=true:=by rcases ho with ho|ho<;>exact(hr.ob id _ ho).2.1.1
   exact⟨[q],bi,rd,one _ q bi rd q1,⟨hd,by simp only[ap,aN,q2];rfl⟩,q3,rfl,rfl,fun p hp=>by obtain rfl:=aq.1 hp;exact q5⟩
  .simp at hf
 |sr id=>
  intro w l cs hf hv hk ha;simp only[jb]at hf;split at hf
  .rename_i t s ho;obtain⟨rfl,rfl⟩:=ad (aa hf);obtain⟨c,rfl,hc,_⟩:=hv;rw[hc _ (sI ho)];obtain⟨bi,rd,q1,q3⟩:=KG hr ho;exact⟨[_],bi,rd,one _ _ bi rd q1,⟨(hr.ob id _ ho).2.1.1,by simp only[ap,aN,I4];rfl⟩,q3,rfl,rfl,fun p hp=>by obtain rfl:=aq.1 hp;cases s<;>rfl⟩
  .simp at hf
 |sb id ver lo t r=>intro w l cs hf hv hk ha;simp only[jb,t9]at hf;obtain⟨rfl,rfl⟩:=ad (aa hf);obtain⟨hd,ha⟩:=cN.1 ha;have ha:za h id ver=true:=ha;obtain⟨c,rfl,hc,_⟩:=hv;rw[hc ha];obtain⟨q,bi,rd,q1,q2,q3,_,q5⟩:=Fd hr hk ha;exact⟨[q],bi,rd,one _ q bi rd q1,⟨hd,by simp only[ap,aN,q2];rfl⟩,q3,rfl,rfl,fun p hp=>by obtain rfl:=aq.1 hp;exact q5⟩
 |rc r ih=>
  intro w l cs hf hv hk ha;simp only[jb]at hf;split at hf
  .rename_i w' l' hw;obtain⟨rfl,rfl⟩:=ad (aa hf);obtain⟨ts,bi,rd,a1,a2,a3,a4,_,a6⟩:=ih w' l' cs hw hv hk ha;exact⟨ts,bi,rd,a1,a2,a3,a4,rfl,a6⟩
  .simp at hf
 |co a r iha ihr=>
  intro w l cs hf hv hk ha;simp only[jb]at hf;split at hf
  .rename_i x l1 y l2 hx hy;obtain⟨rfl,rfl⟩:=ad (aa hf);obtain⟨ca,cr,rfl,h2,h3⟩:=hv;simp only[ig,ah]at ha;obtain⟨ts,bi,rd,a1,a2,a3,a4,_,a6⟩:=iha x l1 ca hx h2 hk.1 ha.1;obtain⟨us,own2,rd2,b1,b2,b3,b4,_,b6⟩:=ihr y l2 cr hy h3 hk.2 ha.2;refine⟨ts++us,bi++own2,rd++rd2,fun k hk=>?_,⟨_,_,by simp,a2,b2⟩,a3.append b3,by simp[a4,b4],rfl,fun q hq=>(ak.1 hq).elim (a6 q) (b6 q)⟩;simp only[bm]at hk;exact vh (a1 k (by omega)) (b1 _ (by omega)) (by omega)
  .simp at hf
 |x t v=>intro w l cs hf hv hk ha;obtain⟨rfl,rfl⟩:=ad (aa hf);obtain⟨hd,rfl⟩:=hv;exact done _ _ ⟨hd,rfl⟩
 |kb c=>intro w l cs hf hv hk ha;obtain⟨rfl,rfl⟩:=ad (aa hf);obtain rfl:=hv;exact done (.kb c) [_] rfl
 |nl k=>intro w l cs hf hv hk ha;obtain⟨rfl,rfl⟩:=ad (aa hf);obtain rfl:=hv;exact done (.nl k) [_] rfl
 |fl q=>
  intro w l cs hf hv hk ha;obtain⟨rfl,rfl⟩:=ad (aa hf);obtain⟨hp,rfl⟩:=hv;have e:eQ q=(q.map D.lit).map C.d:=by simp[eQ]
  rw[e];exact done (.fl q) (q.map D.lit) ⟨hp,e.symm⟩
 |ni=>intro w l cs hf hv hk ha;obtain⟨rfl,rfl⟩:=ad (aa hf);obtain rfl:=hv;exact done .ni [] rfl
 |pt t v=>intro w l cs hf hv hk ha;obtain⟨rfl,rfl⟩:=ad (aa hf);obtain⟨hd,rfl⟩:=hv;exact done (.pt t v) [_] ⟨hd,rfl⟩
 |fn z f q ih=>intro w l cs hf hv hk ha;cases z with|true=>obtain⟨rfl,rfl⟩:=ad (aa hf);obtain⟨ds,hd,rfl⟩:=hv;exact done (.fn true f q) [_] ⟨ds,hd,rfl⟩|false=>simp[jb]at hf
 |_=>intro w l cs hf hv hk ha;simp[jb]at hf
def Fy:Sh->Bool
 |.x _=>true
 |_=>false
theorem JN:∀(c:Sh)(ln:Bool)(v:V)(l:List V)(i:List Nat),dQ h c ln v=some (l,i)->l.length=(Lt c).length:=by
 intro c;induction c with
 |x t=>
  intro ln v l i ha;cases ln with
  |true=>simp[dQ]at ha
  |false=>
   simp only[dQ]at ha;split at ha
   .obtain ⟨rfl,_⟩:=ad (aa ha);rfl
   .simp at ha
 |os t=>
  intro ln v l i ha;cases ln with
  |true=>simp[dQ]at ha
  |false=>
   cases v with
   |so id=>
    simp only[dQ]at ha;split at ha
    .split at ha
     .obtain ⟨rfl,_⟩:=ad (aa ha);rfl
     .simp at ha
    .simp at ha
   |nl k=>cases k with|zero=>obtain⟨rfl,_⟩:=ad (aa ha);rfl|succ=>simp[dQ]at ha
   |_=>simp[dQ]at ha
 |rw t=>
  intro ln v l i ha;cases ln with
  |true=>simp[dQ]at ha
  |false=>
   cases v with
   |sr id=>
    simp only[dQ]at ha;split at ha
    .split at ha
     .obtain ⟨rfl,_⟩:=ad (aa ha);rfl
     .simp at ha
    .simp at ha
   |nl k=>cases k with|zero=>obtain⟨rfl,_⟩:=ad (aa ha);rfl|succ=>simp[dQ]at ha
   |_=>simp[dQ]at ha
 |mp kt vt=>
  intro ln v l i ha;cases ln with
  |true=>simp[dQ]at ha
  |false=>
   cases v with
   |om id=>
    simp only[dQ]at ha;split at ha
    .split at ha
     .obtain ⟨rfl,_⟩:=ad (aa ha);rfl
     .simp at ha
    .simp at ha
   |_=>simp[dQ]at ha
 |pb t c ih=>
  intro ln v l i ha;cases ln with
  |true=>simp[dQ]at ha
  |false=>
   cases v with
   |op id u p=>
    cases p with
    |cons=>simp[dQ]at ha
    |nil=>
     simp only[dQ]at ha;split at ha
     .obtain ⟨_,ha⟩:=aH ha;split at ha
      .rename_i hh;obtain⟨rfl,_⟩:=ad (aa ha);exact ih _ _ _ _ hh
      .simp at ha
     .simp at ha
   |_=>simp[dQ]at ha
 |nl k=>
  intro ln v l i ha;cases ln with
  |true=>simp[dQ]at ha
  |false=>cases v with|nl k'=>simp only[dQ]at ha;obtain⟨_,ha⟩:=aH ha;obtain⟨rfl,_⟩:=ad (aa ha);rfl|_=>simp[dQ]at ha
 |st c ih=>
  intro ln v l i ha;cases ln with
  |true=>simp[dQ]at ha
  |false=>
   cases v with
   |rc q=>exact ih true q l i ha
   |x t v=>cases t with|st u=>exact ih true _ l i ha|_=>simp[dQ]at ha
   |_=>simp[dQ]at ha
 |pr a c iha ihc=>
  intro ln v l i ha;cases ln with
  |false=>simp[dQ]at ha
  |true=>
   cases v with
   |co x r=>
    simp only[dQ]at ha;split at ha
    .rename_i l1 i1 l2 i2 h2 h3;obtain⟨rfl,rfl⟩:=ad (aa ha)
     have hA:l1.length=(Lt a).length:=by
      split at h2
      .unfold M0 at h2;split at h2
       .obtain ⟨rfl,_⟩:=ad (aa h2);rfl
       .simp at h2
      .unfold Rr at h2;split at h2
       .obtain ⟨_,h2⟩:=aH h2;split at h2
        .obtain ⟨rfl,_⟩:=ad (aa h2);rfl
        .simp at h2
       .simp at h2
      .exact iha _ _ _ _ h2
     rw[bm,hA,ihc _ _ _ _ h3];simp[Lt]
    .simp at ha
   |_=>simp[dQ]at ha
 |ni=>
  intro ln v l i ha;cases ln with
  |false=>cases v<;>simp[dQ]at ha
  |true=>cases v with|ni=>obtain⟨rfl,_⟩:=ad (aa ha);rfl|_=>simp[dQ]at ha
 |_=>intro ln v l i ha;cases ln<;>cases v<;>simp[dQ]at ha
theorem LS{c:Sh}{v:V}{l:List V}{i:List Nat}(ha:dQ h c false v=some (l,i))(hx:Fy c=false):tw v=xk c/\ft h v=sF h v:=by
 cases c with
 |x t=>simp[Fy]at hx
 |os t=>cases v<;>first|exact⟨rfl,rfl⟩|simp[dQ]at ha
 |rw t=>cases v<;>first|exact⟨rfl,rfl⟩|simp[dQ]at ha
 |pb t c=>cases v<;>first|exact⟨rfl,rfl⟩|simp[dQ]at ha
 |mp kt vt=>cases v<;>first|exact⟨rfl,rfl⟩|simp[dQ]at ha
 |nl k=>cases v<;>first|exact⟨rfl,rfl⟩|simp[dQ]at ha
 |st c=>
  cases v with
  |rc q=>exact⟨rfl,rfl⟩
  |x t v=>cases t with|st u=>exact⟨rfl,rfl⟩|_=>simp[dQ]at ha
  |_=>simp[dQ]at ha
 |_=>cases v<;>simp[dQ]at ha
theorem sO{c:C}{ts:List T}{bi rd:List Nat}(hp:iB h1 301 [c]=some (ts,bi,rd)):∃t rd',dn h1 300 c=some (t,bi,rd')/\ts=[t]:=by
 simp only[iB,ph]at hp;split at hp
 .rename_i t a i xs b j hc hn;obtain⟨rfl,e⟩:=ad (aa hp);obtain⟨rfl,rfl⟩:=ad e;obtain⟨rfl,e⟩:=ad (aa hn);obtain⟨rfl,rfl⟩:=ad e;exact⟨t,i,by simpa using hc,rfl⟩
 .simp at hp
theorem HZ(hr:HR n h1 h){c:Sh}{v:V}{l:List V}{i:List Nat}{x:TV}(hc:Kx h c v=some (l,i))(hx:ft h v x)(hk:eW n h v)(ha:ig h v=true)(hf:gZ (pj c) 300=true):
  l.length=(Lt c).length/\∃r0 bi,p_ h1 x=some (r0,bi)/\bi.Sublist i/\∀rest,(if(Fy c&&D5 r0)=true then GP r0 else r0)=(bif xk c then .agg (ff c (l++rest)).1 else .c ((ff c (l++rest)).1.headD default))/\(ff c (l++rest)).2=rest:=by
 have hf:pj c<=300:=fD hf;have main:Fy c=false->dQ h c false v=some (l,i)->l.length=(Lt c).length/\∃r0 bi,p_ h1 x=some (r0,bi)/\bi.Sublist i/\∀rest,(if(Fy c&&D5 r0)=true then GP r0 else r0)=(bif xk c then .agg (ff c (l++rest)).1 else .c ((ff c (l++rest)).1.headD default))/\(ff c (l++rest)).2=rest:=by intro hX hc;obtain⟨hag,htv⟩:=LS hc hX;rw[htv]at hx;obtain⟨cs,h2,h3,h4⟩:=hx;obtain⟨ts,bi,rd,g1,g2,g3,_,_,g6,_⟩:=wC hr c false v l i cs hc h2 hk;refine⟨JN _ _ _ _ _ hc,?_⟩;cases hg:xk c with|true=>obtain rfl:=h3 (hag.trans hg);refine⟨.agg ts,bi,by simp only[p_,g1 300 hf],g3,fun rest=>?_⟩;rw[g2 rest,hX];exact⟨rfl,rfl⟩|false=>obtain⟨c1,rfl,rfl⟩:=h4 (hag.trans hg);obtain⟨t,rd',p1,rfl⟩:=sO (g1 301 (by omega));refine⟨.c t,bi,by simp only[p_,p1],g3,fun rest=>?_⟩;rw[g2 rest,hX];exact⟨rfl,rfl⟩
 cases c with
 |x t=>
  simp only[Kx]at hc;split at hc
  .rename_i w l' hw;split at hc
   .rename_i y hy;obtain⟨rfl,rfl⟩:=ad (aa hc);have h5:sF h v x:=by cases v with|tp q=>simp[jb]at hw|no=>simp[ig]at ha|gn=>simp[ig]at ha|_=>exact hx
    obtain⟨cs,h2,h3,h4⟩:=h5;obtain⟨ts,bi,rd,g1,g2,g3,g4,g5,g6⟩:=I6 hr v w l' cs hw h2 hk ha;have e:=iN w false t y _ hy g2;have e:=pA e;have hag:tw v=li t:=g5.symm.trans (wv hy);have hlen:cs.length=bG t:=by rw[g4,<-bH t y,<-e,List.length_map]
    have hf2:bG t+1<=300:=hf;refine⟨rfl,?_⟩;cases hg:li t with|true=>obtain rfl:=h3 (hag.trans hg);refine⟨.agg ts,bi,by simp only[p_,g1 300 (by omega)],g3,fun rest=>⟨?_,rfl⟩⟩;have hok:D5 (.agg ts)=true:=aV.2 g6;simp only[Fy,hok,lW,if_true,cond_true,GP,xk,hg,ff,aO,bB,R.agg.injEq];rw[<-e,lA];rfl|false=>obtain⟨c1,rfl,rfl⟩:=h4 (hag.trans hg);obtain⟨q,rd',p1,rfl⟩:=sO (g1 301 (by simp));refine⟨.c q,bi,by simp only[p_,p1],g3,fun rest=>⟨?_,rfl⟩⟩;have hok:D5 (.c q)=true:=g6 q (by simp);simp only[Fy,hok,lW,if_true,GP,xk,hg,cond_false,ff,aO,bB,R.c.injEq];rw[<-e];rfl
   .simp at hc
  .simp at hc
 |os t=>
  cases v with
  |sb id ver lo u r=>
   simp only[Kx]at hc;split at hc
   .rename_i u0 s0 v0 ho;split at hc
    .rename_i s hs;obtain⟨rfl,rfl⟩:=ad (aa hc);obtain⟨e,rfl⟩:=cE hs;cases e;obtain rfl:=qo hx ha;obtain⟨q,bi,rd,q1,_,q3,q4,_⟩:=Fd hr hk (cN.1 ha).2;obtain rfl:=q4 ⟨_,_,_,ho⟩;exact⟨rfl,.c (MA (bG t) (aP t) r),bi,by simp only[p_,q1],q3,fun rest=>⟨rfl,rfl⟩⟩
    .simp at hc
   .simp at hc
  |_=>exact main rfl hc
 |_=>exact main rfl hc
theorem DP(hr:HR n h1 h):∀(cs:List Sh)(vs:List V)(l:List V)(i:List Nat)(xs:List TV),zY h cs vs=some (l,i)->l9 h vs xs->(∀v∈vs,eW n h v/\ig h v=true)->cs.all (fun c=>gZ (pj c) 300)=true->
  l.length=(eO cs).length/\∃rs0 bi,qw h1 xs=some (rs0,bi)/\bi.Sublist i/\qe (cs.map Fy) rs0=ja cs l:=by
 intro cs;induction cs with
 |nil=>intro vs l i xs hc hx _ _;cases vs with|cons=>simp[zY]at hc|nil=>obtain⟨rfl,rfl⟩:=ad (aa hc);rw[kR hx];exact⟨rfl,[],[],rfl,bI _,rfl⟩
 |cons c cs ih=>
  intro vs l i xs hc hx hk hf;cases vs with
  |nil=>simp[zY]at hc
  |cons v vs=>
   simp only[zY]at hc;split at hc
   .rename_i l1 i1 l2 i2 h2 h3;obtain⟨rfl,rfl⟩:=ad (aa hc);obtain⟨y,ys,rfl,hy,hys⟩:=fT hx;simp only[fJ,ah]at hf;obtain⟨e1,r0,bi,a1,a2,a3⟩:=HZ hr h2 hy (hk v (by simp)).1 (hk v (by simp)).2 hf.1;obtain⟨e2,rs0,own2,b1,b2,b3⟩:=ih vs l2 i2 ys h3 hys (fun w hw=>hk w (by simp[hw])) hf.2;refine⟨by simp[eO,e1,e2],r0::rs0,bi++own2,by simp only[qw,a1,b1],a2.append b2,?_⟩;obtain⟨c1,c2⟩:=a3 l2;simp only[ap,qe,ja,c2,b3];rw[<-c1]
   .simp at hc
theorem DO(hr:HR n h1 h):∀(cs:List Sh)(g:V)(l:List V)(i:List Nat)(xs:List C),zX h cs (zM g)=some (l,i)->Hw h g xs->eW n h g->cs.all (fun c=>gZ (pj c) 300&&!Fy c)=true->
  ∃bi,tD h1 xs (kG cs l) bi/\bi.Sublist i:=by
 intro cs;induction cs with
 |nil=>intro g l i xs hc hx _ _;cases g with|ni=>obtain⟨rfl,rfl⟩:=ad (aa hc);obtain rfl:=hx;exact⟨[],.nil,bI _⟩|co a r=>simp[zM,zX]at hc|_=>exact hx.elim
 |cons c cs ih=>
  intro g l i xs hc hx hk hf;cases g with
  |ni=>simp[zM,zX]at hc
  |co a r=>
   simp only[zM,zX]at hc;split at hc
   .rename_i l1 i1 l2 i2 h2 h3;obtain⟨rfl,rfl⟩:=ad (aa hc);obtain⟨y,ys,rfl,hy,hys⟩:=hx;simp only[fJ,ah,Bool.not_eq_true']at hf;obtain⟨own2,b1,b2⟩:=ih r l2 i2 ys h3 hys hk.2 (by simpa using hf.2);have CG:(bif ig h a then dQ h c false a else none)=some (l1,i1)->∃bi,tD h1 (y::ys) (kG (c::cs) (l1++l2)) bi/\bi.Sublist (i1++i2):=by intro h2;obtain⟨ha,h2⟩:=aH h2;obtain⟨ts,bi,rd,g1,g2,g3,_⟩:=wC hr c false a l1 i1 [y] h2 (hy ha) hk.1;have hfu:pj c<=300:=fD hf.1.1;obtain⟨t,rd',p1,rfl⟩:=sO (g1 301 (by omega));refine⟨bi++own2,?_,g3.append b2⟩;simp only[kG,g2 l2,bJ];exact .cons p1 b1
    cases c with|gn=>obtain⟨rfl,rfl⟩:=ad (aa (show some (([]:List V),([]:List Nat))=some (l1,i1)from h2));exact⟨own2,.j6 b1,b2⟩|_=>exact CG h2
   .simp at hc
  |_=>exact hx.elim
end
theorem Gc(hg:lU){s1:St}{s:S2}(hr:R2 s1 s){r:RV}{v:V}(h:Kw s r=some v):∃x,sL s1 r=some x/\ft s.heap v x/\eW s.next s.heap v/\ig s.heap v=true:=by
 cases r with
 |tmp t=>exact nV hg hr (o:=.tmp t) h
 |cell t g n=>
  simp only[Kw]at h;split at h
  .rename_i p hp;split at h
   .rename_i w l hl;obtain⟨hc,h⟩:=aH h;obtain rfl:=aa h;obtain⟨x,h1,h2,h3,h4⟩:=nV hg hr hp;obtain⟨y,h5,h6,h7⟩:=we (nx:=0) (c:=cX) hr.hr hl hc h2 h3;refine⟨y,?_,h6,h7,(od hc).2.2.2⟩;have h1:bQ s1.cR t=some x:=h1;simp only[sL,h1];cases x with
    |c pc=>
     simp only[bX]at h5;split at h5
     .rename_i z au hz;obtain⟨rfl,_⟩:=ad (aa h5);simp only[hz]
     .simp at h5
    |_=>simp[bX]at h5
   .simp at h
  .simp at h
theorem GD(hg:lU){s1:St}{s:S2}(hr:R2 s1 s):∀(ki:List RV)(vs:List V),KZ (Kw s) ki=some vs->∃xs,dz (ki.map (sL s1))=some xs/\l9 s.heap vs xs/\∀v∈vs,eW s.next s.heap v/\ig s.heap v=true:=by
 intro ki;induction ki with
 |nil=>intro vs h;obtain rfl:=aa h;exact⟨[],rfl,trivial,fun v hv=>by simp at hv⟩
 |cons r ki ih=>
  intro vs h;simp only[KZ]at h;split at h
  .rename_i x y hx hy;obtain rfl:=aa h;obtain⟨x1,a1,a2,a3⟩:=Gc hg hr hx;obtain⟨xs,b1,b2,b3⟩:=ih y hy;refine⟨x1::xs,by simp only[ap,dz,a1,b1],⟨a2,b2⟩,fun v hv=>?_⟩;rcases aJ.1 hv with rfl|hv
   .exact a3
   .exact b3 v hv
  .simp at h
def Pt(al:Wy):Bool:=al.all fun w=>w.1.all (fun c=>gZ (pj c) 300)&&w.2.all (fun c=>gZ (pj c) 300&&!Fy c)
theorem GS(hg:lU){s1:St}{s:S2}(hr:R2 s1 s){ki:List RV}{rs os:List Sh}{l:List V}(h:GT ki rs os s=some l)(hf1:rs.all (fun c=>gZ (pj c) 300)=true)(hf2:os.all (fun c=>gZ (pj c) 300&&!Fy c)=true):
  ∃rs0,qJ ki s1 rs0 (kG os (l.drop (eO rs).length))/\qe (rs.map Fy) rs0=ja rs (l.take (eO rs).length):=by
 unfold GT at h;split at h
 .rename_i vs hvs;split at h
  .rename_i l1 i m j h2 h3;obtain⟨hn,h⟩:=aH h;obtain rfl:=aa h;obtain⟨xs,a1,a2,a3⟩:=GD hg hr ki vs hvs;obtain⟨e,rs0,bi,b1,b2,b3⟩:=DP hr.hr rs vs l1 i xs h2 a2 a3 hf1;obtain⟨own2,c1,c2⟩:=DO hr.hr os s.gh m j s1.gh h3 hr.gh.1 hr.gh.2 hf2;rw[<-e,List.take_left,List.drop_left];exact⟨rs0,⟨xs,bi,own2,a1,b1,c1,(b2.append c2).nodup (Ck hn)⟩,b3⟩
  .simp at h
 .simp at h
section
variable{h1:bh}
theorem FU:∀(c:Sh)(l:List V)(w:V)(l':List V),BG c l=some (w,l')->qD w=some (rh c l).1/\l'=(rh c l).2:=by
 intro c;induction c with
 |ni=>intro l w l' h;obtain⟨rfl,rfl⟩:=ad (aa h);exact⟨rfl,rfl⟩
 |pr a c _ ih=>
  intro l w l' h;cases a with
  |pt t=>
   match l with
   |.x u v::l=>
    simp only[BG]at h;obtain⟨hc,hh⟩:=aH h;clear h;simp only[ah,decide_eq_true_eq]at hc;obtain⟨rfl,hd⟩:=hc;split at hh
    .rename_i w2 l2 hw;obtain⟨rfl,rfl⟩:=ad (aa hh);obtain⟨h2,h3⟩:=ih l w2 l2 hw;refine⟨?_,h3⟩;simp only[qD,hd,if_true,h2,rh]
    .simp at hh
   |[]|.kb _::_|.nl _::_|.so _::_|.sb _ _ _ _ _::_|.op _ _ _::_|.ep _ _ _ _::_|.pt _ _::_|.fn _ _ _::_|.om _::_|.rc _::_|.tp _::_|.ni::_|.co _ _::_|.fl _::_|.no::_|.gn::_=>simp[BG]at h
  |_=>simp[BG]at h
 |_=>intro l w l' h;simp[BG]at h
theorem Hd:∀{w:V}{ds:List D},qD w=some ds->Bp w=true:=by
 intro w;induction w with
 |pt t v=>
  intro ds h;simp only[qD]at h;split at h
  .assumption
  .simp at h
 |ni=>intro ds _;rfl
 |co a r iha ihr=>
  intro ds h;simp only[qD]at h;split at h
  .rename_i x y hx hy;simp only[Bp,iha hx,ihr hy,lW]
  .simp at h
 |_=>intro ds h;simp[qD]at h
theorem Mc{h:H2}{n:Nat}{i:Nat}{u:Ty}{v:El u}(hd:jW u=true)(hs:(xk (.x u)||yl (.x u))=true):∃x,ft h (.x u v) x/\eW n h (.x u v)/\
  ∀(r:List A)(k:Nat),enter ((bif xk (.x u)then A.agg (aP u v)else A.d ((aP u v).headD default))::r) i k=((i,x)::(enter r (i+1) k).1,(enter r (i+1) k).2.1,(enter r (i+1) k).2.2.1,(enter r (i+1) k).2.2.2):=by
 cases hg:li u with
 |true=>refine⟨.agg ((aP u v).map .d),bU ⟨_,⟨hd,rfl⟩,fun _=>rfl,fun e=>(by rw[show tw (.x u v)=li u from rfl,hg]at e;cases e)⟩,trivial,fun r k=>?_⟩;simp only[xk,hg,cond_true,enter]
 |false=>
  have h1:bG u=1:=by simpa[xk,hg,yl]using hs
  have hl:=bH u v;rw[h1]at hl
  match he:aP u v,hl with|[d],_=>refine⟨.c (.d d),bU ⟨[.d d],⟨hd,by rw[he];rfl⟩,fun e=>(by rw[show tw (.x u v)=li u from rfl,hg]at e;cases e),fun _=>⟨_,rfl,rfl⟩⟩,trivial,fun r k=>?_⟩;simp only[xk,hg,cond_false,enter,bJ]
theorem wP{α:Type}{a t:Nat}{x:α}{l:List (Nat×α)}(h:a≠t):bQ ((a,x)::l) t=bQ l t:=by simp only[bQ];rw[show(a==t)=false by simpa using h,cond_false]
theorem qf{α:Type}{a:Nat}{x:α}{l:List (Nat×α)}:bQ ((a,x)::l) a=some x:=by simp[bQ]
theorem G2:∀(ps:List (Bool×Sh))(i:Nat)(l:List V)(s:S2)(h1:bh)(e:List (Nat×V))(s':S2),sW ps i l s=some (e,s')->AM ps=true->HR s.next h1 s.heap->s.gh=.ni->
  HR s'.next ((enter (eT ps l) i s.next).2.1++h1) s'.heap/\jq s.next s.heap s'.heap/\s.next<=s'.next/\(∀p∈(enter (eT ps l) i s.next).2.1,s.next<=p.1/\p.1<s'.next)/\
  (∀t v,bQ e t=some v->eW s'.next s'.heap v/\∃x,bQ (enter (eT ps l) i s.next).1 t=some x/\ft s'.heap v x)/\
  s'.next=(enter (eT ps l) i s.next).2.2.1/\Hw s'.heap s'.gh (enter (eT ps l) i s.next).2.2.2/\eW s'.next s'.heap s'.gh:=by
 intro ps;induction ps with
 |nil=>
  intro i l s h1 e s' he _ hr hg;cases l with
  |cons=>simp[sW]at he
  |nil=>
   obtain⟨rfl,rfl⟩:=ad (aa he);simp only[eT,enter,bB];refine⟨hr,jq.refl _ _,am _,fun p hp=>by simp at hp,fun t v h=>by simp[bQ]at h,trivial,?_,?_⟩
   .rw [hg];rfl
   .rw [hg];trivial
 |cons p ps ih=>
  obtain⟨b,c⟩:=p;intro i l s h1 e s' he hp hr hg;simp only[AM,ah]at hp;obtain⟨hc,hps⟩:=hp
  -- data: one more temporary
  have data:∀(l2:List V)(w:V)(a:A)(x:TV),eT ((b,c)::ps) l=a::eT ps l2->(∀(r:List A)(k:Nat),enter (a::r) i k=((i,x)::(enter r (i+1) k).1,(enter r (i+1) k).2.1,(enter r (i+1) k).2.2.1,(enter r (i+1) k).2.2.2))->
    (∀h,ft h w x)->(∀n h,eW n h w)->(match sW ps (i+1) l2 s with|some (e,s)=>some ((i,w)::e,s)|none=>none)=some (e,s')->
    HR s'.next ((enter (eT ((b,c)::ps) l) i s.next).2.1++h1) s'.heap/\jq s.next s.heap s'.heap/\s.next<=s'.next/\(∀p∈(enter (eT ((b,c)::ps) l) i s.next).2.1,s.next<=p.1/\p.1<s'.next)/\
    (∀t v,bQ e t=some v->eW s'.next s'.heap v/\∃x,bQ (enter (eT ((b,c)::ps) l) i s.next).1 t=some x/\ft s'.heap v x)/\
    s'.next=(enter (eT ((b,c)::ps) l) i s.next).2.2.1/\Hw s'.heap s'.gh (enter (eT ((b,c)::ps) l) i s.next).2.2.2/\eW s'.next s'.heap s'.gh:=by
   intro l2 w a x ha hen hx hk he;split at he
   .rename_i e1 s1 h2;obtain⟨rfl,rfl⟩:=ad (aa he);obtain⟨a1,a2,a3,a4,a5,a6,a7,a8⟩:=ih (i+1) l2 s h1 e1 s1 h2 hps hr hg;rw[ha,hen];refine⟨a1,a2,a3,a4,fun t v h=>?_,a6,a7,a8⟩;by_cases et:i=t
    .subst et;rw[qf]at h;obtain rfl:=aa h;exact⟨hk _ _,x,qf,hx _⟩
    .rw [wP et]at h|-;exact a5 t v h
   .simp at he
  cases b with
  |true=>
   simp only[cond_true,ah]at hc;simp only[sW]at he;split at he
   .rename_i w l2 s1 hm;split at he
    .rename_i e1 s2 h2;obtain⟨rfl,rfl⟩:=ad (aa he);obtain⟨g1,g2,g3,g4,g5,_⟩:=vu c false l s w l2 s1 h1 hm hr;have hone:yl c=true:=by have:=hc.1;cases c<;>simp[vy]at this<;>rfl
     have hlen:=Bf hm hone
     match ht:(ff c l).1,hlen with
     |[t0],_=>
      have hu:il s.next [t0]=([(kh s.next t0).1],(kh s.next t0).2.1++[],(kh s.next t0).2.2):=rfl;rw[ht,hu]at g1 g3 g4;simp only[bo]at g1 g3 g4;obtain⟨k1,k2,k3,k4,k5,k6,_⟩:=g3;obtain⟨a1,a2,a3,a4,a5,a6,a7,a8⟩:=ih (i+1) l2 s1 ((kh s.next t0).2.1++h1) e1 s2 h2 hps k1 (k4.trans hg);have hen:enter (eT ((true,c)::ps) l) i s.next=((i,.c (kh s.next t0).1)::(enter (eT ps l2) (i+1) s1.next).1,(kh s.next t0).2.1++(enter (eT ps l2) (i+1) s1.next).2.1,(enter (eT ps l2) (i+1) s1.next).2.2.1,(kh s.next t0).1::(enter (eT ps l2) (i+1) s1.next).2.2.2):=by simp only[eT,ht,bJ,<-g5,enter,<-g4]
      rw[hen];have hk:=gy a3 a2 g2;have hcel:=lq a2 g2 g1;refine⟨a1.ext fun j=>wa (fun p hp q hq e=>?_) j,jq.trans k5 k2 a2,e9 k5 a3,fun p hp=>?_,fun t v h=>?_,a6,⟨_,_,rfl,fun _=>hcel,a7⟩,⟨hk,a8⟩⟩
      .have:=(k6 p hp).2;have:=(a4 q hq).1;omega
      .rcases ak.1 hp with hp|hp
       .exact ⟨(k6 p hp).1,Nat.lt_of_lt_of_le (k6 p hp).2 a3⟩
       .exact ⟨e9 k5 (a4 p hp).1,(a4 p hp).2⟩
      .by_cases et:i=t
       .subst et;rw[qf]at h;obtain rfl:=aa h;refine⟨hk,_,qf,?_⟩;have hag:tw w=false:=by have:=vu c false l s w l2 s1 h1 hm hr;rw[this.2.2.2.2.2 rfl];have:=hc.1;cases c<;>simp[vy]at this<;>rfl
        exact bU ⟨_,hcel,fun e=>(by rw[hag]at e;cases e),fun _=>⟨_,rfl,rfl⟩⟩
       .rw [wP et]at h|-;exact a5 t v h
    .simp at he
   .simp at he
  |false=>
   simp only[cond_false,ah]at hc;cases c with
   |x t=>
    match l,he with
    |.x u v::l,he=>
     simp only[sW]at he;obtain⟨hd,he2⟩:=aH he;simp only[ah,decide_eq_true_eq]at hd;obtain⟨rfl,hd⟩:=hd;obtain⟨x,_,_,h3⟩:=Mc (h:=[]) (n:=0) (i:=i) (v:=v) hd hc.1
     have hx:∀h,ft h (.x u v) x:=fun h=>by
      obtain⟨x',h1,_,h3'⟩:=Mc (h:=h) (n:=0) (i:=i) (v:=v) hd hc.1;have e1:=h3 [] 0;rw[h3' [] 0]at e1;have:x'=x:=by have:=(ad e1).1;exact(ad (List.cons.inj this).1).2
      rw[<-this];exact h1
     exact data l (.x u v) _ x rfl h3 hx (fun _ _=>trivial) he2
    |[],he|.kb _::_,he|.nl _::_,he|.so _::_,he|.sb _ _ _ _ _::_,he|.op _ _ _::_,he|.ep _ _ _ _::_,he|.pt _ _::_,he|.fn _ _ _::_,he|.om _::_,he|.rc _::_,he|.tp _::_,he|.ni::_,he|.co _ _::_,he|.fl _::_,he|.no::_,he|.gn::_,he=>simp[sW]at he
   |pt t=>match l,he with|.x u v::l,he=>simp only[sW]at he;obtain⟨hd,he2⟩:=aH he;simp only[ah,decide_eq_true_eq]at hd;obtain⟨rfl,hd⟩:=hd;refine data l (.pt u v) (.d (.pt (aP u v))) (.c (.d (.pt (aP u v)))) rfl (fun r k=>by simp only[enter]) (fun h=>bU (dM rfl ⟨hd,rfl⟩)) (fun _ _=>trivial) he2|[],he|.kb _::_,he|.nl _::_,he|.so _::_,he|.sb _ _ _ _ _::_,he|.op _ _ _::_,he|.ep _ _ _ _::_,he|.pt _ _::_,he|.fn _ _ _::_,he|.om _::_,he|.rc _::_,he|.tp _::_,he|.ni::_,he|.co _ _::_,he|.fl _::_,he|.no::_,he|.gn::_,he=>simp[sW]at he
   |nl k=>
    have he:(match sW ps (i+1) l s with|some (e,s)=>some ((i,V.nl k)::e,s)|none=>none)=some (e,s'):=by cases l<;>exact he
    refine data l (.nl k) (.d (L6 k)) (.c (.d (L6 k))) (by cases l<;>rfl) (fun r k=>by simp only[enter]) (fun h=>bU (dM rfl rfl)) (fun _ _=>trivial) he
   |fn f c2=>
    have he:(match BG c2 l with|some (w,l)=>(match sW ps (i+1) l s with|some (e,s)=>some ((i,V.fn true f w)::e,s)|none=>none)|none=>none)=some (e,s'):=by cases l<;>exact he
    split at he
    .rename_i w l2 hw;obtain⟨h2,rfl⟩:=FU c2 l w l2 hw;refine data _ (.fn true f w) (.d (.fn f (rh c2 l).1)) (.c (.d (.fn f (rh c2 l).1))) (by cases l<;>rfl) (fun r k=>by simp only[enter]) (fun h=>bU (dM rfl ⟨_,h2,rfl⟩)) (fun n h=>?_) he;exact(y_ (h:=h) w (Hd h2)).2 n
    .simp at he
   |_=>cases l<;>simp[sW]at he
theorem G1{ps:List (Bool×Sh)}{l:List V}{s:S2}(h:Nv ps l=some s)(hp:AM ps=true):R2 (mW (eT ps l)) s:=by
 unfold Nv at h;split at h
 .rename_i e s1 he;obtain rfl:=aa h;obtain⟨a1,a2,a3,a4,a5,a6,a7,a8⟩:=G2 ps 0 l ⟨[],[],0,[],.ni⟩ [] e s1 he hp ⟨fun i o ho=>by simp[fO,bQ]at ho⟩ rfl;rw[bo]at a1;exact⟨fun t v ht=>⟨(a5 t v ht).1,fun _=>(a5 t v ht).2⟩,a1,Nat.le_of_eq a6.symm,a7,a8⟩
 .simp at h
end
theorem G3:∀(ps:List (Bool×Sh))(l:List V),(eT ps l).length=ps.length:=by intro ps;induction ps with|nil=>intro l;rfl|cons p ps ih=>obtain⟨b,c⟩:=p;intro l;cases b<;>simp[eT,ih]
theorem Jt{P:Program}{bq:uX}{nt:Nat}{an:List (Nat×An)}:∀(c:Code)(n:Nat)(s:St)(Q:ql->St->Prop),W P (mC (pJ P bq nt an c n).1) s Q->W P (pP P bq nt c) s Q:=by
 intro c;induction c with
 |skip=>intro n s Q h;exact h
 |exit id=>intro n s Q h;exact h
 |ret=>intro n s Q h;exact h
 |region o ops draw=>
  intro n s Q h;have hm:(ops.toList.map (MS P bq nt ops)).map (·.o)=ops.toList.map (gf P bq nt ops):=by rw[lA];rfl
  cases draw with
  |false=>simp only[pJ,aE,if_false,mC,hm]at h;simpa only[pP,aE,if_false]using h
  |true=>
   simp only[pJ,if_true]at h;simp only[pP,if_true,ww];split at h
   .rename_i hc;simp only[mC,hm]at h;rw[if_pos (by simpa using hc)];exact h
   .exact h.elim
 |seq a b iha ihb=>intro n s Q h;simp only[pJ,mC]at h;exact iha _ s _ (W.mono (ut.mono (fun s1 h1=>ihb _ s1 Q h1) fun _ _ h=>h) h)
 |cond x a b iha ihb=>intro n s Q h;simp only[pJ,mC]at h;obtain⟨s1,h0,t,h1,h2,h3⟩:=h;exact⟨s1,h0,t,h1,fun ht=>iha _ s1 Q (h2 ht),fun ht=>ihb _ s1 Q (h3 ht)⟩
 |block id a ih=>intro n s Q h;simp only[pJ,mC]at h;exact ih _ s _ h
 |loop a ih=>
  intro n s Q h;simp only[pJ]at h;split at h
  .simp only[mC]at h;obtain⟨I,m,h1,h2⟩:=h;exact⟨I,m,h1,fun k s1 hI=>ih _ s1 _ (h2 k s1 hI)⟩
  .exact h.elim
 |scope a ih=>intro n s Q h;exact ih _ s Q h
 |label l=>intro n s Q h;exact h
 |_=>intro n s Q h;exact h.elim
theorem EB{P:Program}{bq:uX}{f np:Nat}{an:List (Nat×An)}{F:F2}(h:Ao P bq f np an=some F):∃G,oG P bq f np=some G/\G.np=np/\G.ki=F.ki/\∀s Q,W P (mC F.body) s Q->W P G.body s Q:=by
 unfold Ao at h;split at h
 .simp at h
 rename_i g hg;split at h
 .simp at h
 rename_i code hb;split at h
 case isFalse=>simp at h
 rename_i hc;split at h
 case h_2=>simp at h
 rename_i ki hrv;obtain rfl:=aa h;unfold oG;simp only[hg,hb,hrv];rw[if_pos (by simpa using hc)];exact⟨_,rfl,rfl,rfl,fun s Q hw=>Jt code 0 s Q hw⟩
theorem Mo{ki:List RV}:∀(al:Wy)(z:vH al),∃r o l,(r,o)∈al/\(∀s,Ld ki s al=some z->GT ki r o s=some l)/\∀Q:List Sh->List Sh->List V->Prop,Q r o l->J8 Q al z:=by
 have key:∀(w:Wy)(r o:List Sh)(z:vH.ET r o w),∃r' o' l,(r',o')∈(r,o)::w/\(∀s,GU ki s r o w=some z->GT ki r' o' s=some l)/\∀Q:List Sh->List Sh->List V->Prop,Q r' o' l->J7 Q r o w z:=by
  intro w;induction w with
  |nil=>
   intro r o z;refine⟨r,o,gU (eO r++eO o) z,by simp,fun s hz=>?_,fun Q hQ=>hQ⟩;simp only[GU]at hz;split at hz
   .rename_i l hl;rw[pW _ _ _ hz];exact hl
   .simp at hz
  |cons p w ih=>
   obtain⟨r',o'⟩:=p;intro r o z;cases z with
   |inl y=>
    refine⟨r,o,gU (eO r++eO o) y,by simp,fun s hz=>?_,fun Q hQ=>hQ⟩;simp only[GU]at hz;split at hz
    .rename_i l hl;split at hz
     .rename_i y2 hy;have e:y2=y:=by have:=aa hz;cases this;rfl
      subst e;rw[pW _ _ _ hy];exact hl
     .simp at hz
    .split at hz
     .have:=aa hz;cases this
     .simp at hz
   |inr y=>
    obtain⟨r2,o2,l,h1,h2,h3⟩:=ih r' o' y;refine⟨r2,o2,l,aC _ h1,fun s hz=>?_,fun Q hQ=>h3 Q hQ⟩;simp only[GU]at hz;split at hz
    .split at hz
     .have:=aa hz;cases this
     .simp at hz
    .split at hz
     .rename_i y2 hy;have e:y2=y:=by have:=aa hz;cases this;rfl
      subst e;exact h2 s hy
     .simp at hz
 intro al z;cases al with|nil=>exact nomatch z|cons p w=>exact key w p.1 p.2 z
theorem Jf{P:Program}(hm:P.follows .mixedOrders=true){bq:uX}{f np:Nat}{an:List (Nat×An)}{F:F2}{tb:Dj}(htb:pM P tb)(hg:lU)(hF:Ao P bq f np an=some F){ps:List (Bool×Sh)}{al:Wy}(hnp:ps.length=np)(hps:AM ps=true)(hal:Pt al=true)
  {p:qG (eO (ps.map (·.2)))} {z:vH al} (hz:Pw tb (some F) ps al p=some z):
  J8 (fun rs os l=>xm P f (eT ps (gU (eO (ps.map (·.2))) p)) (ja rs (l.take (eO rs).length)) (kG os (l.drop (eO rs).length))) al z:=by
 obtain⟨G,hG,hGn,hGr,hGb⟩:=EB hF;simp only[Pw]at hz;split at hz
 case h_2=>simp at hz
 rename_i s hs;have hr:=G1 hs hps
 -- the ways that the run may end in
 have hend:∀o s1',Og (mH F.body) (mW (eT ps (gU _ p))) s (fun o s=>match o with|.exit _=>none|_=>Ld F.ki s al) z o s1'->wk (fun s1''=>∃s',R2 s1'' s'/\s1''.gh.length=(mW (eT ps (gU _ p))).gh.length/\(∀i,o≠.exit i)/\Ld F.ki s' al=some z) s1':=by
  intro o s1' h;refine wk.mono h fun s1''⟨s',h1,⟨w,h2,h3⟩,h4⟩=>⟨s',h1,h3.gl,fun i e=>?_,?_⟩
  .subst e;simp at h4
  .cases o with|exit i=>simp at h4|_=>exact h4
 have hW:=W.mono hend (GX htb hg F.body _ s _ z hz hr);obtain⟨r,o,l,h1,h2,h3⟩:=Mo (ki:=F.ki) al z;refine h3 _ (vA hm hG (m:=r.map Fy) ⟨?_,hGb _ _ (W.mono (fun kU s1' h=>?_) hW)⟩)
 .rw [G3,hnp,hGn]
 .have hf:=aV.1 hal (r,o) h1;simp only[ah]at hf;have fin:wk (fun s=>s.gh.length=(mW (eT ps (gU (eO (ps.map (·.2))) p))).gh.length/\∃rs0,qJ G.ki s rs0 (kG o (l.drop (eO r).length))/\qe (r.map Fy) rs0=ja r (l.take (eO r).length)) s1':=by refine wk.mono h fun s1''⟨s',k1,k2,_,k4⟩=>⟨k2,?_⟩;rw[hGr];exact GS hg k1 (h2 s' k4) hf.1 hf.2
  cases kU with|normal=>exact fin|ret=>exact fin|exit i=>obtain⟨_,_,_,_,_,k,_⟩:=h;exact absurd rfl (k i)
theorem aX{P:Program}(hm:P.follows .mixedOrders=true)(hg:lU){bq:uX}{f np:Nat}{an:List (Nat×An)}{tb:Dj}(htb:pM P tb){sp:fZ}
  (h1:(J6 sp&&l7 sp.ps.length np&&Pt sp.al)=true) (h3:(fun p=>Pw tb (Ao P bq f np an) sp.ps sp.al p)=sp.fn):bf P f sp:=by
 simp only[ah]at h1;obtain⟨⟨h4,h5⟩,h6⟩:=h1;refine⟨h4,fun p z hz=>?_⟩;have hp:AM sp.ps=true:=by simp only[J6,ah]at h4;exact h4.1.1.2
 rw[<-h3]at hz;have hz:Pw tb (Ao P bq f np an) sp.ps sp.al p=some z:=hz;cases hF:Ao P bq f np an with|none=>rw[hF]at hz;simp[Pw]at hz|some F=>rw[hF]at hz;exact Jf hm htb hg hF (dl h5) hp h6 hz
theorem Nh(h:∀g,Ni g=none):lU:=fun g v hg=>by rw[h g]at hg;simp at hg
theorem gR{P:Program}{ops:List l6}{Q:ql->St->Prop}:∀{s s':St},re cX ops s=some s'->Q .normal s'->W P (.region ops []) s Q:=by
 have key:∀(ops:List l6)(s s':St)(R:St->Prop),re cX ops s=some s'->R s'->WO P ops s R:=by
  intro ops;induction ops with
  |nil=>intro s s' R h hq;obtain rfl:=aa h;exact wk.of hq
  |cons o r ih=>
   intro s s' R h hq;simp only[re]at h;refine⟨s,Sub.refl s,?_⟩;split at h
   .rename_i hw;split at h
    .rename_i v u au n hv;exact .inl ⟨hw,cX,v,u,au,n,mz,hv,ih _ _ _ h hq⟩
    .simp at h
   .rename_i hw;exact .inr ⟨hw,ih _ _ _ h hq⟩
   .simp at h
 intro s s' h hq;exact key ops s s' _ h (wk.of hq)
theorem HB{P:Program}{ops:List l6}{Q:ql->St->Prop}{s:St}{e:hZ}{h:bh}{tr:List (List Nat×List Nat)}(hv:jj (fun _=>cX) s.next ops 0 s.cR s.heap=some (e,h,tr))(hq:Q .normal ⟨e,h,s.next+eL*ops.length,s.gh⟩):W P (.drawn ops [] []) s Q:=⟨s,Sub.refl s,fun _=>cX,e,h,tr,fun _=>mz,hv,rfl,wk.of hq⟩
abbrev h_(d t:Nat):l6:=⟨some d,.mv,[.tmp t],none⟩
def Bg(sz:Nat)(z:List Value):CC:=
 .seq (.region [⟨some 6,.mv,[.const (.slice none 0 0)],none⟩] [])
 (.seq (.region [h_ 8 0,h_ 9 1,h_ 10 2,h_ 11 0,⟨some 12,.len false,[.tmp 11],none⟩,⟨some 13,.vT sz,[.tmp 8,.tmp 9,.tmp 10,.tmp 12],none⟩] [])
 (.seq (.seq (.region [h_ 14 1,h_ 15 2,⟨some 16,.sy .eql,[.tmp 14,.tmp 15],none⟩] []) (.cond (.tmp 16) (.seq (.region [h_ 17 0,h_ 6 17] []) .ret) .skip))
 (.seq (.region [h_ 18 0,⟨some 19,.len false,[.tmp 18],none⟩,h_ 7 19] [])
 (.seq (.drawn [h_ 20 0,h_ 21 1,⟨some 22,.slice false sz false true,[.tmp 20,.tmp 21],none⟩,h_ 23 0,h_ 24 2,⟨some 25,.slice false sz true false,[.tmp 23,.tmp 24],none⟩,⟨some 26,.append sz,[.tmp 22,.tmp 25],none⟩,h_ 0 26] [] [])
 (.seq (.region [h_ 27 0,h_ 28 0,⟨some 29,.len false,[.tmp 28],none⟩,h_ 30 7,⟨some 31,.slice false sz true true,[.tmp 27,.tmp 29,.tmp 30],none⟩,⟨none,.clear z,[.tmp 31],none⟩] [])
 (.seq (.region [h_ 32 0,h_ 6 32] []) .ret))))))
section
variable{P:Program}{sz:Nat}{z:List Value}{rows:List (List D)}{i j:Int}
abbrev dA(sz:Nat)(rows:List (List D)):TV:=.c (.bP sz 0 0 rows.length)
abbrev pI(i:Int):TV:=lv (.int .i64 i)
abbrev Tm(sz:Nat)(rows:List (List D))(i j:Int):hZ:=[(0,dA sz rows),(1,pI i),(2,pI j)]
abbrev NG:TV:=.c (.d (.lit (.slice none 0 0)))
abbrev SX(sz:Nat)(rows:List (List D))(i j:Int):hZ:=(6,NG)::Tm sz rows i j
abbrev Tl(sz:Nat)(rows:List (List D))(i j:Int):hZ:=(13,.c (.bP sz 1 0 (j.toNat-i.toNat)))::(12,pI rows.length)::(11,dA sz rows)::(10,pI j)::(9,pI i)::(8,dA sz rows)::SX sz rows i j
abbrev SW(sz:Nat)(rows:List (List D))(i j:Int):hZ:=(16,lv (.bool (i==j)))::(15,pI j)::(14,pI i)::Tl sz rows i j
abbrev SV(sz:Nat)(rows:List (List D))(i j:Int):hZ:=(7,pI rows.length)::(19,pI rows.length)::(18,dA sz rows)::SW sz rows i j
abbrev dN:Nat:=2+eL*6
abbrev Lq(sz:Nat)(rows:List (List D))(i j:Int):TV:=.c (.bP sz dN 0 (i.toNat+(rows.length-j.toNat)))
abbrev Tk(sz:Nat)(rows:List (List D))(i j:Int):hZ:=(0,Lq sz rows i j)::(26,Lq sz rows i j)::(25,.c (.bP sz 0 j.toNat (rows.length-j.toNat)))::(24,pI j)::(23,dA sz rows)::(22,.c (.bP sz 0 0 i.toNat))::(21,pI i)::(20,dA sz rows)::SV sz rows i j
abbrev dR(rows:List (List D))(i j:Int):List (List D):=rows.take i.toNat++rows.drop j.toNat
abbrev Lp(sz:Nat)(rows:List (List D))(i j:Int):bh:=[(0,none),(dN,some (.aF sz (dR rows i j++rows.drop (i.toNat+(rows.length-j.toNat))))),(0,some (.aF sz rows))]
abbrev dG(sz:Nat)(rows:List (List D)):List C:=[.bP sz 0 0 rows.length]
theorem gI{o:l6}{r:List l6}{s:St}{v:TV}{u:eg}{au:List Nat}{n:Nat}{X:Option St}(hw:jy s.cR o.guard=some true)(hv:bX cX o.k (o.args.map (jB s.cR)) s.heap s.next=some (v,u,au,n))
  (hr:re cX r ⟨put s.cR o.dst v,u++s.heap,n,s.gh⟩=X):re cX (o::r) s=X:=by
 simp only[re,hw,hv];exact hr
theorem wR{o:l6}{r:List l6}{b i:Nat}{e e':hZ}{h h':bh}{v:TV}{u:eg}{au:List Nat}{n:Nat}{tr:List (List Nat×List Nat)}(hw:jy e o.guard=some true)(hv:bX cX o.k (o.args.map (jB e)) h (b+eL*i)=some (v,u,au,n))(hn:n<=b+eL*(i+1))
  (hr:jj (fun _=>cX) b r (i+1) (put e o.dst v) (u++h)=some (e',h',tr)):jj (fun _=>cX) b (o::r) i e h=some (e',h',(au,u.map (·.1))::tr):=by
 simp only[jj,hw,hv,if_pos hn,hr]
theorem lN:((0:Nat)==dN)=false:=by decide
theorem lr(b i:Nat):b+eL*i<=b+eL*(i+1):=by simp only[eL];omega
theorem ND(h0:0<=i)(h1:i<=j)(h2:j<=rows.length):re cX [h_ 8 0,h_ 9 1,h_ 10 2,h_ 11 0,⟨some 12,.len false,[.tmp 11],none⟩,⟨some 13,.vT sz,[.tmp 8,.tmp 9,.tmp 10,.tmp 12],none⟩] ⟨SX sz rows i j,[(0,some (.aF sz rows))],1,dG sz rows⟩=
  some ⟨Tl sz rows i j,[(0,some (.aF sz rows))],2,dG sz rows⟩:=by
 have e3:Ah sz (.bP sz 0 0 rows.length) i j rows.length 1=some (.bP sz 1 0 (j.toNat-i.toNat)):=by simp only[Ah];rw[if_pos ⟨trivial,h0,h1,h2,mD _⟩]
 refine gI rfl rfl (gI rfl rfl (gI rfl rfl (gI rfl rfl (gI rfl rfl (gI rfl (v:=.c (.bP sz 1 0 (j.toNat-i.toNat))) (u:=[]) (au:=[]) (n:=2) ?_ rfl)))));show(match Ah sz (.bP sz 0 0 rows.length) i j rows.length 1 with|some y=>some (TV.c y,([]:eg),([]:List Nat),2)|none=>none)=_;rw[e3]
theorem NC(h0:0<=i)(h1:i<=j)(h2:j<=rows.length)(h3:rows.length<=qM):∃tr,jj (fun _=>cX) 2 [h_ 20 0,h_ 21 1,⟨some 22,.slice false sz false true,[.tmp 20,.tmp 21],none⟩,h_ 23 0,h_ 24 2,⟨some 25,.slice false sz true false,[.tmp 23,.tmp 24],none⟩,⟨some 26,.append sz,[.tmp 22,.tmp 25],none⟩,h_ 0 26] 0 (SV sz rows i j) [(0,some (.aF sz rows))]=
  some (Tk sz rows i j,Lp sz rows i j,tr):=by
 have e1:i<=(rows.length:Int):=by omega
 have e2:0<=j:=by omega
 have e3:j.toNat+(rows.length-j.toNat)<=rows.length:=by omega
 have e4:0+i.toNat<=rows.length:=by omega
 have e5:i.toNat+(rows.length-j.toNat)<=qM:=by omega
 have e6:(rows.drop j.toNat).take (rows.length-j.toNat)=rows.drop j.toNat:=bZ (by simp);have er:fY sz [(0,some (.aF sz rows))] (.bP sz 0 j.toNat (rows.length-j.toNat))=some (rows.drop j.toNat,[0]):=by have hl:ao [(0,some (Ob.aF sz rows))] 0=some (.aF sz rows):=rfl;simp only[fY,hl];rw[if_pos ⟨trivial,e3⟩,e6]
 have ea:jk sz (.bP sz 0 0 i.toNat) (.bP sz 0 j.toNat (rows.length-j.toNat)) [(0,some (.aF sz rows))] dN=some (Lq sz rows i j,[(0,none),(dN,some (.aF sz (dR rows i j++rows.drop (i.toNat+(rows.length-j.toNat)))))],[0,0],dN+1):=by have hl:ao [(0,some (Ob.aF sz rows))] 0=some (.aF sz rows):=rfl;have hd:(rows.drop j.toNat).length=rows.length-j.toNat:=fq;simp only[jk,er,hl,hd];rw[if_pos ⟨trivial,e4,e5⟩,cM,bk]
 have s1:cD false sz (.bP sz 0 0 rows.length) none (some i)=some (.bP sz 0 0 i.toNat):=by simp only[cD,aE,if_false,cm,iF];rw[if_pos ⟨trivial,mD _,h0,e1⟩];rfl
 have s2:cD false sz (.bP sz 0 0 rows.length) (some j) none=some (.bP sz 0 j.toNat (rows.length-j.toNat)):=by simp only[cD,aE,if_false,cm,iF];rw[if_pos ⟨trivial,e2,h2,mD _⟩,bk];rfl
 refine⟨_,wR rfl rfl (lr _ _) (wR rfl rfl (lr _ _) (wR rfl (v:=.c (.bP sz 0 0 i.toNat)) (u:=[]) (au:=[]) (n:=2+eL*2) ?_ (lr _ _) (wR rfl rfl (lr _ _) (wR rfl rfl (lr _ _) (wR rfl (v:=.c (.bP sz 0 j.toNat (rows.length-j.toNat))) (u:=[]) (au:=[]) (n:=2+eL*5) ?_ (lr _ _) (wR rfl (v:=Lq sz rows i j) (u:=[(0,none),(dN,some (.aF sz (dR rows i j++rows.drop (i.toNat+(rows.length-j.toNat)))))]) (au:=[0,0]) (n:=dN+1) ea ?_ (wR rfl rfl (lr _ _) rfl)))))))⟩
 .show (match cD false sz (.bP sz 0 0 rows.length) none (some i)with|some y=>some (TV.c y,([]:eg),([]:List Nat),2+eL*2)|none=>(match jw false sz (.bP sz 0 0 rows.length) 0 i [(0,some (Ob.aF sz rows))]with|some (y,au)=>some (TV.c y,([]:eg),au,2+eL*2)|none=>none))=_;rw[s1]
 .show (match cD false sz (.bP sz 0 0 rows.length) (some j) none with|some y=>some (TV.c y,([]:eg),([]:List Nat),2+eL*5)|none=>none)=_;rw[s2]
 .simp only[dN,eL];omega
theorem NB(h0:0<=i)(h1:i<j)(h2:j<=rows.length)(hz:z.length=sz):∃rows' e,re cX [h_ 27 0,h_ 28 0,⟨some 29,.len false,[.tmp 28],none⟩,h_ 30 7,⟨some 31,.slice false sz true true,[.tmp 27,.tmp 29,.tmp 30],none⟩,⟨none,.clear z,[.tmp 31],none⟩] ⟨Tk sz rows i j,Lp sz rows i j,2+eL*8,dG sz rows⟩=
  some ⟨e,(dN,some (.aF sz (dR rows i j++rows')))::Lp sz rows i j,2+eL*8,dG sz rows⟩/\bQ e 0=some (Lq sz rows i j):=by
 have e1:i.toNat+(rows.length-j.toNat)<rows.length:=by omega
 have hl:(dR rows i j).length=i.toNat+(rows.length-j.toNat):=by simp;omega
 have hl2:(dR rows i j++rows.drop (i.toNat+(rows.length-j.toNat))).length=rows.length:=by rw[bm,hl,fq];omega
 have hlk:ao (Lp sz rows i j) dN=some (.aF sz (dR rows i j++rows.drop (i.toNat+(rows.length-j.toNat)))):=by simp only[ao,bQ,lN,cond_false,beq_self_eq_true,cond_true];rfl
 generalize hk:i.toNat+(rows.length-j.toNat)=k at*;have s1:cD false sz (.bP sz dN 0 k) (some (k:Int)) (some (rows.length:Int))=none:=by simp only[cD,aE,if_false,cm];rw[if_neg (by omega)]
 have s2:jw false sz (.bP sz dN 0 k) (k:Int) (rows.length:Int) (Lp sz rows i j)=some (.bP sz dN k (rows.length-k),[dN]):=by simp only[jw,hlk];rw[if_pos ⟨trivial,by omega,by omega,by rw[hl2];simp⟩];simp
 have s3:lZ z (.bP sz dN k (rows.length-k)) (Lp sz rows i j)=some ([(dN,some (.aF sz (dR rows i j++aB (rows.length-k) (cO z))))],[dN]):=by simp only[lZ,hlk];rw[if_pos ⟨hz.symm,by rw[hl2];omega⟩];simp only[aU];rw[List.take_left' hl,fr (by rw[hl2];simp;omega),bo]
 refine⟨aB (rows.length-k) (cO z),_,gI rfl rfl (gI rfl rfl (gI rfl (v:=pI (k:Int)) (u:=[]) (au:=[]) (n:=2+eL*8) ?_ (gI rfl rfl (gI rfl (v:=.c (.bP sz dN k (rows.length-k))) (u:=[]) (au:=[dN]) (n:=2+eL*8) ?_ (gI rfl (v:=.gB []) (u:=[(dN,some (.aF sz (dR rows i j++aB (rows.length-k) (cO z))))]) (au:=[dN]) (n:=2+eL*8) ?_ rfl))))),?_⟩
 .show some (lv (.int .i64 ((i.toNat+(rows.length-j.toNat):Nat):Int)),([]:eg),([]:List Nat),2+eL*8)=_;rw[hk]
 .show (match cD false sz (.bP sz dN 0 (i.toNat+(rows.length-j.toNat))) (some (k:Int)) (some (rows.length:Int))with
   |some y=>some (TV.c y,([]:eg),([]:List Nat),2+eL*8)
   |none=>(match jw false sz (.bP sz dN 0 (i.toNat+(rows.length-j.toNat))) (k:Int) (rows.length:Int) (Lp sz rows i j)with|some (y,au)=>some (TV.c y,([]:eg),au,2+eL*8)|none=>none))=_
  rw[hk,s1];simp only[s2]
 .show (match lZ z (.bP sz dN k (rows.length-k)) (Lp sz rows i j)with|some (u,au)=>some (TV.gB [],u,au,2+eL*8)|none=>none)=_;rw[s3]
 .rfl
theorem Al{e:hZ}{h:bh}{N n k:Nat}{rs:List (List D)}{ob:List (List D)}{g:C}(ht:bQ e 6=some (.c (.bP sz N 0 k)))(hl:ao h N=some (.aF sz ob))(hk:k<=ob.length)(hr:ob.take k=rs):
  wk (fun s=>s.gh.length=1/\∃rs0,qJ [.tmp 6] s rs0 [.j6]/\qe [] rs0=[.c (.sl sz rs)]) ⟨e,h,n,[g]⟩:=by
 have hp:dn h 300 (.bP sz N 0 k)=some (.sl sz rs,[N],[N]):=by simp only[dn,hl];rw[if_pos (by omega),cM,hr]
 refine wk.of ⟨rfl,[.c (.sl sz rs)],⟨[.c (.bP sz N 0 k)],[N],[],?_,?_,.j6 .nil,?_⟩,rfl⟩
 .simp only[ap,aN,sL,ht,dz]
 .simp only[qw,p_,hp];rfl
 .simp
theorem Jk{bq:uX}{f nt:Nat}(hm:P.follows .mixedOrders=true)(hF:oG P bq f 3=some ⟨3,nt,[.tmp 6],Bg sz z⟩)(hz:z.length=sz)(h0:0<=i)(h1:i<=j)(h2:j<=rows.length)(h3:rows.length<=qM):
  xm P f [.mt (.sl sz rows),.d (.lit (.int .i64 i)),.d (.lit (.int .i64 j))] [.c (.sl sz (rows.take i.toNat++rows.drop j.toNat))] [.j6]:=by
 refine vA hm hF (m:=[]) ⟨rfl,?_⟩;show W P (Bg sz z) ⟨Tm sz rows i j,[(0,some (.aF sz rows))],1,dG sz rows⟩ (qI [.tmp 6] [] 1 [.c (.sl sz (rows.take i.toNat++rows.drop j.toNat))] [.j6]);refine eX (gR (s':=⟨SX sz rows i j,[(0,some (.aF sz rows))],1,dG sz rows⟩) rfl ?_);refine eX (gR (ND h0 h1 h2) ?_);refine eX (eX (gR (s':=⟨SW sz rows i j,[(0,some (.aF sz rows))],2,dG sz rows⟩) rfl ?_));refine xC (t:=(i==j)) rfl (fun he=>?_) fun he=>?_
 .obtain rfl:i=j:=by simpa using he
  refine eX (gR (s':=⟨(6,dA sz rows)::(17,dA sz rows)::SW sz rows i i,[(0,some (.aF sz rows))],2,dG sz rows⟩) rfl ?_);refine zJ (P:=P) ?_;show wk _ _;exact Al (N:=0) rfl rfl (am _) (by rw[List.take_length,List.take_append_drop])
 .have hne:i≠j:=by simpa using he
  have h1':i<j:=by omega
  refine vK (P:=P) ?_;show W P _ _ _;refine eX (gR (s':=⟨SV sz rows i j,[(0,some (.aF sz rows))],2,dG sz rows⟩) rfl ?_);obtain⟨tr,h5⟩:=NC (sz:=sz) h0 h1 h2 h3;refine eX (HB h5 ?_);obtain⟨rows',e,h6,h7⟩:=NB (z:=z) h0 h1' h2 hz;refine eX (gR h6 ?_);refine eX (gR (s':=⟨(6,Lq sz rows i j)::(32,Lq sz rows i j)::e,(dN,some (.aF sz (dR rows i j++rows')))::Lp sz rows i j,2+eL*8,dG sz rows⟩) ?_ ?_)
  .have e1:jB e (.tmp 0)=some (Lq sz rows i j):=h7;refine gI rfl (v:=Lq sz rows i j) (u:=[]) (au:=[]) (n:=2+eL*8) ?_ (gI rfl rfl rfl);simp only[ap,aN,e1];rfl
  .refine zJ (P:=P) ?_;show wk _ _;have hl:(dR rows i j).length=i.toNat+(rows.length-j.toNat):=by simp;omega
   exact Al (N:=dN) (k:=i.toNat+(rows.length-j.toNat)) (ob:=dR rows i j++rows') rfl (by simp only[ao,bQ,beq_self_eq_true,cond_true];rfl) (by rw[bm,hl];omega) (List.take_left' hl)
end
def G5{α:Type}(s:Sl α)(i j:Int):Option (Sl α):=match s with|.mk l=>bif decide (0<=i)&&decide (i<=j)&&decide (j<=(l.length:Int))&&gZ l.length 2147483648 then some (.mk (l.take i.toNat++l.drop j.toNat))else none|.nil=>none
def Jl(t:Ty):fZ:=⟨[(true,.os t),(false,.x (.i .i64)),(false,.x (.i .i64))],[([.os t],[.gn])],false,[true,false,false],fun p=>match p with|(s,i,j)=>G5 s i j⟩
theorem NE{P:Program}{bq:uX}{f nt:Nat}(hm:P.follows .mixedOrders=true){t:Ty}{z:List Value}(hF:oG P bq f 3=some ⟨3,nt,[.tmp 6],Bg (bG t) z⟩)(hz:z.length=bG t):bf P f (Jl t):=by refine⟨rfl,fun p r hr=>?_⟩;obtain⟨s,i,j⟩:=p;have hr:G5 s i j=some r:=hr;cases s with|nil=>simp[G5]at hr|mk l=>simp only[G5]at hr;obtain⟨hc,hr⟩:=aH hr;simp only[ah,decide_eq_true_eq]at hc;obtain⟨⟨⟨h0,h1⟩,h2⟩,h3⟩:=hc;obtain rfl:=aa hr;have h3:=fD h3;have hg:=Jk (rows:=l.map (aP t)) hm hF hz h0 h1 (by simpa using h2) (by simpa[qM]using h3);rw[<-List.map_take,<-List.map_drop,<-List.map_append]at hg;exact hg
theorem Ll{s:St}{Q:St->Prop}{t id sz len szo:Nat}{rows:List (List D)}(ht:bQ s.cR t=some (.c (.bP sz id 0 len)))(hl:ao s.heap id=some (.aF szo rows))
  (h:∀c,rows.length<=c->len<=c->Q ⟨s.cR,(id,some (.cap szo rows c))::s.heap,s.next,s.gh⟩):Tq s Q:=by
 intro S K w0 Kn φ gv nt a w hR;obtain⟨hk0,h0⟩:=hR.inv.gF _ _ hl;have hv:=hR.cR _ _ ht;generalize a.tmps.getD t undef=v at hv;cases hv with
 |c hv=>
 obtain⟨cap,addr,rfl,hsz1,hk,hcap,haddr,hext,hcl⟩:=hv.gW;cases h0 with
 |@aF _ _ aF hsz hl1 hS hK hown hext1 hfit hrr hvis=>
 refine⟨_,h (φ id).cap hvis (by omega),⟨?_,hR.cR,hR.size,hR.defers,hR.fP,hR.gh⟩⟩
 have hset:=hR.inv.set (w':=w) (o':=.cap szo rows (φ id).cap) hl rfl (fun _ _=>rfl) rfl (fun _=>rfl) (fun arr1 h1=>⟨arr1,h1,rfl⟩) (Io.refl w) (fun _=>by
  refine .cap hsz hl1 hS hK hown hext1 ?_ hrr hvis rfl;rw[bk]at hcl;rcases Nat.eq_zero_or_pos cap with hz|hz
  .rw [<-hcl,hz,gP];omega
  .have ha:=haddr hz;rw[gP]at ha;rw[<-hcl,<-hl1];omega)
 have e:ao ((id,some (.cap szo rows (φ id).cap))::s.heap)=aZ [(id,some (.cap szo rows (φ id).cap))] (ao s.heap):=fz [(id,some (.cap szo rows (φ id).cap))] s.heap;show Inv S K w0 Kn φ (ao ((id,some (.cap szo rows (φ id).cap))::s.heap)) w;rw[e];exact hset.2
theorem E3{s:St}{id szo c:Nat}{rows:List (List D)}(hl:ao s.heap id=some (.cap szo rows c)):Sub s ⟨s.cR,(id,some (.aF szo rows))::s.heap,s.next,s.gh⟩:=by
 intro S K w0 Kn φ gv nt a w hR;refine⟨S,Kn,φ,fX.refl S w,⟨?_,hR.cR,hR.size,hR.defers,hR.fP,hR.gh⟩⟩;obtain⟨hk0,h0⟩:=hR.inv.gF _ _ hl;cases h0 with
 |@cap _ _ _ aF hsz hl1 hS hK hown hext hfit hrr hvis hc=>
 have hset:=hR.inv.set (w':=w) (o':=.aF szo rows) hl rfl (fun _ _=>rfl) rfl (fun _=>rfl) (fun arr1 h1=>⟨arr1,h1,rfl⟩) (Io.refl w) (fun _=>by refine .aF hsz hl1 hS hK hown hext ?_ hrr (by omega);have:=aI szo hvis;omega);have e:ao ((id,some (.aF szo rows))::s.heap)=aZ [(id,some (.aF szo rows))] (ao s.heap):=fz [(id,some (.aF szo rows))] s.heap;show Inv S K w0 Kn φ (ao ((id,some (.aF szo rows))::s.heap)) w;rw[e];exact hset.2
section
variable{H:bh}{nx:Nat}
theorem wt{a b r:Int}(h:IntKind.i64.wrap (a+b)=r):bX cX (.sy .add) [some (pI a),some (pI b)] H nx=some (pI r,[],[],nx):=by subst h;rfl
theorem No{a b r:Int}(h:IntKind.i64.wrap (a-b)=r):bX cX (.sy .sub) [some (pI a),some (pI b)] H nx=some (pI r,[],[],nx):=by subst h;rfl
theorem o8{sz id off len:Nat}{l:Int}(h0:0<=l)(h1:l<=len):bX cX (.slice false sz true false) [some (.c (.bP sz id off len)),some (pI l)] H nx=some (.c (.bP sz id (off+l.toNat) (len-l.toNat)),[],[],nx):=by
 show(match cD false sz (.bP sz id off len) (some l) none with|some y=>some (TV.c y,([]:eg),([]:List Nat),nx)|none=>none)=_;have:cD false sz (.bP sz id off len) (some l) none=some (.bP sz id (off+l.toNat) (len-l.toNat)):=by simp only[cD,aE,if_false,cm,iF];rw[if_pos ⟨trivial,h0,h1,mD _⟩];rfl
 rw[this]
theorem Le{sz id off len:Nat}{u:Int}(h0:0<=u)(h1:u<=len):bX cX (.slice false sz false true) [some (.c (.bP sz id off len)),some (pI u)] H nx=some (.c (.bP sz id off u.toNat),[],[],nx):=by
 show(match cD false sz (.bP sz id off len) none (some u)with|some y=>some (TV.c y,([]:eg),([]:List Nat),nx)|none=>(match jw false sz (.bP sz id off len) 0 u H with|some (y,au)=>some (TV.c y,([]:eg),au,nx)|none=>none))=_;have:cD false sz (.bP sz id off len) none (some u)=some (.bP sz id off u.toNat):=by simp only[cD,aE,if_false,cm,iF];rw[if_pos ⟨trivial,mD _,h0,h1⟩];rfl
 rw[this]
theorem GW{sz id off len szo c:Nat}{rows:List (List D)}{u:Int}(h0:(len:Int)<u)(hl:ao H id=some (.cap szo rows c))(h1:off+u.toNat<=c):bX cX (.slice false sz false true) [some (.c (.bP sz id off len)),some (pI u)] H nx=some (.c (.bP sz id off u.toNat),[],[id],nx):=by
 show(match cD false sz (.bP sz id off len) none (some u)with|some y=>some (TV.c y,([]:eg),([]:List Nat),nx)|none=>(match jw false sz (.bP sz id off len) 0 u H with|some (y,au)=>some (TV.c y,([]:eg),au,nx)|none=>none))=_;have e1:cD false sz (.bP sz id off len) none (some u)=none:=by simp only[cD,aE,if_false,cm,iF];rw[if_neg (by omega)]
 have e2:jw false sz (.bP sz id off len) 0 u H=some (.bP sz id off u.toNat,[id]):=by simp only[jw,hl];rw[if_pos ⟨trivial,mD _,by omega,h1⟩];rfl
 rw[e1];simp only[e2]
theorem Lh{sz id off len szo c:Nat}{rows:List (List D)}(hl:ao H id=some (.cap szo rows c)):bX cX .EI [some (.c (.bP sz id off len))] H nx=some (pI (c-off:Nat),[],[id],nx):=by show(match vB (.bP sz id off len) H with|some (n,au)=>some (lv (.int .i64 n),([]:eg),au,nx)|none=>none)=_;simp only[vB,hl]
theorem Li{z:List Value}{id off len szo c:Nat}{rows:List (List D)}{k:Int}(hl:ao H id=some (.cap szo rows c))(h0:0<=k)(h1:len+k.toNat<=qM)(h2:off+len<=rows.length)(h3:c<off+len+k.toNat):
  bX cX (.NX z) [some (.c (.bP z.length id off len)),some (pI k)] H nx=some (.c (.bP z.length nx 0 (len+k.toNat)),[(nx,some (.aF z.length ((rows.drop off).take len++aB k.toNat (cO z))))],[id],nx+1):=by
 show wS z (.bP z.length id off len) k H nx=_;simp only[wS,hl];rw[if_pos ⟨trivial,h0,h1,h2,h3⟩]
theorem Lf{sz1 a o1 l1 sz2 b o2 l2 s1 s2 c:Nat}{r1 r2:List (List D)}(ha:ao H a=some (.aF s1 r1))(hb:ao H b=some (.cap s2 r2 c))(hn:a≠b)(hc:0<c):
  bX cX .MH [some (.c (.bP sz1 a o1 l1)),some (.c (.bP sz2 b o2 l2))] H nx=some (lv (.bool false),[],[a,b],nx):=by
 show(match um (.bP sz1 a o1 l1) (.bP sz2 b o2 l2) H with|some au=>some (lv (.bool false),([]:eg),au,nx)|none=>none)=_;have:um (.bP sz1 a o1 l1) (.bP sz2 b o2 l2) H=some [a,b]:=by simp only[um,ha,hb];rw[if_pos ⟨hn,hc⟩]
 rw[this]
theorem CS{sz a o1 l1 b o2 l2 s1 s2:Nat}{r1 r2:List (List D)}(ha:ao H a=some (.aF s1 r1))(hb:ao H b=some (.aF s2 r2))(h1:o1+l1<=r1.length)(h2:o2+l2<=r2.length):
  ∃k:Int,bX cX (.copy sz) [some (.c (.bP sz a o1 l1)),some (.c (.bP sz b o2 l2))] H nx=some (lv (.int .i64 k),[(a,some (.aF sz (aU r1 o1 (((r2.drop o2).take l2).take l1))))],[a,b],nx):=by
 refine⟨(min ((r2.drop o2).take l2).length l1:Nat),?_⟩;show(match jx sz (.bP sz a o1 l1) (.bP sz b o2 l2) H with|some (i,u,au)=>some (lv (.int .i64 i),u,au,nx)|none=>(match kF sz (.bP sz a o1 l1) (.bP sz b o2 l2) H with|some (i,u,au)=>some (lv (.int .i64 i),u,au,nx)|none=>none))=_
 have:jx sz (.bP sz a o1 l1) (.bP sz b o2 l2) H=some (((min ((r2.drop o2).take l2).length l1:Nat):Int),[(a,some (.aF sz (aU r1 o1 (((r2.drop o2).take l2).take l1))))],[a,b]):=by
  have hr:fY sz H (.bP sz b o2 l2)=some ((r2.drop o2).take l2,[b]):=by simp only[fY,hb];rw[if_pos ⟨trivial,h2⟩]
  simp only[jx,hr,ha];rw[if_pos ⟨trivial,h1⟩]
 rw[this]
theorem CQ{sz a o1 l1 b o2 l2 s1 c:Nat}{r1 r2:List (List D)}(ha:ao H a=some (.cap s1 r1 c))(hb:(∃s2,ao H b=some (.aF s2 r2))\/∃s2 c2,ao H b=some (.cap s2 r2 c2))(h1:o1<=r1.length)(h2:o2+min l2 l1<=r2.length):
  ∃k:Int,bX cX (.copy sz) [some (.c (.bP sz a o1 l1)),some (.c (.bP sz b o2 l2))] H nx=some (lv (.int .i64 k),[(a,some (.cap sz (aU r1 o1 ((r2.drop o2).take (min l2 l1))) c))],[a,b],nx):=by
 refine⟨(min l2 l1:Nat),?_⟩;show(match jx sz (.bP sz a o1 l1) (.bP sz b o2 l2) H with|some (i,u,au)=>some (lv (.int .i64 i),u,au,nx)|none=>(match kF sz (.bP sz a o1 l1) (.bP sz b o2 l2) H with|some (i,u,au)=>some (lv (.int .i64 i),u,au,nx)|none=>none))=_
 have e1:jx sz (.bP sz a o1 l1) (.bP sz b o2 l2) H=none:=by
  unfold jx;split
  .rename_i hd;simp at hd
  .rename_i hd;obtain⟨rfl,rfl,rfl,rfl⟩:=(by simpa using hd:_/\_/\_/\_)
   rw[ha]
  .rfl
 have e2:kF sz (.bP sz a o1 l1) (.bP sz b o2 l2) H=some (((min l2 l1:Nat):Int),[(a,some (.cap sz (aU r1 o1 ((r2.drop o2).take (min l2 l1))) c))],[a,b]):=by
  rcases hb with⟨s2,hb⟩|⟨s2,c2,hb⟩
  .simp only[kF,ha,hb];rw[if_pos ⟨trivial,trivial,h1,h2⟩]
  .simp only[kF,ha,hb];rw[if_pos ⟨trivial,trivial,h1,h2⟩]
 rw[e1];simp only[e2]
end
def FB(sz:Nat)(z:List Value):CC:=
 .seq (.region [h_ 32 0,h_ 33 1,⟨some 34,.slice false sz false true,[.tmp 32,.tmp 33],none⟩,h_ 35 8,h_ 36 7,⟨some 37,.sy .add,[.tmp 35,.tmp 36],none⟩,h_ 38 1,⟨some 39,.sy .sub,[.tmp 37,.tmp 38],none⟩,⟨some 40,.NX z,[.tmp 34,.tmp 39],none⟩,h_ 9 40] [])
 (.seq (.region [h_ 41 9,h_ 42 1,⟨some 43,.slice false sz true false,[.tmp 41,.tmp 42],none⟩,h_ 44 2,⟨some 45,.copy sz,[.tmp 43,.tmp 44],none⟩] [])
 (.seq (.drawn [h_ 46 9,h_ 47 1,h_ 48 7,⟨some 49,.sy .add,[.tmp 47,.tmp 48],none⟩,⟨some 50,.slice false sz true false,[.tmp 46,.tmp 49],none⟩,h_ 51 0,h_ 52 1,⟨some 53,.slice false sz true false,[.tmp 51,.tmp 52],none⟩,⟨some 54,.copy sz,[.tmp 50,.tmp 53],none⟩] [] [])
 (.seq (.region [h_ 55 9,h_ 6 55] []) .ret)))
def FA(sz:Nat):CC:=
 .seq (.drawn [h_ 69 0,h_ 70 1,h_ 71 7,⟨some 72,.sy .add,[.tmp 70,.tmp 71],none⟩,⟨some 73,.slice false sz true false,[.tmp 69,.tmp 72],none⟩,h_ 74 0,h_ 75 1,⟨some 76,.slice false sz true false,[.tmp 74,.tmp 75],none⟩,⟨some 77,.copy sz,[.tmp 73,.tmp 76],none⟩] [] [])
 (.seq (.region [h_ 78 0,h_ 79 1,⟨some 80,.slice false sz true false,[.tmp 78,.tmp 79],none⟩,h_ 81 2,⟨some 82,.copy sz,[.tmp 80,.tmp 81],none⟩] [])
 (.seq (.region [h_ 83 0,h_ 6 83] []) .ret))
def Pr(sz f:Nat)(ro:Bool)(mu:List Bool):CC:=
 .seq (.region [h_ 84 0,h_ 85 8,⟨some 86,.slice false sz true false,[.tmp 84,.tmp 85],none⟩,h_ 87 2,⟨some 88,.copy sz,[.tmp 86,.tmp 87],none⟩] [])
 (.seq (.region [h_ 89 0,h_ 90 1,⟨some 91,.slice false sz true false,[.tmp 89,.tmp 90],none⟩,h_ 92 7,⟨some 93,.call ro mu,[.func f,.tmp 91,.tmp 92],none⟩] [])
 (.seq (.region [h_ 94 0,h_ 6 94] []) .ret))
def tV(sz:Nat)(z:List Value)(tl:CC):CC:=
 .seq (.region [⟨some 6,.mv,[.const (.slice none 0 0)],none⟩] [])
 (.seq (.region [h_ 10 0,h_ 11 1,⟨some 12,.slice false sz true false,[.tmp 10,.tmp 11],none⟩] [])
 (.seq (.region [h_ 13 2,⟨some 14,.len false,[.tmp 13],none⟩,h_ 7 14] [])
 (.seq (.seq (.region [h_ 15 7,⟨some 16,.sy .eql,[.tmp 15,.const (.int .i64 0)],none⟩] []) (.cond (.tmp 16) (.seq (.region [h_ 17 0,h_ 6 17] []) .ret) .skip))
 (.seq (.region [h_ 18 0,⟨some 19,.len false,[.tmp 18],none⟩,h_ 8 19] [])
 (.seq (.seq (.region [h_ 20 1,h_ 21 8,⟨some 22,.sy .eql,[.tmp 20,.tmp 21],none⟩] []) (.cond (.tmp 22) (.seq (.region [h_ 23 0,h_ 24 2,⟨some 25,.append sz,[.tmp 23,.tmp 24],none⟩,h_ 6 25] []) .ret) .skip))
 (.seq (.seq (.region [h_ 26 8,h_ 27 7,⟨some 28,.sy .add,[.tmp 26,.tmp 27],none⟩,h_ 29 0,⟨some 30,.EI,[.tmp 29],none⟩,⟨some 31,.sy .gtr,[.tmp 28,.tmp 30],none⟩] []) (.cond (.tmp 31) (FB sz z) .skip))
 (.seq (.region [h_ 56 0,h_ 57 8,h_ 58 7,⟨some 59,.sy .add,[.tmp 57,.tmp 58],none⟩,⟨some 60,.slice false sz false true,[.tmp 56,.tmp 59],none⟩,h_ 0 60] [])
 (.seq (.seq (.region [h_ 61 2,h_ 62 0,h_ 63 1,h_ 64 7,⟨some 65,.sy .add,[.tmp 63,.tmp 64],none⟩,⟨some 66,.slice false sz true false,[.tmp 62,.tmp 65],none⟩,⟨some 67,.MH,[.tmp 61,.tmp 66],none⟩,⟨some 68,.un .not,[.tmp 67],none⟩] []) (.cond (.tmp 68) (FA sz) .skip))
 tl))))))))
theorem tU{e:hZ}{h:bh}{N n k:Nat}{sz:Nat}{rs:List (List D)}{ob:List (List D)}{g1 g2:C}(ht:bQ e 6=some (.c (.bP sz N 0 k)))(hl:ao h N=some (.aF sz ob))(hk:k<=ob.length)(hr:ob.take k=rs):
  wk (fun s=>s.gh.length=2/\∃rs0,qJ [.tmp 6] s rs0 [.j6,.j6]/\qe [] rs0=[.c (.sl sz rs)]) ⟨e,h,n,[g1,g2]⟩:=by
 have hp:dn h 300 (.bP sz N 0 k)=some (.sl sz rs,[N],[N]):=by simp only[dn,hl];rw[if_pos (by omega),cM,hr]
 refine wk.of ⟨rfl,[.c (.sl sz rs)],⟨[.c (.bP sz N 0 k)],[N],[],?_,?_,.j6 (.j6 .nil),?_⟩,rfl⟩
 .simp only[ap,aN,sL,ht,dz]
 .simp only[qw,p_,hp];rfl
 .simp
def J1(e:hZ):hZ->Prop
 |[]=>True
 |(t,x)::r=>bQ e t=some x/\J1 e r
theorem p6{e:hZ}{H:bh}{n:Nat}{g:List C}:∀{e':hZ},J1 e e'->Sub ⟨e,H,n,g⟩ ⟨e',H,n,g⟩:=by
 intro e' h S K w0 Kn φ gv nt a w hR;refine⟨S,Kn,φ,fX.refl S w,⟨hR.inv,fun t x hx=>hR.cR t x ?_,hR.size,hR.defers,hR.fP,hR.gh⟩⟩
 have key:∀e':hZ,J1 e e'->bQ e' t=some x->bQ e t=some x:=by
  intro e';induction e' with
  |nil=>intro _ h;simp[bQ]at h
  |cons p r ih=>
   obtain⟨q,y⟩:=p;intro h hx;simp only[bQ]at hx;by_cases e1:q=t
   .subst e1;simp at hx;exact hx▸h.1
   .have e2:(q==t)=false:=by simpa using e1
    rw[e2,cond_false]at hx;exact ih h.2 hx
 exact key e' h hx
section
variable{P:Program}{z:List Value}{rows:List (List D)}{x:List D}{i:Int}
abbrev iA(z:List Value)(n:Nat):TV:=.c (.bP z.length 0 0 n)
abbrev iV(z:List Value):TV:=.c (.bP z.length 1 0 1)
abbrev iG(z:List Value)(rows:List (List D)):List C:=[.bP z.length 0 0 rows.length,.bP z.length 1 0 1]
abbrev iR(rows:List (List D))(x:List D)(i:Int):List (List D):=rows.take i.toNat++x::rows.drop i.toNat
abbrev Nf(z:List Value)(rows:List (List D))(x:List D)(c:Nat):bh:=[(0,some (.cap z.length rows c)),(0,some (.aF z.length rows)),(1,some (.aF z.length [x]))]
theorem IW{c:Nat}(h0:0<=i)(h1:i<rows.length)(h3:rows.length+1<=qM):
  W P (FA z.length) ⟨[(0,iA z (rows.length+1)),(1,pI i),(2,iV z),(7,pI 1)],Nf z rows x c,2,iG z rows⟩ (qI [.tmp 6] [] 2 [.c (.sl z.length (iR rows x i))] [.j6,.j6]):=by
 simp only[qM]at h3;have hw1:IntKind.i64.wrap (i+1)=i+1:=jZ (by omega) (by omega);have hi1:(i+1).toNat=i.toNat+1:=by omega
 obtain⟨k1,hc1⟩:=CQ (H:=Nf z rows x c) (nx:=2+eL*8) (sz:=z.length) (a:=0) (o1:=0+(i+1).toNat) (l1:=rows.length+1-(i+1).toNat) (b:=0) (o2:=0+i.toNat) (l2:=rows.length+1-i.toNat) rfl (.inr ⟨_,_,rfl⟩) (by omega) (by omega);have hm:min (rows.length+1-i.toNat) (rows.length+1-(i+1).toNat)=rows.length-i.toNat:=by omega
 have r1:aU rows (0+(i+1).toNat) ((rows.drop (0+i.toNat)).take (min (rows.length+1-i.toNat) (rows.length+1-(i+1).toNat)))=rows.take (i.toNat+1)++rows.drop i.toNat:=by have:(rows.drop i.toNat).take (rows.length-i.toNat)=rows.drop i.toNat:=bZ (by simp);rw[hm,bk,bk,hi1,this];unfold aU;have hd:rows.drop (i.toNat+1+(rows.drop i.toNat).length)=[]:=fr (by simp;omega);rw[hd,bo]
 rw[r1]at hc1;refine eX (HB (wR rfl rfl (lr _ _) (wR rfl rfl (lr _ _) (wR rfl rfl (lr _ _) (wR rfl (wt hw1) (lr _ _) (wR rfl (o8 (by omega) (by omega)) (lr _ _) (wR rfl rfl (lr _ _) (wR rfl rfl (lr _ _) (wR rfl (o8 h0 (by omega)) (lr _ _) (wR rfl hc1 (lr _ _) rfl))))))))) ?_);generalize hrr:rows.take (i.toNat+1)++rows.drop i.toNat=rs;have hlen:rs.length=rows.length+1:=by rw[<-hrr];simp;omega
 refine W.sub (p6 (e':=[(0,iA z (rows.length+1)),(1,pI i),(2,iV z)]) ⟨rfl,rfl,rfl,trivial⟩) ?_;obtain⟨k2,hc2⟩:=CQ (H:=(0,some (.cap z.length rs c))::Nf z rows x c) (nx:=2+eL*9) (sz:=z.length) (a:=0) (o1:=0+i.toNat) (l1:=rows.length+1-i.toNat) (b:=1) (o2:=0) (l2:=1) rfl (.inl ⟨_,rfl⟩) (by omega) (by simp;omega);have hm2:min 1 (rows.length+1-i.toNat)=1:=by omega
 have r2:aU rs (0+i.toNat) (([x].drop 0).take (min 1 (rows.length+1-i.toNat)))=iR rows x i:=by
  rw[hm2,bk];have hn:(rows.take (i.toNat+1)).length=i.toNat+1:=by simp;omega
  show rs.take i.toNat++[x]++rs.drop (i.toNat+1)=_;rw[<-hrr,jY (by rw[hn];omega),ne,List.drop_append_of_le_length (by rw[hn];omega),fr (by rw[hn];omega)];rw[Nat.min_eq_left (by omega)];simp[iR]
 rw[r2]at hc2;refine eX (gR (gI rfl rfl (gI rfl rfl (gI rfl (o8 h0 (by omega)) (gI rfl rfl (gI rfl hc2 rfl))))) ?_);refine eX (gR (gI rfl rfl (gI rfl rfl rfl)) ?_);refine W.sub (E3 (id:=0) rfl) ?_;refine zJ (P:=P) ?_;show wk _ _;have hl:(iR rows x i).length=rows.length+1:=by simp[iR];omega
 exact tU (N:=0) (k:=rows.length+1) (ob:=iR rows x i) rfl rfl (by omega) (bZ (by omega))
theorem PY{r9 rows:List (List D)}{x:List D}{k m:Nat}(hm:1<=m)(ht:r9.take k=rows.take k):aU r9 (0+k) ((([x].drop 0).take 1).take m)=rows.take k++x::r9.drop (k+1):=by
 obtain⟨m,rfl⟩:∃q,m=q+1:=⟨m-1,by omega⟩
 rw[bk];simp[aU,ht]
theorem PX{r10 rows:List (List D)}{x:List D}{k a m n:Nat}(ha:a=k+1)(hm:m=rows.length-k)(hn:n=m)(hk:k<rows.length)(hl:r10.length=rows.length+1)(ht:r10.take (k+1)=rows.take k++[x]):
  aU r10 (0+a) (((rows.drop (0+k)).take m).take n)=rows.take k++x::rows.drop k:=by
 subst ha hn hm;rw[bk,bk,ne,Nat.min_self];have e:(rows.drop k).take (rows.length-k)=rows.drop k:=bZ (by simp);rw[e];unfold aU;rw[ht];have hd:r10.drop (k+1+(rows.drop k).length)=[]:=fr (by simp;omega);rw[hd];simp
def CB(sz:Nat):CC:=
 .seq (.drawn [h_ 46 9,h_ 47 1,h_ 48 7,⟨some 49,.sy .add,[.tmp 47,.tmp 48],none⟩,⟨some 50,.slice false sz true false,[.tmp 46,.tmp 49],none⟩,h_ 51 0,h_ 52 1,⟨some 53,.slice false sz true false,[.tmp 51,.tmp 52],none⟩,⟨some 54,.copy sz,[.tmp 50,.tmp 53],none⟩] [] [])
 (.seq (.region [h_ 55 9,h_ 6 55] []) .ret)
def CD(sz:Nat):CC:=
 .seq (.region [h_ 41 9,h_ 42 1,⟨some 43,.slice false sz true false,[.tmp 41,.tmp 42],none⟩,h_ 44 2,⟨some 45,.copy sz,[.tmp 43,.tmp 44],none⟩] [])
 (CB sz)
abbrev PQ(z:List Value)(rows:List (List D))(i:Int):hZ:=[(0,iA z rows.length),(1,pI i),(2,iV z),(7,pI 1),(9,.c (.bP z.length 2 0 (rows.length+1)))]
theorem Nb{H:bh}{r10:List (List D)}(h0:0<=i)(h1:i<rows.length)(h3:rows.length+1<=qM)(hl0:ao H 0=some (.aF z.length rows))(hl2:ao H 2=some (.aF z.length r10))
  (hl:r10.length=rows.length+1) (ht:r10.take (i.toNat+1)=rows.take i.toNat++[x]):
  W P (CB z.length) ⟨PQ z rows i,H,3,iG z rows⟩ (qI [.tmp 6] [] 2 [.c (.sl z.length (iR rows x i))] [.j6,.j6]):=by
 have h4:=h3;simp only[qM]at h4;have hw1:IntKind.i64.wrap (i+1)=i+1:=jZ (by omega) (by omega);have hi1:(i+1).toNat=i.toNat+1:=by omega
 have q6:0+(i+1).toNat+(rows.length+1-(i+1).toNat)<=r10.length:=by rw[hl];omega
 have q7:0+i.toNat+(rows.length-i.toNat)<=rows.length:=by omega
 have q9:=CS (nx:=3+eL*8) (sz:=z.length) (o1:=0+(i+1).toNat) (l1:=rows.length+1-(i+1).toNat) (o2:=0+i.toNat) (l2:=rows.length-i.toNat) hl2 hl0 q6 q7;have r2:=PX (rows:=rows) (k:=i.toNat) (a:=(i+1).toNat) (m:=rows.length-i.toNat) (n:=rows.length+1-(i+1).toNat) hi1 rfl (by omega) (by omega) hl ht;rw[r2]at q9;have hlR:(iR rows x i).length=rows.length+1:=by simp[iR];omega
 obtain⟨R,hR⟩:∃R,R=iR rows x i:=⟨_,rfl⟩
 rw[<-hR]at hlR|-;have q9':∃k:Int,bX cX (.copy z.length) [some (.c (.bP z.length 2 (0+(i+1).toNat) (rows.length+1-(i+1).toNat))),some (.c (.bP z.length 0 (0+i.toNat) (rows.length-i.toNat)))] H (3+eL*8)=some (lv (.int .i64 k),[(2,some (.aF z.length R))],[2,0],3+eL*8):=by rw[hR];exact q9
 obtain⟨k2,hc2⟩:=q9';refine eX (HB (wR rfl rfl (lr _ _) (wR rfl rfl (lr _ _) (wR rfl rfl (lr _ _) (wR rfl (wt hw1) (lr _ _) (wR rfl (o8 (by omega) (by omega)) (lr _ _) (wR rfl rfl (lr _ _) (wR rfl rfl (lr _ _) (wR rfl (o8 h0 (by omega)) (lr _ _) (wR rfl hc2 (lr _ _) rfl))))))))) ?_);refine eX (gR (gI rfl rfl (gI rfl rfl rfl)) ?_);refine zJ (P:=P) ?_;show wk _ _;exact tU (N:=2) (k:=rows.length+1) (ob:=R) rfl rfl (by omega) (bZ (by omega))
theorem Nc{H:bh}{r9:List (List D)}(h0:0<=i)(h1:i<rows.length)(h3:rows.length+1<=qM)(hl0:ao H 0=some (.aF z.length rows))(hl1:ao H 1=some (.aF z.length [x]))(hl2:ao H 2=some (.aF z.length r9))
  (hl:r9.length=rows.length+1) (ht:r9.take i.toNat=rows.take i.toNat):
  W P (CD z.length) ⟨PQ z rows i,H,3,iG z rows⟩ (qI [.tmp 6] [] 2 [.c (.sl z.length (iR rows x i))] [.j6,.j6]):=by
 have h4:=h3;simp only[qM]at h4;have q3:0+i.toNat+(rows.length+1-i.toNat)<=r9.length:=by rw[hl];omega
 have q8:=CS (nx:=3) (sz:=z.length) (o1:=0+i.toNat) (l1:=rows.length+1-i.toNat) (o2:=0) (l2:=1) hl2 hl1 q3 (am 1);rw[PY (by omega) ht]at q8;obtain⟨r10,hr10⟩:∃r10,rows.take i.toNat++x::r9.drop (i.toNat+1)=r10:=⟨_,rfl⟩
 rw[hr10]at q8;obtain⟨k1,hc1⟩:=q8;have hl10:r10.length=rows.length+1:=by rw[<-hr10];simp;omega
 have ht10:r10.take (i.toNat+1)=rows.take i.toNat++[x]:=by
  rw[<-hr10];have:(rows.take i.toNat).length=i.toNat:=by simp;omega
  rw[show rows.take i.toNat++x::r9.drop (i.toNat+1)=(rows.take i.toNat++[x])++r9.drop (i.toNat+1)by simp];exact List.take_left' (by simp[this])
 refine eX (gR (gI rfl rfl (gI rfl rfl (gI rfl (o8 h0 (by omega)) (gI rfl rfl (gI rfl hc1 rfl))))) ?_);show W P _ _ _;refine W.sub (p6 (e':=PQ z rows i) ⟨rfl,rfl,rfl,rfl,rfl,trivial⟩) ?_;exact Nb h0 h1 h3 hl0 rfl hl10 ht10
theorem IX{c:Nat}(h0:0<=i)(h1:i<rows.length)(h3:rows.length+1<=qM)(hc:c<rows.length+1):
  W P (FB z.length z) ⟨[(0,iA z rows.length),(1,pI i),(2,iV z),(7,pI 1),(8,pI rows.length)],Nf z rows x c,2,iG z rows⟩ (qI [.tmp 6] [] 2 [.c (.sl z.length (iR rows x i))] [.j6,.j6]):=by
 have h4:=h3;simp only[qM]at h4;have hw2:IntKind.i64.wrap ((rows.length:Int)+1)=(rows.length:Int)+1:=jZ (by omega) (by omega);have hw3:IntKind.i64.wrap ((rows.length:Int)+1-i)=(rows.length:Int)+1-i:=jZ (by omega) (by omega);have hap:=Li (H:=Nf z rows x c) (nx:=2) (z:=z) (id:=0) (off:=0) (len:=i.toNat) (k:=(rows.length:Int)+1-i) rfl (by omega) (by simp only[qM];omega) (by omega) (by omega);have hL:i.toNat+((rows.length:Int)+1-i).toNat=rows.length+1:=by omega
 rw[hL]at hap;obtain⟨r9,hr9⟩:∃r9,(rows.drop 0).take i.toNat++aB ((rows.length:Int)+1-i).toNat (cO z)=r9:=⟨_,rfl⟩
 rw[hr9]at hap;have hl9:r9.length=rows.length+1:=by rw[<-hr9];simp;omega
 have ht9:r9.take i.toNat=rows.take i.toNat:=by rw[<-hr9,cM,jY (by simp;omega),ne,Nat.min_self]
 show W P (.seq _ (CD z.length)) _ _;refine eX (gR (gI rfl rfl (gI rfl rfl (gI rfl (Le h0 (by omega)) (gI rfl rfl (gI rfl rfl (gI rfl (wt hw2) (gI rfl rfl (gI rfl (No hw3) (gI rfl hap (gI rfl rfl rfl)))))))))) ?_);show W P _ _ _;refine W.sub (E3 (id:=0) (szo:=z.length) (rows:=rows) (c:=c) rfl) ?_;refine W.sub (p6 (e':=PQ z rows i) ⟨rfl,rfl,rfl,rfl,rfl,trivial⟩) ?_;exact Nc h0 h1 h3 rfl rfl rfl hl9 ht9
theorem K5{tl:CC}{c:Nat}(h0:0<=i)(h1:i<rows.length)(h3:rows.length+1<=qM):
  W P (tV z.length z tl) ⟨[(0,iA z rows.length),(1,pI i),(2,iV z)],Nf z rows x c,2,iG z rows⟩ (qI [.tmp 6] [] 2 [.c (.sl z.length (iR rows x i))] [.j6,.j6]):=by
 have h4:=h3;simp only[qM]at h4;have hw1:IntKind.i64.wrap (i+1)=i+1:=jZ (by omega) (by omega);have hw2:IntKind.i64.wrap ((rows.length:Int)+1)=(rows.length:Int)+1:=jZ (by omega) (by omega);refine eX (gR (gI rfl rfl rfl) ?_);refine eX (gR (gI rfl rfl (gI rfl rfl (gI rfl (o8 h0 (by omega)) rfl))) ?_);refine eX (gR (gI rfl rfl (gI rfl rfl (gI rfl rfl rfl))) ?_);refine eX (eX (gR (gI rfl rfl (gI rfl rfl rfl)) ?_));refine xn (t:=false) rfl rfl (vK (P:=P) ?_);show W P _ _ _;refine eX (gR (gI rfl rfl (gI rfl rfl (gI rfl rfl rfl))) ?_);refine eX (eX (gR (gI rfl rfl (gI rfl rfl (gI rfl rfl rfl))) ?_));refine xn (t:=i==(rows.length:Int)) rfl (by simp;omega) (vK (P:=P) ?_);show W P _ _ _;refine W.sub (p6 (e':=[(0,iA z rows.length),(1,pI i),(2,iV z),(7,pI 1),(8,pI rows.length)]) ⟨rfl,rfl,rfl,rfl,rfl,trivial⟩) ?_;refine eX (eX (gR (gI rfl rfl (gI rfl rfl (gI rfl (wt hw2) (gI rfl rfl (gI rfl (Lh rfl) (gI rfl rfl rfl)))))) ?_));refine xC (t:=decide ((rows.length:Int)+1>(c-0:Nat))) rfl (fun he=>?_) fun he=>?_
 .refine W.sub (p6 (e':=[(0,iA z rows.length),(1,pI i),(2,iV z),(7,pI 1),(8,pI rows.length)]) ⟨rfl,rfl,rfl,rfl,rfl,trivial⟩) ?_;exact IX h0 h1 h3 (by have:=of_decide_eq_true he;omega)
 .have hc:rows.length+1<=c:=by have:=of_decide_eq_false he;omega
  refine vK (P:=P) ?_;show W P _ _ _;refine W.sub (p6 (e':=[(0,iA z rows.length),(1,pI i),(2,iV z),(7,pI 1),(8,pI rows.length)]) ⟨rfl,rfl,rfl,rfl,rfl,trivial⟩) ?_;have hov:=GW (H:=Nf z rows x c) (nx:=2) (sz:=z.length) (id:=0) (off:=0) (len:=rows.length) (u:=(rows.length:Int)+1) (by omega) rfl (by omega);have hL:((rows.length:Int)+1).toNat=rows.length+1:=by omega
  rw[hL]at hov;refine eX (gR (gI rfl rfl (gI rfl rfl (gI rfl rfl (gI rfl (wt hw2) (gI rfl hov (gI rfl rfl rfl)))))) ?_);refine W.sub (p6 (e':=[(0,iA z (rows.length+1)),(1,pI i),(2,iV z),(7,pI 1)]) ⟨rfl,rfl,rfl,rfl,trivial⟩) ?_;refine eX (eX (gR (gI rfl rfl (gI rfl rfl (gI rfl rfl (gI rfl rfl (gI rfl (wt hw1) (gI rfl (o8 (by omega) (by omega)) (gI rfl (Lf rfl rfl (by decide) (by omega)) (gI rfl rfl rfl)))))))) ?_));refine Dq (t:=true) rfl rfl ?_;refine W.sub (p6 (e':=[(0,iA z (rows.length+1)),(1,pI i),(2,iV z),(7,pI 1)]) ⟨rfl,rfl,rfl,rfl,trivial⟩) ?_;exact IW h0 h1 h3
theorem K6{tl:CC}(h3:rows.length+1<=qM):
  W P (tV z.length z tl) ⟨[(0,iA z rows.length),(1,pI rows.length),(2,iV z)],[(0,some (.aF z.length rows)),(1,some (.aF z.length [x]))],2,iG z rows⟩ (qI [.tmp 6] [] 2 [.c (.sl z.length (rows++[x]))] [.j6,.j6]):=by
 have ha:bX cX (.append z.length) [some (iA z rows.length),some (iV z)] [(0,some (.aF z.length rows)),(1,some (.aF z.length [x]))] 2=some (.c (.bP z.length 2 0 (rows.length+1)),[(0,none),(2,some (.aF z.length (rows++[x])))],[0,1],3):=by
  show jk z.length (.bP z.length 0 0 rows.length) (.bP z.length 1 0 1) _ 2=_;have hr:fY z.length [(0,some (.aF z.length rows)),(1,some (.aF z.length [x]))] (.bP z.length 1 0 1)=some ([x],[1]):=by have hl:ao [(0,some (Ob.aF z.length rows)),(1,some (.aF z.length [x]))] 1=some (.aF z.length [x]):=rfl;simp only[fY,hl];rw[if_pos ⟨trivial,am 1⟩];rfl
  have hl:ao [(0,some (Ob.aF z.length rows)),(1,some (.aF z.length [x]))] 0=some (.aF z.length rows):=rfl;simp only[jk,hr,hl];rw[if_pos ⟨trivial,by omega,h3⟩];have e1:(rows.drop 0).take rows.length=rows:=by simp
  have e2:rows.drop (0+rows.length+[x].length)=[]:=fr (by simp);rw[e1,e2,bo];rfl
 refine eX (gR (gI rfl rfl rfl) ?_);refine eX (gR (gI rfl rfl (gI rfl rfl (gI rfl (o8 (by omega) (mD _)) rfl))) ?_);refine eX (gR (gI rfl rfl (gI rfl rfl (gI rfl rfl rfl))) ?_);refine eX (eX (gR (gI rfl rfl (gI rfl rfl rfl)) ?_));refine xn (t:=false) rfl rfl (vK (P:=P) ?_);show W P _ _ _;refine eX (gR (gI rfl rfl (gI rfl rfl (gI rfl rfl rfl))) ?_);refine eX (eX (gR (gI rfl rfl (gI rfl rfl (gI rfl rfl rfl))) ?_));refine Dq (t:=(rows.length:Int)==(rows.length:Int)) rfl (by simp) ?_;refine eX (gR (gI rfl rfl (gI rfl rfl (gI rfl ha (gI rfl rfl rfl)))) ?_);refine zJ (P:=P) ?_;show wk _ _;exact tU (N:=2) (k:=rows.length+1) (ob:=rows++[x]) rfl rfl (by simp) (bZ (by simp))
theorem K4{tl:CC}{g:C}:
  W P (tV z.length z tl) ⟨[(0,NG),(1,pI 0),(2,iV z)],[(1,some (.aF z.length [x]))],2,[g,.bP z.length 1 0 1]⟩ (qI [.tmp 6] [] 2 [.c (.sl z.length [x])] [.j6,.j6]):=by
 have ha:bX cX (.append z.length) [some NG,some (iV z)] [(1,some (.aF z.length [x]))] 2=some (.c (.bP z.length 2 0 1),[(2,some (.aF z.length [x]))],[1],3):=by
  show jk z.length (.d (.lit (.slice none 0 0))) (.bP z.length 1 0 1) _ 2=_;have hr:fY z.length [(1,some (.aF z.length [x]))] (.bP z.length 1 0 1)=some ([x],[1]):=by have hl:ao [(1,some (Ob.aF z.length [x]))] 1=some (.aF z.length [x]):=rfl;simp only[fY,hl];rw[if_pos ⟨trivial,am 1⟩];rfl
  simp only[jk,hr];rw[if_pos (by simp[qM])];rfl
 refine eX (gR (gI rfl rfl rfl) ?_);refine eX (gR (gI rfl rfl (gI rfl rfl (gI rfl rfl rfl))) ?_);refine eX (gR (gI rfl rfl (gI rfl rfl (gI rfl rfl rfl))) ?_);refine eX (eX (gR (gI rfl rfl (gI rfl rfl rfl)) ?_));refine xn (t:=false) rfl rfl (vK (P:=P) ?_);show W P _ _ _;refine eX (gR (gI rfl rfl (gI rfl rfl (gI rfl rfl rfl))) ?_);refine eX (eX (gR (gI rfl rfl (gI rfl rfl (gI rfl rfl rfl))) ?_));refine Dq (t:=true) rfl rfl ?_;refine eX (gR (gI rfl rfl (gI rfl rfl (gI rfl ha (gI rfl rfl rfl)))) ?_);refine zJ (P:=P) ?_;show wk _ _;exact tU (N:=2) (k:=1) (ob:=[x]) rfl rfl (by simp) rfl
theorem IY{bq:uX}{f nt:Nat}{tl:CC}(hm:P.follows .mixedOrders=true)(hF:oG P bq f 3=some ⟨3,nt,[.tmp 6],tV z.length z tl⟩)(h0:0<=i)(h1:i<=rows.length)(h3:rows.length+1<=qM):
  xm P f [.mt (.sl z.length rows),.d (.lit (.int .i64 i)),.mt (.sl z.length [x])] [.c (.sl z.length (iR rows x i))] [.j6,.j6]:=by
 by_cases he:i=rows.length
 .subst he;refine vA hm hF (m:=[]) ⟨rfl,?_⟩;have e:iR rows x (rows.length:Int)=rows++[x]:=by simp[iR]
  rw[e];exact K6 h3
 .refine CL hm hF (m:=[]) ⟨rfl,?_⟩;refine Ll (t:=0) (id:=0) (sz:=z.length) (len:=rows.length) (szo:=z.length) (rows:=rows) rfl rfl fun c _ _=>?_;exact K5 h0 (by omega) h3
theorem GJ{bq:uX}{f nt:Nat}{tl:CC}(hm:P.follows .mixedOrders=true)(hF:oG P bq f 3=some ⟨3,nt,[.tmp 6],tV z.length z tl⟩):
  xm P f [.mt (.d (.lit (.slice none 0 0))),.d (.lit (.int .i64 0)),.mt (.sl z.length [x])] [.c (.sl z.length [x])] [.j6,.j6]:=
 vA hm hF (m:=[]) ⟨rfl,K4⟩
end
def Ei{α:Type}(s:Sl α)(i:Int)(v:Sl α):Option (Sl α):=
 match v with
 |.mk [x]=>
  (match s with
   |.mk l=>bif decide (0<=i)&&decide (i<=(l.length:Int))&&gZ (l.length+1) 2147483648 then some (.mk (l.take i.toNat++x::l.drop i.toNat))else none
   |.nil=>bif decide (i=0)then some (.mk [x])else none)
 |_=>none
def IZ(t:Ty):fZ:=⟨[(true,.os t),(false,.x (.i .i64)),(true,.os t)],[([.os t],[.gn,.gn])],false,[true,false,true],fun p=>match p with|(s,i,v)=>Ei s i v⟩
theorem Na{P:Program}{bq:uX}{f nt:Nat}{tl:CC}(hm:P.follows .mixedOrders=true){t:Ty}{z:List Value}(hF:oG P bq f 3=some ⟨3,nt,[.tmp 6],tV (bG t) z tl⟩)(hz:z.length=bG t):bf P f (IZ t):=by
 refine⟨rfl,fun p r hr=>?_⟩;obtain⟨s,i,v⟩:=p;have hr:Ei s i v=some r:=hr;rw[<-hz]at hF
 match v,hr with
 |.mk [x],hr=>
  cases s with
  |nil=>obtain⟨hc,hr⟩:=aH hr;obtain rfl:=aa hr;obtain rfl:i=0:=of_decide_eq_true hc;have hg:=GJ (x:=aP t x) hm hF;rw[hz]at hg;exact hg
  |mk l=>
   obtain⟨hc,hr⟩:=aH hr;simp only[ah,decide_eq_true_eq]at hc;obtain⟨⟨h0,h1⟩,h3⟩:=hc;obtain rfl:=aa hr;have h3:=fD h3;have hg:=IY (rows:=l.map (aP t)) (x:=aP t x) (i:=i) hm hF h0 (by simpa using h1) (by simpa[qM]using h3);have e:iR (l.map (aP t)) (aP t x) i=(l.take i.toNat++x::l.drop i.toNat).map (aP t):=by simp[iR]
   rw[e,hz]at hg;exact hg
 |.nil,hr=>simp[Ei]at hr
 |.mk [],hr=>simp[Ei]at hr
 |.mk (_::_::_),hr=>simp[Ei]at hr
open Go.ChangeShapes Go.WideShapes Go.ChangeAt Go.RowKit
def yG:(t:Ty)->El t->Prop
 |.i k,x=>k.min<=x/\x<=k.max
 |.s,s=>s.size<=maxLen
 |.f k,b=>(Lit.float k b).wf=true
 |.sl t,s=>s.l.length<=maxLen/\∀x∈s.l,yG t x
 |.pr a c,v=>yG a v.1/\yG c v.2
 |.st t,v=>yG t v
 |.ar _ t,v=>∀x∈v.1,yG t x
 |_,_=>True
def Gs(P:Program)(ok:TypeId->Bool)(sz:TypeId->Nat):List Field->Nat->Nat->Bool
 |[],off,Mw=>l7 off Mw
 |f::r,off,Mw=>ok f.type&&l7 f.offset off&&l7 (P.cellsOf f.type) (sz f.type)&&Gs P ok sz r (off+sz f.type) Mw
def Fk(P:Program):Nat->TypeId->Bool
 |0,_=>false
 |n+1,t=>match P.underlying t with|some (.int _)|some .bool|some .string|some (.float _)=>true|some (.slice e)=>Fk P n e&&Nat.blt 0 (bG (eP P n e))&&l7 (P.cellsOf e) (bG (eP P n e))|some (.struct fs)=>Gs P (Fk P n) (fun t=>bG (eP P n t)) fs.toList 0 (P.cellsOf t)|some (.array m e)=>Fk P n e&&l7 (P.cellsOf e) (bG (eP P n e))&&l7 (P.cellsOf t) (m*bG (eP P n e))|_=>false
theorem H8{P:Program}:∀(n:Nat)(t:TypeId),Fk P n t=true->rq P t (aP (eP P n t)) (yG (eP P n t)):=by
 intro n;induction n with
 |zero=>intro t h;simp[Fk]at h
 |succ n ih=>
  intro t h;simp only[Fk]at h;split at h
  .rename_i k hu;rw[show eP P (n+1) t=.i k by simp only[eP,hu]];exact Gj hu
  .rename_i hu;rw[show eP P (n+1) t=.b by simp only[eP,hu]];exact D1 hu
  .rename_i hu;rw[show eP P (n+1) t=.s by simp only[eP,hu]];exact AQ hu
  .rename_i k hu;rw[show eP P (n+1) t=.f k by simp only[eP,hu]];exact B9 hu
  .rename_i e hu;simp only[ah]at h;obtain⟨⟨h1,h2⟩,h3⟩:=h;rw[show eP P (n+1) t=.sl (eP P n e)by simp only[eP,hu]];exact B8 (enc:=aP (eP P n e)) hu (dl h3) (by simpa[Nat.blt_eq]using h2) (fun a=>bH _ a) (ih e h1)
  .rename_i fs hu;rw[show eP P (n+1) t=.st (eP.PJ (fs.toList.map fun f=>eP P n f.type))by simp only[eP,hu]];intro H en w fuel cs x hx;have hl:=Dy hu hx
   have key:∀(suf:List Field)(i off:Nat),(∀j,fs[i+j]?=suf[j]?)->Gs P (Fk P n) (fun t=>bG (eP P n t)) suf off (P.cellsOf t)=true->
     ∃v:El (eP.PJ (suf.map fun f=>eP P n f.type)),yG _ v/\kM w (cs.drop off) (aP _ v):=by
    intro suf;induction suf with
    |nil=>intro i off _ hok;have e:=dl hok;exact⟨(),trivial,kM.nil (by rw[fq,hl,e];omega)⟩
    |cons f r ihr=>
     intro i off hi hok;simp only[Gs,ah]at hok;obtain⟨⟨⟨k1,k2⟩,k3⟩,k4⟩:=hok;have k2:=dl k2;have k3:=dl k3;have hf:fs[i]?=some f:=by have:=hi 0;simpa using this
     obtain⟨a,f1,c1⟩:=B_ hu hx hf (ih f.type k1);rw[k2,k3]at c1;obtain⟨v,f2,c2⟩:=ihr (i+1) (off+bG (eP P n f.type)) (fun j=>by have:=hi (j+1);rw[show i+1+j=i+(j+1)by omega,this];rfl) k4
     have hle:off+bG (eP P n f.type)<=cs.length:=by
      have hmono:∀(suf:List Field)(off:Nat),Gs P (Fk P n) (fun t=>bG (eP P n t)) suf off (P.cellsOf t)=true->off<=P.cellsOf t:=by intro suf;induction suf with|nil=>intro off h;exact Nat.le_of_eq (dl h)|cons g r ih=>intro off h;simp only[Gs,ah]at h;have:=ih _ h.2;omega
      rw[hl];exact hmono r _ k4
     have hfield:=kM.field c1 rfl c2 hle;cases r with|nil=>have e:aP (eP.PJ (([]:List Field).map fun f=>eP P n f.type)) v=[]:=rfl;rw[e,bo]at hfield;exact⟨a,f1,hfield⟩|cons g r=>exact⟨(a,v),⟨f1,f2⟩,hfield⟩
   obtain⟨v,f1,c1⟩:=key fs.toList 0 0 (fun j=>by simp) h;exact⟨v,f1,by rw[cM]at c1;exact c1⟩
  .rename_i m e hu;simp only[ah]at h;obtain⟨⟨h1,h2⟩,h3⟩:=h;have h2:=dl h2;have h3:=dl h3;rw[show eP P (n+1) t=.ar m (eP P n e)by simp only[eP,hu]];intro H en w fuel cs x hx;have hl:=Hn hu hx
   have key:∀j,j<=m->∃l:List (El (eP P n e)),l.length=j/\(∀y∈l,yG _ y)/\kM w (cs.drop ((m-j)*bG (eP P n e))) (l.flatMap (aP (eP P n e))):=by
    intro j;induction j with
    |zero=>intro _;exact⟨[],rfl,fun y hy=>by simp at hy,kM.nil (by rw[fq,hl,h3];simp)⟩
    |succ j ihj=>
     intro hj;obtain⟨l,l1,l2,l3⟩:=ihj (by omega);obtain⟨a,f1,c1⟩:=D0 hu hx (i:=m-(j+1)) (by omega) (ih e h1);rw[h2]at c1;have hs:(m-(j+1))*bG (eP P n e)+bG (eP P n e)=(m-j)*bG (eP P n e):=by rw[show m-j=(m-(j+1))+1 by omega,Nat.succ_mul]
     refine⟨a::l,by simp[l1],fun y hy=>?_,?_⟩
     .rcases aJ.1 hy with rfl|hy
      .exact f1
      .exact l2 y hy
     .rw [List.flatMap_cons];refine kM.field c1 hs l3 ?_;rw[hl,h3];exact aI _ (by omega)
   obtain⟨l,l1,l2,l3⟩:=key m (am _);rw[Nat.sub_self,gP,cM]at l3;exact⟨⟨l,l1⟩,l2,l3⟩
  .simp at h
def Ht:List Ty->List V->Prop
 |[],l=>l=[]
 |a::r,l=>∃(v:El a)(m:List V),l=.x a v::m/\yG a v/\Ht r m
theorem FK{a:Ty}(v:El a):up a (.x a v)=some v:=by simp[up,fF]
theorem Ht.gB:∀{cs:List Ty}{l:List V},Ht cs l->∃p,vR cs l=some p/\gU cs p=l:=by
 have key:∀(r:List Ty)(a:Ty)(l:List V),Ht (a::r) l->∃p,Dv a r l=some p:=by intro r;induction r with|nil=>rintro a l ⟨v,m,rfl,_,hm⟩;have hm:m=[]:=hm;subst hm;exact⟨v,FK v⟩|cons c r ih=>rintro a l ⟨v,m,rfl,_,hm⟩;obtain⟨p,hp⟩:=ih c m hm;refine⟨(v,p),?_⟩;show FY (up a (.x a v)) (Dv c r m)=_;rw[FK,hp];rfl
 intro cs l h;cases cs with|nil=>have h:l=[]:=h;subst h;exact⟨(),rfl,rfl⟩|cons a r=>obtain⟨p,hp⟩:=key r a l h;exact⟨p,hp,pW (a::r) l p hp⟩
theorem NW{P:Program}{n:Nat}{t:TypeId}(ho:Fk P n t=true)(h1:(li (eP P n t)||l7 (bG (eP P n t)) 1)=true){w:World}{r:Reach}{b:Nat}{v:Value}(hv:Value.okWide P w r b t v)
  {H:Type} {en:TypeId×Value->H} {x:DataW H} {ps:List MemPlace} (h:DataW.Trod en P w 0 (fun _=>true) true t v x ps):∃a:El (eP P n t),yG _ a/\RA (S0 w) w (bif li (eP P n t)then .agg (aP _ a)else .d ((aP _ a).headD default)) v []:=by
 have hop:=H8 n t ho;cases hag:li (eP P n t)with
 |true=>
  simp only[cond_true];cases n with
  |zero=>simp[Fk]at ho
  |succ n=>
   simp only[Fk]at ho;split at ho
   .rename_i hu;simp[eP,hu,li]at hag
   .rename_i hu;simp[eP,hu,li]at hag
   .rename_i hu;simp[eP,hu,li]at hag
   .rename_i hu;simp[eP,hu,li]at hag
   .rename_i hu;simp[eP,hu,li]at hag
   .rename_i fs hu;exact LR hop hv hu h
   .rename_i m e hu;exact LQ hop hv hu h
   .simp at ho
 |false=>
  simp only[cond_false];have hsz:bG (eP P n t)=1:=by rw[hag,Bool.false_or]at h1;exact dl h1
  have he:(fun a=>[(aP (eP P n t) a).headD default])=aP (eP P n t):=by
   funext a;have hl:=bH (eP P n t) a;rw[hsz]at hl
   match hh:aP (eP P n t) a,hl with|[d],_=>rfl
  have hs:match P.underlying t with|some (.struct _)|some (.array _ _)|some (.interface _)|some (.func ..)|some (.chan ..)|some .unsafePointer|some (.map _ _)=>False|_=>True:=by
   cases n with
   |zero=>simp[Fk]at ho
   |succ n=>
    simp only[Fk]at ho;split at ho
    .rename_i hu;rw[hu];trivial
    .rename_i hu;rw[hu];trivial
    .rename_i hu;rw[hu];trivial
    .rename_i hu;rw[hu];trivial
    .rename_i hu;rw[hu];trivial
    .rename_i fs hu;simp[eP,hu,li]at hag
    .rename_i m e hu;simp[eP,hu,li]at hag
    .simp at ho
  exact PM (d:=fun a=>(aP (eP P n t) a).headD default) (fit:=yG (eP P n t)) (by rw[he];exact hop) hv hs h
def PP(P:Program)(ts:List TypeId):Bool:=ts.all fun t=>Fk P G4 t&&(li (eP P G4 t)||l7 (bG (eP P G4 t)) 1)
theorem LP{P:Program}{W:World}{aK:Nat}{H:Type}{en:TypeId×Value->H}:∀(ts:List TypeId)(vs:List Value)(ds:List (DataW H))(ps:List MemPlace),DataW.TrodAll en P W 0 (fun _=>true) true ts vs ds ps->PP P ts=true->
  (∀(j:Nat)t v,ts[j]?=some t->vs[j]?=some v->Value.okWide P W .any aK t v)->∃l,Ht (ts.map (eP P G4)) l/\J5 (S0 W) W (eT (ts.map fun t=>(false,Sh.x (eP P G4 t))) l) vs []:=by
 intro ts;induction ts with
 |nil=>intro vs ds ps h _ _;cases vs with|nil=>exact⟨[],rfl,rfl⟩|cons=>cases ds<;>exact h.elim
 |cons t ts ih=>
  intro vs ds ps h hok hv;cases vs with
  |nil=>cases ds<;>exact h.elim
  |cons v vs=>cases ds with|nil=>exact h.elim|cons d ds=>obtain⟨p,q,h1,h2,rfl⟩:=h;simp only[PP,fJ,ah]at hok;obtain⟨a,f1,r1⟩:=NW hok.1.1 (by simpa using hok.1.2) (hv 0 t v rfl rfl) h1;obtain⟨l,f2,r2⟩:=ih vs ds q h2 (by simpa[PP]using hok.2) fun j t' v' ht hv'=>hv (j+1) t' v' (by simpa using ht) (by simpa using hv');exact⟨.x _ a::l,⟨a,l,rfl,f1,f2⟩,[],[],rfl,r1,r2⟩
theorem NK:∀(tys:List Ty),eO ((tys.map fun t=>(false,Sh.x t)).map (·.2))=tys:=by intro tys;induction tys with|nil=>rfl|cons a r ih=>show a::eO ((r.map fun t=>(false,Sh.x t)).map (·.2))=a::r;rw[ih]
theorem G_{P:Program}{f:FuncId}{fn:Func}{s:ChangeSpec}{lT fP handsOn again:Bool}{tb:TypeId}{H:Type}{en:TypeId×Value->H}(hl:laidOutB P=true)(hfn:P.funcs[f]?=some fn)(hbody:fn.body.isSome=true)(hname:(fn.name== "runtime.NumGoroutine")=false)
  (hts:fn.params.toList.all (fun t=>P.readableRec t&&decide (t<P.types.size))=true) (hrt:fn.resultTypes= #[tb]) (htb:P.underlying tb=some .bool) (hvars:s.vars=[])
  {W:World} {args:Array Value} {ds gs:List (DataW H)} {eI:List MemPlace} (hW:DataW.Whole en P fn.params.toList s.vars lT W args.toList ds gs eI)
  (hspec:(s.fn H (ds++gs)).results=[.lit (.bool true)]/\(s.fn H (ds++gs)).args=ds/\(s.fn H (ds++gs)).vars=[])
  (hgl:Bx (S0 W) W) {aK:Nat} (hval:∀(j:Nat)t v,fn.params[j]?=some t->args[j]?=some v->Value.okWide P W .any aK t v)
  {tys:List Ty} (hty:fn.params.toList.map (eP P G4)=tys) (hok:PP P fn.params.toList=true) {ro:Bool} {jT:List Bool} {g:qG (eO ((tys.map fun t=>(false,Sh.x t)).map (·.2)))->Option (vH [([.x .b],[])])}
  (hsp:bf P f ⟨tys.map fun t=>(false,Sh.x t),[([.x .b],[])],ro,jT,g⟩) (law:∀p,Ht (eO ((tys.map fun t=>(false,Sh.x t)).map (·.2))) (gU _ p)->g p=some true):
  Calls P f args W fun e W'=>∃v,e=.returned v/\s.post en P fn lT fP handsOn again W args v W':=by
 have hW':=hW;obtain⟨p,q,hA0,hV,hpq,hfz,hnd⟩:=hW;have hA:DataW.TrodAll en P W 0 (fun _=>true) true fn.params.toList args.toList ds p:=hA0;obtain⟨l,h1,h2⟩:=LP (aK:=aK) _ _ _ _ hA hok fun j t v ht hv=>hval j t v (by simpa using ht) (by simpa using hv);have h3:fn.params.toList.map (fun t=>(false,Sh.x (eP P G4 t)))=tys.map fun t=>(false,Sh.x t):=by rw[<-hty,lA];rfl
 rw[h3]at h2;rw[hty,<-NK tys]at h1;obtain⟨pl,hp,hu⟩:=h1.gB;have hg:=hsp.2 pl true (law pl (by rw[hu];exact h1));rw[<-hu]at h2;exact Js hl hfn hbody hname hts hrt htb hvars hW' hspec hgl ⟨_,h2,hg⟩
end Go.Ev
