/- Code: what is evaluated is what the abstract machine does. Conditions: as stated. -/
import Derived.Test.YtbcmbckpebpijaaDoorKh
import Derived.Test.YtbcmbckpebpijaaDoorEvY
open Bool renaming and_eq_true->ae,and_eq_true_iff->bX,and_self->fI,false_eq_true->aM
open List renaming all_cons->ed,all_eq_true->aQ,append_nil->aW,cons_append->aJ,drop_zero->bW,headD_cons->bt,length_append->aZ,length_drop->bR,map_cons->aq,map_map->iM,map_nil->aR,mem_append->aj,mem_append_left->aC,mem_append_right->aA,mem_cons->aD,mem_cons_of_mem->av,mem_singleton->am,nil_append->aY,nil_sublist->fN
open List.Sublist renaming refl->br
open Nat renaming beq->ji,ble->fZ,eq_of_beq_eq_true->cC,le_of_ble_eq_true->fY,le_refl->ak,le_trans->dg
open Option.some renaming inj->aa
open Prod.mk renaming inj->ad
namespace Go.Ev
theorem wW(j:J)(s0 s:S2):rL j s0 s=vF j s0 (uC j.vs s):=rfl
theorem wV{j:J}{s1':St}{s0 s':S2}{l:List V}(hr:R2 s1' s')(hc:rL j s0 s'=some l):∀i∈s'.wo,s0.next<=i\/i∈j.kl:=by
 obtain⟨s1c,_,_,wc,hwc,_⟩:=vA j.vs s1' s' hr;rw[wW]at hc;unfold vF at hc;split at hc
 case h_2=>simp at hc
 split at hc
 case h_2=>simp at hc
 split at hc
 case h_2=>simp at hc
 obtain⟨hchk,_⟩:=aI hc;simp only[ae,aQ]at hchk;intro i hi;have:=hchk.1 i (by rw[hwc];simp[hi]);simpa[Nat.ble_eq]using this
theorem oE{j:J}{ds w:List Nat}{s1 s1':St}{s0 s' s'':S2}{l:List V}(hr0:R2 s1 s0)(hr:R2 s1' s')(hf:rD ds w s1 s1' s0 s')(hw:∀i∈w,s0.next<=i\/i∈j.kl)(hc:rL j s0 s'=some l)(hs:pH j ds s0 l=some s''):
  ∃s1'' w',Sub s1' s1''/\R2 s1'' s''/\s''.wo=w'++s0.wo/\rD ds w' s1 s1'' s0 s''/\∀i∈w',s0.next<=i\/i∈j.kl:=by
 obtain⟨s1c,hsub,hrc,wc,hwc,hfc⟩:=vA j.vs s1' s' hr;have hc2:=hc;rw[wW]at hc2
 have hwcc:∀i∈wc,s0.next<=i\/i∈j.kl:=by
  unfold vF at hc2;split at hc2
  case h_2=>simp at hc2
  split at hc2
  case h_2=>simp at hc2
  split at hc2
  case h_2=>simp at hc2
  obtain⟨hchk,_⟩:=aI hc2;simp only[ae,aQ]at hchk;intro i hi;have:=hchk.1 i (by rw[hwc];simp[hi]);simpa[Nat.ble_eq]using this
 obtain⟨s1'',w',h1,h2,h3,h4,h5⟩:=KT (w:=wc++w) hr0 hrc (hf.trans (hfc.mono (fun t ht=>by simp at ht) fun i hi=>hi)) (fun i hi=>by
  rcases aj.1 hi with hi|hi
  .exact hwcc i hi
  .exact hw i hi) (by rw[<-wW];exact hc) hs
 exact⟨s1'',w',hsub.trans h1,h2,h3,h4,h5⟩
theorem Cf{β:Type}{s0 s':S2}{o:nL}{ds:List Nat}{k:nL->S2->Option β}{z:β}:∀(e:Ex)(x:zG e),Dw s0 o s' e=some x->EY ds s0 k e x=some z->∃j∈e,∃l s'',rL j.2 s0 s'=some l/\pH j.2 ds s0 l=some s''/\k o s''=some z:=by
 have fin:∀(j:J)(p:mq (lK j))(l:List V),qB (lK j) l=some p->(match pH j ds s0 (kW (lK j) p)with|some s=>k o s|none=>none)=some z->∃s'',pH j ds s0 l=some s''/\k o s''=some z:=by
  intro j p l h1 h2;rw[lR _ _ _ h1]at h2;split at h2
  .rename_i s'' hs;exact⟨s'',hs,h2⟩
  .simp at h2
 have key:∀(r:Ex)(o1:nL)(j:J)(x:zG.GP j r),FQ s0 o s' o1 j r=some x->JT ds s0 k o1 j r x=some z->∃j'∈(o1,j)::r,∃l s'',rL j'.2 s0 s'=some l/\pH j'.2 ds s0 l=some s''/\k o s''=some z:=by
  intro r;induction r with
  |nil=>
   intro o1 j x hx hz;simp only[FQ]at hx;obtain⟨ho,hx2⟩:=aI hx;clear hx;obtain rfl:o=o1:=by simpa using ho
   split at hx2
   .rename_i l hl;obtain⟨s'',h1,h2⟩:=fin j x l hx2 hz;exact⟨(o,j),by simp,l,s'',hl,h1,h2⟩
   .simp at hx2
  |cons q r ih=>
   obtain⟨o2,j2⟩:=q;intro o1 j x hx hz;simp only[FQ]at hx;cases hd:decide (o=o1)with
   |true=>
    rw[hd,cond_true]at hx;obtain rfl:o=o1:=by simpa using hd
    split at hx
    .rename_i l hl;split at hx
     .rename_i p hp;obtain rfl:=aa hx;obtain⟨s'',h1,h2⟩:=fin j p l hp hz;exact⟨(o,j),by simp,l,s'',hl,h1,h2⟩
     .simp at hx
    .simp at hx
   |false=>
    rw[hd,cond_false]at hx;split at hx
    .rename_i y hy;obtain rfl:=aa hx;obtain⟨j',h1,h2⟩:=ih o2 j2 y hy hz;exact⟨j',av _ h1,h2⟩
    .simp at hx
 intro e x hx hz;cases e with|nil=>exact nomatch x|cons q r=>exact key r q.1 q.2 x hx hz
def Lr{β:Type}(ds:List Nat)(s1:St)(s:S2)(k:nL->S2->Option β)(z:β)(o:nL)(s1':St):Prop:=wk (fun s1''=>∃s',R2 s1'' s'/\Fr ds s1 s1'' s s'/\k o s'=some z) s1'
theorem DG{P:Program}{tb:zF}(htb:lI P tb)(hg:je):∀(c:C2){β:Type}(s1:St)(s:S2)(k:nL->S2->Option β)(z:β),rJ tb c s k=some z->R2 s1 s->W P (jD c) s1 (Lr (jJ c) s1 s k z):=by
 intro c;induction c with
 |skip=>intro β s1 s k z hz hr;exact wk.of (wk.of ⟨s,hr,Fr.refl,hz⟩)
 |exit id=>intro β s1 s k z hz hr;exact wk.of (wk.of ⟨s,hr,Fr.refl,hz⟩)
 |ret=>intro β s1 s k z hz hr;exact wk.of (wk.of ⟨s,hr,Fr.refl,hz⟩)
 |dM=>intro β s1 s k z hz hr;simp[rJ]at hz
 |Hv ops dr jn=>
  intro β s1 s k z hz hr;cases jn with
  |none=>refine W.mono (fun o s1' h=>?_) (xU (jn:=none) htb hg (show Ci tb ops dr s (fun s=>k .normal s)=some z by simpa only[rJ]using hz) hr);obtain⟨rfl,s',h1,h2,h3⟩:=h;exact wk.of ⟨s',h1,h2,h3⟩
  |some j=>
   simp only[rJ]at hz;obtain⟨p,hp,hz⟩:=mP hz;refine W.mono (fun o s1' h=>?_) (xU (jn:=some j) htb hg hp (hr.wo []));obtain⟨rfl,s',h1,⟨w,h2,h3⟩,h4⟩:=h;split at h4
   .rename_i l hl;rw[lR _ _ _ h4]at hz;split at hz
    .rename_i s'' hs;have hf:rD (ops.filterMap (·.o.dst)) w s1 s1' s s':=⟨h3.le,h3.dm,h3.gl,h3.ob,h3.cG⟩
     obtain⟨s1'',w',g1,g2,g3,g4,_⟩:=oE hr h1 hf (fun i hi=>wV h1 hl i (by rw[h2];simp[hi])) hl hs;exact⟨s1'',g1,s'',g2,⟨w',g3,g4⟩,hz⟩
    .simp at hz
   .simp at h4
 |seq a b e iha ihb=>
  intro β s1 s k z hz hr;have go:∀(o:nL)(s1' s1'':St)(s':S2),Sub s1' s1''->R2 s1'' s'->Fr (jJ a) s1 s1'' s s'->(match o with|.normal=>rJ tb b s' k|o=>k o s')=some z->pp (fun s'=>W P (jD b) s' (Lr (jJ (.seq a b e)) s1 s k z)) (Lr (jJ (.seq a b e)) s1 s k z) o s1':=by intro o s1' s1'' s' hsub h1 h2 h3;have hda:∀t∈jJ a,t∈jJ (.seq a b e):=fun t ht=>aC _ ht;have hdb:∀t∈jJ b,t∈jJ (.seq a b e):=fun t ht=>aA _ ht;cases o with|normal=>refine W.sub hsub (W.mono (fun o s2 h=>?_) (ihb s1'' s' k z h3 h1));exact wk.mono h fun _⟨s3,g1,g2,g3⟩=>⟨s3,g1,(h2.mono hda).trans (g2.mono hdb),g3⟩|exit id=>exact⟨s1'',hsub,s',h1,h2.mono hda,h3⟩|ret=>exact⟨s1'',hsub,s',h1,h2.mono hda,h3⟩
  cases e with
  |nil=>simp only[rJ]at hz;refine IZ (W.mono (fun o s1' h=>?_) (iha s1 s _ z hz hr));obtain⟨s1'',hsub,s',h1,h2,h3⟩:=h;exact go o s1' s1'' s' hsub h1 h2 h3
  |cons q r=>
   simp only[rJ]at hz;obtain⟨x,hx,hz⟩:=mP hz;refine IZ (W.mono (fun o s1' h=>?_) (iha s1 {s with wo:=[]} _ x hx (hr.wo [])));obtain⟨s1'',hsub,s',h1,⟨w,h2,h3⟩,h4⟩:=h;obtain⟨j,_,l,s'',g1,g2,g3⟩:=Cf (q::r) x h4 hz;have hf:rD (jJ a) w s1 s1'' s s':=⟨h3.le,h3.dm,h3.gl,h3.ob,h3.cG⟩
   obtain⟨s2,w',k1,k2,k3,k4,_⟩:=oE hr h1 hf (fun i hi=>wV h1 g1 i (by rw[h2];simp[hi])) g1 g2;exact go o s1' s2 s'' (hsub.trans k1) k2 ⟨w',k3,k4⟩ g3
 |cond c a b iha ihb=>
  intro β s1 s k z hz hr;have hda:∀t∈jJ a,t∈jJ (.cond c a b):=fun t ht=>aC _ ht;have hdb:∀t∈jJ b,t∈jJ (.cond c a b):=fun t ht=>aA _ ht
  have go:∀t,g_ s1.cG c=some (tB t)->(bif t then rJ tb a s k else rJ tb b s k)=some z->W P (jD (.cond c a b)) s1 (Lr (jJ (.cond c a b)) s1 s k z):=by
   intro t hc hz;refine Jt (t:=t) hc (fun ht=>?_) fun ht=>?_
   .subst ht;exact W.mono (fun o s2 h=>wk.mono h fun _⟨s3,g1,g2,g3⟩=>⟨s3,g1,g2.mono hda,g3⟩) (iha s1 s k z hz hr)
   .subst ht;exact W.mono (fun o s2 h=>wk.mono h fun _⟨s3,g1,g2,g3⟩=>⟨s3,g1,g2.mono hdb,g3⟩) (ihb s1 s k z hz hr)
  simp only[rJ]at hz;split at hz
  .rename_i t ht;obtain⟨x,h1,h2,_⟩:=kr hg hr ht;rw[qz h2]at h1;exact go t h1 hz
  .rename_i t ht;obtain⟨x,h1,h2,_⟩:=kr hg hr ht;rw[BE h2]at h1;exact go t h1 hz
  .simp at hz
 |block id a ih=>
  intro β s1 s k z hz hr;simp only[rJ]at hz;refine G4 (W.mono (fun o s1' h=>?_) (ih s1 s _ z hz hr));cases o with
  |normal=>exact h
  |ret=>exact h
  |exit i=>
   simp only[qt];obtain⟨s1'',hsub,s',h1,h2,h3⟩:=h;by_cases e:i=id
   .subst e;rw[if_pos rfl];simp only[beq_self_eq_true,cond_true]at h3;exact⟨s1'',hsub,s',h1,h2,h3⟩
   .rw [if_neg e];have e':(i==id)=false:=by simpa using e
    simp only[e',cond_false]at h3;exact⟨s1'',hsub,s',h1,h2,h3⟩
 |loop j e a ih=>
  intro β s1 s k z hz hr;simp only[rJ]at hz;obtain⟨hkl,hz⟩:=aI hz;have hkl:∀x∈e,∀i∈j.kl,i∈x.2.kl:=fun x hx i hi=>by have:=aQ.1 (aQ.1 hkl x hx) i hi;simpa using this
  split at hz
  case h_2=>simp at hz
  rename_i l hl;split at hz
  case h_2=>simp at hz
  rename_i p0 hp0;obtain⟨x,hx,hz⟩:=mP hz;obtain⟨n,hn⟩:=kZ.1 hx;clear hx
  generalize hf:(fun(p:mq (lK j))=>(match pH j (jJ a) s (kW (lK j) p)with
     |some s1=>rJ tb a {s1 with wo:=[]} fun o s'=>(match o with
      |.normal=>(match rL j s s' with|some l=>(match qB (lK j) l with|some q=>some (Sum.inl q)|none=>none)|none=>none)
      |o=>(match Dw s o s' e with|some x=>some (Sum.inr x)|none=>none))
     |none=>none:Option (mq (lK j)⊕zG e)))=f at hn
  have hrs:∀n p,ia f n p=some x->∃s2,pH j (jJ a) s (kW (lK j) p)=some s2:=by
   intro n p h;cases n with
   |zero=>simp[ia]at h
   |succ n=>
    cases hq:pH j (jJ a) s (kW (lK j) p)with
    |some s2=>exact⟨s2,rfl⟩
    |none=>
     have:f p=none:=by rw[<-hf];simp only[hq]
     simp[ia,this]at h
  refine⟨fun n t=>∃p s2 w,ia f n p=some x/\pH j (jJ a) s (kW (lK j) p)=some s2/\R2 t s2/\rD (jJ a) w s1 t s s2/\∀i∈w,s.next<=i\/i∈j.kl,n,?_,?_⟩
  .obtain ⟨s2,hs2⟩:=hrs n p0 hn;have hs3:=hs2;rw[lR _ _ _ hp0]at hs3;obtain⟨s1'',w',g1,g2,_,g4,g5⟩:=oE (w:=[]) hr (hr.wo []) ⟨ak _,gm.refl _ _,rfl,fun _ _ _=>⟨rfl,fun _ _ _ h=>h⟩,fun _ _ _ h _=>h⟩ (fun i hi=>by simp at hi) hl hs3;exact⟨s1'',g1,p0,s2,w',hn,hs2,g2,g4,g5⟩
  .rintro n t ⟨p,s2,w,h1,h2,h3,h4,h5⟩;cases n with
   |zero=>simp[ia]at h1
   |succ n=>
    have hfp:f p=rJ tb a {s2 with wo:=[]} fun o s'=>(match o with
      |.normal=>(match rL j s s' with|some l=>(match qB (lK j) l with|some q=>some (Sum.inl q)|none=>none)|none=>none)
      |o=>(match Dw s o s' e with|some x=>some (Sum.inr x)|none=>none)):=by
     rw[<-hf];simp only[h2]
    have hend:∀(o:nL)(t' t'':St)(s':S2)(y:zG e),o≠.normal->Sub t' t''->R2 t'' s'->Fr (jJ a) t t'' {s2 with wo:=[]} s'->Dw s o s' e=some y->y=x->Lr (jJ a) s1 s k z o t':=by
     rintro o t' t'' s' y _ hsub r1 ⟨wb,e1,e2⟩ hy rfl;obtain⟨j',hj',l',s'',g1,g2,g3⟩:=Cf e y hy hz;have hfw:rD (jJ a) (wb++w) s1 t'' s s':=h4.trans ⟨e2.le,e2.dm,e2.gl,e2.ob,e2.cG⟩
     obtain⟨s3,w',k1,k2,k3,k4,_⟩:=oE hr r1 hfw (fun i hi=>by
      rcases aj.1 hi with hi|hi
      .exact wV r1 g1 i (by rw[e1];simp[hi])
      .exact (h5 i hi).imp id (hkl j' hj' i)) g1 g2
     exact⟨s3,hsub.trans k1,s'',k2,⟨w',k3,k4⟩,g3⟩
    simp only[ia]at h1;cases hr1:f p with
    |none=>simp[hr1]at h1
    |some r=>
     rw[hr1]at h1;rw[hfp]at hr1;refine W.mono (fun o t' hq=>?_) (ih t _ _ r hr1 (h3.wo []));obtain⟨t'',hsub,s',r1,r2,r3⟩:=hq;cases o with
     |normal=>
      simp only at r3;split at r3
      .rename_i l2 hl2;split at r3
       .rename_i q hq;obtain rfl:=aa r3;simp only at h1;obtain⟨wb,e1,e2⟩:=r2;obtain⟨s3,hs3⟩:=hrs n q h1;have hs4:=hs3;rw[lR _ _ _ hq]at hs4;have hfw:rD (jJ a) (wb++w) s1 t'' s s':=h4.trans ⟨e2.le,e2.dm,e2.gl,e2.ob,e2.cG⟩
        obtain⟨t3,w',k1,k2,_,k4,k5⟩:=oE hr r1 hfw (fun i hi=>by
         rcases aj.1 hi with hi|hi
         .exact wV r1 hl2 i (by rw[e1];simp[hi])
         .exact h5 i hi) hl2 hs4
        exact⟨n,Nat.lt_succ_self n,t3,hsub.trans k1,q,s3,w',h1,hs3,k2,k4,k5⟩
       .simp at r3
      .simp at r3
     |exit id=>
      simp only at r3;split at r3
      .rename_i y hy;obtain rfl:=aa r3;exact hend (.exit id) t' t'' s' y (by simp) hsub r1 r2 hy (aa h1)
      .simp at r3
     |ret=>
      simp only at r3;split at r3
      .rename_i y hy;obtain rfl:=aa r3;exact hend .ret t' t'' s' y (by simp) hsub r1 r2 hy (aa h1)
      .simp at r3
section
variable{h:H2}{n:Nat}{h1:bl}
theorem yb{id sz lo len:Nat}{rows:List (List D)}(ho:au h1 id=some (.aH sz rows)\/au h1 id=some (.lB sz rows))(hl:lo+len<=rows.length)(szo:Nat):
  ∃t bf rd,(∀k,cR h1 k (.dq szo id lo len)=some (t,bf,rd))/\rI t=.sl szo ((rows.drop lo).take len)/\bf.Sublist [id]/\(au h1 id=some (.aH sz rows)->t=.sl szo ((rows.drop lo).take len))/\rx t=true:=by
 by_cases ha:au h1 id=some (.aH sz rows)
 .exact ⟨.sl szo ((rows.drop lo).take len),[id],[id],fun k=>by cases k<;>simp only[cR,ha,if_pos hl],rfl,br _,fun _=>rfl,rfl⟩
 .have hi:=ho.resolve_left ha;exact⟨.d (.sl szo ((rows.drop lo).take len)),[],[id],fun k=>by cases k<;>simp only[cR,hi,if_pos hl],rfl,fN _,fun e=>absurd e ha,rfl⟩
theorem HF(hr:HR n h1 h){id ver:Nat}{t:Ty}{s:Sl (El t)}(ho:fO h id=some (.ar t s ver)\/fO h id=some (.im t s ver)):
  ∃q bf rd,(∀k,cR h1 k (jm (bC t) (aN t) id s)=some (q,bf,rd))/\rI q=pF (bC t) (aN t) s/\bf.Sublist [id]/\rx q=true:=by
 cases s with
 |nil=>exact⟨_,_,_,fun k=>qa k _,rfl,fN _,rfl⟩
 |mk l=>
  have hb:au h1 id=some (.aH (bC t) (l.map (aN t)))\/au h1 id=some (.lB (bC t) (l.map (aN t))):=by
   rcases ho with ho|ho
   .exact .inl ((hr.ob id _ ho).2.1.2.2 l rfl)
   .exact .inr ((hr.ob id _ ho).2.1.2.2 l rfl)
  obtain⟨q,bf,rd,g1,g2,g3,_,g5⟩:=yb (lo:=0) (len:=(l.map (aN t)).length) hb (by omega) (bC t);rw[o3]at g2;exact⟨q,bf,rd,g1,g2,g3,g5⟩
theorem FW{t:Ty}(s:Sl (Sl (El t))):rI (sG t s)=pF 1 (aN (.sl t)) (s:Sl (El (.sl t))):=by cases s with|nil=>rfl|mk l=>simp only[sG,rI,pF,iM];congr 1;exact List.map_congr_left fun r _=>by cases r<;>rfl
theorem HG(hr:HR n h1 h){id:Nat}{t:Ty}{s:Sl (Sl (El t))}(ho:fO h id=some (.rw t s none)):
  ∃bf rd,(∀k,cR h1 k (jm 1 (aN (.sl t)) id (s:Sl (El (.sl t))))=some (sG t s,bf,rd))/\bf.Sublist [id]:=by
 cases s with|nil=>exact⟨_,_,fun k=>qa k _,fN _⟩|mk l=>exact⟨_,_,fun k=>MT (k:=k) ((hr.ob id _ ho).2.1.2.2 l rfl),br _⟩
theorem BS(hr:HR n h1 h){id ver lo:Nat}{t:Ty}{r:Sl (El t)}(hk:dC n h (.sb id ver lo t r))(ha:uf h id ver=true):
  ∃q bf rd,(∀k,cR h1 k (rV id lo t r)=some (q,bf,rd))/\rI q=pF (bC t) (aN t) r/\bf.Sublist [id]/\((∃u s v,fO h id=some (.ar u s v))->q=JE (bC t) (aN t) r)/\rx q=true:=by
 obtain⟨u,s,ho⟩:=iK ha;obtain⟨_,hc⟩:=hk.2 u s ver ho;obtain⟨hz,hc⟩:=hc rfl;cases r with
 |nil=>exact⟨_,_,_,fun k=>qa k _,rfl,fN _,fun _=>rfl,rfl⟩
 |mk m=>
  cases s with
  |nil=>exact hc.elim
  |mk l=>
   obtain⟨hl,he⟩:=hc
   have hb:au h1 id=some (.aH (bC u) (l.map (aN u)))\/au h1 id=some (.lB (bC u) (l.map (aN u))):=by
    rcases ho with ho|ho
    .exact .inl ((hr.ob id _ ho).2.1.2.2 l rfl)
    .exact .inr ((hr.ob id _ ho).2.1.2.2 l rfl)
   obtain⟨q,bf,rd,g1,g2,g3,g4,g5⟩:=yb (lo:=lo) (len:=(m.map (aN t)).length) hb (by simpa using hl) (bC t);rw[show(m.map (aN t)).length=m.length by simp,he]at g2 g4;refine⟨q,bf,rd,fun k=>?_,g2,g3,?_,g5⟩
   .have:=g1 k;simpa[rV]using this
   .rintro ⟨u',s',v',ho'⟩;rcases ho with ho|ho
    .exact g4 ((hr.ob id _ ho).2.1.2.2 l rfl)
    .rw [ho']at ho;simp at ho
theorem Dq(ds:List D):(ds.map T.d).map rI=ds:=by induction ds with|nil=>rfl|cons d ds ih=>simp only[aq,rI,ih]
theorem FY(hr:HR n h1 h):∀(v w:V)(l:List Nat)(cs:List C),gb h v=some (w,l)->dE h v cs->dC n h v->ft h v=true->
  ∃ts bf rd,(∀k,cs.length<=k->fF h1 k cs=some (ts,bf,rd))/\dE h w ((ts.map rI).map .d)/\bf.Sublist l/\cs.length=ts.length/\oH w=oH v/\∀q∈ts,rx q=true:=by
 have done:∀(v:V)(ds:List D),dE h v (ds.map .d)->∃ts bf rd,(∀k,(ds.map C.d).length<=k->fF h1 k (ds.map .d)=some (ts,bf,rd))/\dE h v ((ts.map rI).map .d)/\bf.Sublist ([]:List Nat)/\(ds.map C.d).length=ts.length/\oH v=oH v/\∀q∈ts,rx q=true:=fun v ds hv=>⟨ds.map .d,[],[],fun k hk=>kY ds k (by simpa using hk),by rw[Dq];exact hv,br _,by simp,rfl,fun q hq=>by obtain⟨d,_,rfl⟩:=List.mem_map.1 hq;rfl⟩
 have one:∀(c:C)(q:T)(bf rd:List Nat),(∀k,cR h1 k c=some (q,bf,rd))->∀k,[c].length<=k->fF h1 k [c]=some ([q],bf,rd):=fun c q bf rd hq k hk=>by
  obtain⟨k,rfl⟩:∃k',k=k'+1:=⟨k-1,by simp at hk;omega⟩
  exact mz (hq k)
 intro v;induction v with
 |so id=>
  intro w l cs hf hv hk ha;simp only[gb]at hf;split at hf
  .rename_i t s l' hs;obtain⟨rfl,rfl⟩:=ad (aa hf);obtain⟨ver,ho,e⟩:=pE hs;have e:l'=[id]:=e;subst e;obtain⟨c,rfl,hc,_⟩:=hv;rw[hc _ (jl ho)];obtain⟨q,bf,rd,q1,q2,q3,q5⟩:=HF hr ho;have hd:gT t=true:=by rcases ho with ho|ho<;>exact(hr.ob id _ ho).2.1.1
   exact⟨[q],bf,rd,one _ q bf rd q1,⟨hd,by simp only[aq,aR,q2];rfl⟩,q3,rfl,rfl,fun p hp=>by obtain rfl:=am.1 hp;exact q5⟩
  .simp at hf
 |sr id=>
  intro w l cs hf hv hk ha;simp only[gb]at hf;split at hf
  .rename_i t s ho;obtain⟨rfl,rfl⟩:=ad (aa hf);obtain⟨c,rfl,hc,_⟩:=hv;rw[hc _ (nU ho)];obtain⟨bf,rd,q1,q3⟩:=HG hr ho;exact⟨[_],bf,rd,one _ _ bf rd q1,⟨(hr.ob id _ ho).2.1.1,by simp only[aq,aR,FW];rfl⟩,q3,rfl,rfl,fun p hp=>by obtain rfl:=am.1 hp;cases s<;>rfl⟩
  .simp at hf
 |sb id ver lo t r=>intro w l cs hf hv hk ha;simp only[gb,o9]at hf;obtain⟨rfl,rfl⟩:=ad (aa hf);obtain⟨hd,ha⟩:=bX.1 ha;have ha:uf h id ver=true:=ha;obtain⟨c,rfl,hc,_⟩:=hv;rw[hc ha];obtain⟨q,bf,rd,q1,q2,q3,_,q5⟩:=BS hr hk ha;exact⟨[q],bf,rd,one _ q bf rd q1,⟨hd,by simp only[aq,aR,q2];rfl⟩,q3,rfl,rfl,fun p hp=>by obtain rfl:=am.1 hp;exact q5⟩
 |rc r ih=>
  intro w l cs hf hv hk ha;simp only[gb]at hf;split at hf
  .rename_i w' l' hw;obtain⟨rfl,rfl⟩:=ad (aa hf);obtain⟨ts,bf,rd,a1,a2,a3,a4,_,a6⟩:=ih w' l' cs hw hv hk ha;exact⟨ts,bf,rd,a1,a2,a3,a4,rfl,a6⟩
  .simp at hf
 |co a r iha ihr=>
  intro w l cs hf hv hk ha;simp only[gb]at hf;split at hf
  .rename_i x l1 y l2 hx hy;obtain⟨rfl,rfl⟩:=ad (aa hf);obtain⟨ca,cr,rfl,h2,h3⟩:=hv;simp only[ft,ae]at ha;obtain⟨ts,bf,rd,a1,a2,a3,a4,_,a6⟩:=iha x l1 ca hx h2 hk.1 ha.1;obtain⟨us,own2,rd2,b1,b2,b3,b4,_,b6⟩:=ihr y l2 cr hy h3 hk.2 ha.2;refine⟨ts++us,bf++own2,rd++rd2,fun k hk=>?_,⟨_,_,by simp,a2,b2⟩,a3.append b3,by simp[a4,b4],rfl,fun q hq=>(aj.1 hq).elim (a6 q) (b6 q)⟩;simp only[aZ]at hk;exact p_ (a1 k (by omega)) (b1 _ (by omega)) (by omega)
  .simp at hf
 |x t v=>intro w l cs hf hv hk ha;obtain⟨rfl,rfl⟩:=ad (aa hf);obtain⟨hd,rfl⟩:=hv;exact done _ _ ⟨hd,rfl⟩
 |kb c=>intro w l cs hf hv hk ha;obtain⟨rfl,rfl⟩:=ad (aa hf);obtain rfl:=hv;exact done (.kb c) [_] rfl
 |nl k=>intro w l cs hf hv hk ha;obtain⟨rfl,rfl⟩:=ad (aa hf);obtain rfl:=hv;exact done (.nl k) [_] rfl
 |fl q=>
  intro w l cs hf hv hk ha;obtain⟨rfl,rfl⟩:=ad (aa hf);obtain⟨hp,rfl⟩:=hv;have e:dk q=(q.map D.lit).map C.d:=by simp[dk]
  rw[e];exact done (.fl q) (q.map D.lit) ⟨hp,e.symm⟩
 |ni=>intro w l cs hf hv hk ha;obtain⟨rfl,rfl⟩:=ad (aa hf);obtain rfl:=hv;exact done .ni [] rfl
 |pt t v=>intro w l cs hf hv hk ha;obtain⟨rfl,rfl⟩:=ad (aa hf);obtain⟨hd,rfl⟩:=hv;exact done (.pt t v) [_] ⟨hd,rfl⟩
 |fn z f q ih=>intro w l cs hf hv hk ha;cases z with|true=>obtain⟨rfl,rfl⟩:=ad (aa hf);obtain⟨ds,hd,rfl⟩:=hv;exact done (.fn true f q) [_] ⟨ds,hd,rfl⟩|false=>simp[gb]at hf
 |_=>intro w l cs hf hv hk ha;simp[gb]at hf
def Cd:Sh->Bool
 |.x _=>true
 |_=>false
theorem GI:∀(c:Sh)(ln:Bool)(v:V)(l:List V)(i:List Nat),cL h c ln v=some (l,i)->l.length=(Iw c).length:=by
 intro c;induction c with
 |x t=>
  intro ln v l i ha;cases ln with
  |true=>simp[cL]at ha
  |false=>
   simp only[cL]at ha;split at ha
   .obtain ⟨rfl,_⟩:=ad (aa ha);rfl
   .simp at ha
 |os t=>
  intro ln v l i ha;cases ln with
  |true=>simp[cL]at ha
  |false=>
   cases v with
   |so id=>
    simp only[cL]at ha;split at ha
    .split at ha
     .obtain ⟨rfl,_⟩:=ad (aa ha);rfl
     .simp at ha
    .simp at ha
   |nl k=>cases k with|zero=>obtain⟨rfl,_⟩:=ad (aa ha);rfl|succ=>simp[cL]at ha
   |_=>simp[cL]at ha
 |rw t=>
  intro ln v l i ha;cases ln with
  |true=>simp[cL]at ha
  |false=>
   cases v with
   |sr id=>
    simp only[cL]at ha;split at ha
    .split at ha
     .obtain ⟨rfl,_⟩:=ad (aa ha);rfl
     .simp at ha
    .simp at ha
   |nl k=>cases k with|zero=>obtain⟨rfl,_⟩:=ad (aa ha);rfl|succ=>simp[cL]at ha
   |_=>simp[cL]at ha
 |mp kt vt=>
  intro ln v l i ha;cases ln with
  |true=>simp[cL]at ha
  |false=>
   cases v with
   |om id=>
    simp only[cL]at ha;split at ha
    .split at ha
     .obtain ⟨rfl,_⟩:=ad (aa ha);rfl
     .simp at ha
    .simp at ha
   |_=>simp[cL]at ha
 |pb t c ih=>
  intro ln v l i ha;cases ln with
  |true=>simp[cL]at ha
  |false=>
   cases v with
   |op id u p=>
    cases p with
    |cons=>simp[cL]at ha
    |nil=>
     simp only[cL]at ha;split at ha
     .obtain ⟨_,ha⟩:=aI ha;split at ha
      .rename_i hh;obtain⟨rfl,_⟩:=ad (aa ha);exact ih _ _ _ _ hh
      .simp at ha
     .simp at ha
   |_=>simp[cL]at ha
 |nl k=>
  intro ln v l i ha;cases ln with
  |true=>simp[cL]at ha
  |false=>cases v with|nl k'=>simp only[cL]at ha;obtain⟨_,ha⟩:=aI ha;obtain⟨rfl,_⟩:=ad (aa ha);rfl|_=>simp[cL]at ha
 |st c ih=>
  intro ln v l i ha;cases ln with
  |true=>simp[cL]at ha
  |false=>
   cases v with
   |rc q=>exact ih true q l i ha
   |x t v=>cases t with|st u=>exact ih true _ l i ha|_=>simp[cL]at ha
   |_=>simp[cL]at ha
 |pr a c iha ihc=>
  intro ln v l i ha;cases ln with
  |false=>simp[cL]at ha
  |true=>
   cases v with
   |co x r=>
    simp only[cL]at ha;split at ha
    .rename_i l1 i1 l2 i2 h2 h3;obtain⟨rfl,rfl⟩:=ad (aa ha)
     have hA:l1.length=(Iw a).length:=by
      split at h2
      .unfold Ka at h2;split at h2
       .obtain ⟨rfl,_⟩:=ad (aa h2);rfl
       .simp at h2
      .unfold MQ at h2;split at h2
       .obtain ⟨_,h2⟩:=aI h2;split at h2
        .obtain ⟨rfl,_⟩:=ad (aa h2);rfl
        .simp at h2
       .simp at h2
      .exact iha _ _ _ _ h2
     rw[aZ,hA,ihc _ _ _ _ h3];simp[Iw]
    .simp at ha
   |_=>simp[cL]at ha
 |ni=>
  intro ln v l i ha;cases ln with
  |false=>cases v<;>simp[cL]at ha
  |true=>cases v with|ni=>obtain⟨rfl,_⟩:=ad (aa ha);rfl|_=>simp[cL]at ha
 |_=>intro ln v l i ha;cases ln<;>cases v<;>simp[cL]at ha
theorem IQ{c:Sh}{v:V}{l:List V}{i:List Nat}(ha:cL h c false v=some (l,i))(hx:Cd c=false):oH v=rP c/\dV h v=nR h v:=by
 cases c with
 |x t=>simp[Cd]at hx
 |os t=>cases v<;>first|exact⟨rfl,rfl⟩|simp[cL]at ha
 |rw t=>cases v<;>first|exact⟨rfl,rfl⟩|simp[cL]at ha
 |pb t c=>cases v<;>first|exact⟨rfl,rfl⟩|simp[cL]at ha
 |mp kt vt=>cases v<;>first|exact⟨rfl,rfl⟩|simp[cL]at ha
 |nl k=>cases v<;>first|exact⟨rfl,rfl⟩|simp[cL]at ha
 |st c=>
  cases v with
  |rc q=>exact⟨rfl,rfl⟩
  |x t v=>cases t with|st u=>exact⟨rfl,rfl⟩|_=>simp[cL]at ha
  |_=>simp[cL]at ha
 |_=>cases v<;>simp[cL]at ha
theorem od{c:C}{ts:List T}{bf rd:List Nat}(hp:fF h1 301 [c]=some (ts,bf,rd)):∃t rd',cR h1 300 c=some (t,bf,rd')/\ts=[t]:=by
 simp only[fF,lg]at hp;split at hp
 .rename_i t a i xs b j hc hn;obtain⟨rfl,e⟩:=ad (aa hp);obtain⟨rfl,rfl⟩:=ad e;obtain⟨rfl,e⟩:=ad (aa hn);obtain⟨rfl,rfl⟩:=ad e;exact⟨t,i,by simpa using hc,rfl⟩
 .simp at hp
theorem EQ(hr:HR n h1 h){c:Sh}{v:V}{l:List V}{i:List Nat}{x:TV}(hc:Ht h c v=some (l,i))(hx:dV h v x)(hk:dC n h v)(ha:ft h v=true)(hf:fZ (li c) 300=true):
  l.length=(Iw c).length/\∃r0 bf,nC h1 x=some (r0,bf)/\bf.Sublist i/\∀rest,(if(Cd c&&AA r0)=true then DA r0 else r0)=(bif rP c then .agg (dG c (l++rest)).1 else .c ((dG c (l++rest)).1.headD default))/\(dG c (l++rest)).2=rest:=by
 have hf:li c<=300:=fY hf;have main:Cd c=false->cL h c false v=some (l,i)->l.length=(Iw c).length/\∃r0 bf,nC h1 x=some (r0,bf)/\bf.Sublist i/\∀rest,(if(Cd c&&AA r0)=true then DA r0 else r0)=(bif rP c then .agg (dG c (l++rest)).1 else .c ((dG c (l++rest)).1.headD default))/\(dG c (l++rest)).2=rest:=by intro hX hc;obtain⟨hag,htv⟩:=IQ hc hX;rw[htv]at hx;obtain⟨cs,h2,h3,h4⟩:=hx;obtain⟨ts,bf,rd,g1,g2,g3,_,_,g6,_⟩:=rf hr c false v l i cs hc h2 hk;refine⟨GI _ _ _ _ _ hc,?_⟩;cases hg:rP c with|true=>obtain rfl:=h3 (hag.trans hg);refine⟨.agg ts,bf,by simp only[nC,g1 300 hf],g3,fun rest=>?_⟩;rw[g2 rest,hX];exact⟨rfl,rfl⟩|false=>obtain⟨c1,rfl,rfl⟩:=h4 (hag.trans hg);obtain⟨t,rd',p1,rfl⟩:=od (g1 301 (by omega));refine⟨.c t,bf,by simp only[nC,p1],g3,fun rest=>?_⟩;rw[g2 rest,hX];exact⟨rfl,rfl⟩
 cases c with
 |x t=>
  simp only[Ht]at hc;split at hc
  .rename_i w l' hw;split at hc
   .rename_i y hy;obtain⟨rfl,rfl⟩:=ad (aa hc);have h5:nR h v x:=by cases v with|tp q=>simp[gb]at hw|no=>simp[ft]at ha|gn=>simp[ft]at ha|_=>exact hx
    obtain⟨cs,h2,h3,h4⟩:=h5;obtain⟨ts,bf,rd,g1,g2,g3,g4,g5,g6⟩:=FY hr v w l' cs hw h2 hk ha;have e:=fT w false t y _ hy g2;have e:=lu e;have hag:oH v=iF t:=g5.symm.trans (q9 hy);have hlen:cs.length=bC t:=by rw[g4,<-bq t y,<-e,List.length_map]
    have hf2:bC t+1<=300:=hf;refine⟨rfl,?_⟩;cases hg:iF t with|true=>obtain rfl:=h3 (hag.trans hg);refine⟨.agg ts,bf,by simp only[nC,g1 300 (by omega)],g3,fun rest=>⟨?_,rfl⟩⟩;have hok:AA (.agg ts)=true:=aQ.2 g6;simp only[Cd,hok,fI,if_true,cond_true,DA,rP,hg,dG,aJ,aY,R.agg.injEq];rw[<-e,iM];rfl|false=>obtain⟨c1,rfl,rfl⟩:=h4 (hag.trans hg);obtain⟨q,rd',p1,rfl⟩:=od (g1 301 (by simp));refine⟨.c q,bf,by simp only[nC,p1],g3,fun rest=>⟨?_,rfl⟩⟩;have hok:AA (.c q)=true:=g6 q (by simp);simp only[Cd,hok,fI,if_true,DA,rP,hg,cond_false,dG,aJ,aY,R.c.injEq];rw[<-e];rfl
   .simp at hc
  .simp at hc
 |os t=>
  cases v with
  |sb id ver lo u r=>
   simp only[Ht]at hc;split at hc
   .rename_i u0 s0 v0 ho;split at hc
    .rename_i s hs;obtain⟨rfl,rfl⟩:=ad (aa hc);obtain⟨e,rfl⟩:=bV hs;cases e;obtain rfl:=mb hx ha;obtain⟨q,bf,rd,q1,_,q3,q4,_⟩:=BS hr hk (bX.1 ha).2;obtain rfl:=q4 ⟨_,_,_,ho⟩;exact⟨rfl,.c (JE (bC t) (aN t) r),bf,by simp only[nC,q1],q3,fun rest=>⟨rfl,rfl⟩⟩
    .simp at hc
   .simp at hc
  |_=>exact main rfl hc
 |_=>exact main rfl hc
theorem Ak(hr:HR n h1 h):∀(cs:List Sh)(vs:List V)(l:List V)(i:List Nat)(xs:List TV),uX h cs vs=some (l,i)->jj h vs xs->(∀v∈vs,dC n h v/\ft h v=true)->cs.all (fun c=>fZ (li c) 300)=true->
  l.length=(fD cs).length/\∃rs0 bf,pK h1 xs=some (rs0,bf)/\bf.Sublist i/\nE (cs.map Cd) rs0=kT cs l:=by
 intro cs;induction cs with
 |nil=>intro vs l i xs hc hx _ _;cases vs with|cons=>simp[uX]at hc|nil=>obtain⟨rfl,rfl⟩:=ad (aa hc);rw[ir hx];exact⟨rfl,[],[],rfl,br _,rfl⟩
 |cons c cs ih=>
  intro vs l i xs hc hx hk hf;cases vs with
  |nil=>simp[uX]at hc
  |cons v vs=>
   simp only[uX]at hc;split at hc
   .rename_i l1 i1 l2 i2 h2 h3;obtain⟨rfl,rfl⟩:=ad (aa hc);obtain⟨y,ys,rfl,hy,hys⟩:=ei hx;simp only[ed,ae]at hf;obtain⟨e1,r0,bf,a1,a2,a3⟩:=EQ hr h2 hy (hk v (by simp)).1 (hk v (by simp)).2 hf.1;obtain⟨e2,rs0,own2,b1,b2,b3⟩:=ih vs l2 i2 ys h3 hys (fun w hw=>hk w (by simp[hw])) hf.2;refine⟨by simp[fD,e1,e2],r0::rs0,bf++own2,by simp only[pK,a1,b1],a2.append b2,?_⟩;obtain⟨c1,c2⟩:=a3 l2;simp only[aq,nE,kT,c2,b3];rw[<-c1]
   .simp at hc
theorem Aj(hr:HR n h1 h):∀(cs:List Sh)(g:V)(l:List V)(i:List Nat)(xs:List C),uW h cs (uK g)=some (l,i)->Ea h g xs->dC n h g->cs.all (fun c=>fZ (li c) 300&&!Cd c)=true->
  ∃bf,qs h1 xs (ii cs l) bf/\bf.Sublist i:=by
 intro cs;induction cs with
 |nil=>intro g l i xs hc hx _ _;cases g with|ni=>obtain⟨rfl,rfl⟩:=ad (aa hc);obtain rfl:=hx;exact⟨[],.nil,br _⟩|co a r=>simp[uK,uW]at hc|_=>exact hx.elim
 |cons c cs ih=>
  intro g l i xs hc hx hk hf;cases g with
  |ni=>simp[uK,uW]at hc
  |co a r=>
   simp only[uK,uW]at hc;split at hc
   .rename_i l1 i1 l2 i2 h2 h3;obtain⟨rfl,rfl⟩:=ad (aa hc);obtain⟨y,ys,rfl,hy,hys⟩:=hx;simp only[ed,ae,Bool.not_eq_true']at hf;obtain⟨own2,b1,b2⟩:=ih r l2 i2 ys h3 hys hk.2 (by simpa using hf.2);have zK:(bif ft h a then cL h c false a else none)=some (l1,i1)->∃bf,qs h1 (y::ys) (ii (c::cs) (l1++l2)) bf/\bf.Sublist (i1++i2):=by intro h2;obtain⟨ha,h2⟩:=aI h2;obtain⟨ts,bf,rd,g1,g2,g3,_⟩:=rf hr c false a l1 i1 [y] h2 (hy ha) hk.1;have hfu:li c<=300:=fY hf.1.1;obtain⟨t,rd',p1,rfl⟩:=od (g1 301 (by omega));refine⟨bf++own2,?_,g3.append b2⟩;simp only[ii,g2 l2,bt];exact .cons p1 b1
    cases c with|gn=>obtain⟨rfl,rfl⟩:=ad (aa (show some (([]:List V),([]:List Nat))=some (l1,i1)from h2));exact⟨own2,.qV b1,b2⟩|_=>exact zK h2
   .simp at hc
  |_=>exact hx.elim
end
theorem CZ(hg:je){s1:St}{s:S2}(hr:R2 s1 s){r:RV}{v:V}(h:Hs s r=some v):∃x,rn s1 r=some x/\dV s.heap v x/\dC s.next s.heap v/\ft s.heap v=true:=by
 cases r with
 |tmp t=>exact kr hg hr (o:=.tmp t) h
 |cell t g n=>
  simp only[Hs]at h;split at h
  .rename_i p hp;split at h
   .rename_i w l hl;obtain⟨hc,h⟩:=aI h;obtain rfl:=aa h;obtain⟨x,h1,h2,h3,h4⟩:=kr hg hr hp;obtain⟨y,h5,h6,h7⟩:=qN (nx:=0) (c:=mj) hr.hr hl hc h2 h3;refine⟨y,?_,h6,h7,(kD hc).2.2.2⟩;have h1:bM s1.cG t=some x:=h1;simp only[rn,h1];cases x with
    |c pc=>
     simp only[bN]at h5;split at h5
     .rename_i z ap hz;obtain⟨rfl,_⟩:=ad (aa h5);simp only[hz]
     .simp at h5
    |_=>simp[bN]at h5
   .simp at h
  .simp at h
theorem Dr(hg:je){s1:St}{s:S2}(hr:R2 s1 s):∀(gO:List RV)(vs:List V),H8 (Hs s) gO=some vs->∃xs,cT (gO.map (rn s1))=some xs/\jj s.heap vs xs/\∀v∈vs,dC s.next s.heap v/\ft s.heap v=true:=by
 intro gO;induction gO with
 |nil=>intro vs h;obtain rfl:=aa h;exact⟨[],rfl,trivial,fun v hv=>by simp at hv⟩
 |cons r gO ih=>
  intro vs h;simp only[H8]at h;split at h
  .rename_i x y hx hy;obtain rfl:=aa h;obtain⟨x1,a1,a2,a3⟩:=CZ hg hr hx;obtain⟨xs,b1,b2,b3⟩:=ih y hy;refine⟨x1::xs,by simp only[aq,cT,a1,b1],⟨a2,b2⟩,fun v hv=>?_⟩;rcases aD.1 hv with rfl|hv
   .exact a3
   .exact b3 v hv
  .simp at h
def LU(al:Wy):Bool:=al.all fun w=>w.1.all (fun c=>fZ (li c) 300)&&w.2.all (fun c=>fZ (li c) 300&&!Cd c)
theorem DD(hg:je){s1:St}{s:S2}(hr:R2 s1 s){gO:List RV}{rs os:List Sh}{l:List V}(h:DE gO rs os s=some l)(hf1:rs.all (fun c=>fZ (li c) 300)=true)(hf2:os.all (fun c=>fZ (li c) 300&&!Cd c)=true):
  ∃rs0,rg gO s1 rs0 (ii os (l.drop (fD rs).length))/\nE (rs.map Cd) rs0=kT rs (l.take (fD rs).length):=by
 unfold DE at h;split at h
 .rename_i vs hvs;split at h
  .rename_i l1 i m j h2 h3;obtain⟨hn,h⟩:=aI h;obtain rfl:=aa h;obtain⟨xs,a1,a2,a3⟩:=Dr hg hr gO vs hvs;obtain⟨e,rs0,bf,b1,b2,b3⟩:=Ak hr.hr rs vs l1 i xs h2 a2 a3 hf1;obtain⟨own2,c1,c2⟩:=Aj hr.hr os s.gh m j s1.gh h3 hr.gh.1 hr.gh.2 hf2;rw[<-e,List.take_left,List.drop_left];exact⟨rs0,⟨xs,bf,own2,a1,b1,c1,(b2.append c2).nodup (yv hn)⟩,b3⟩
  .simp at h
 .simp at h
section
variable{h1:bl}
theorem CA:∀(c:Sh)(l:List V)(w:V)(l':List V),xx c l=some (w,l')->mo w=some (mL c l).1/\l'=(mL c l).2:=by
 intro c;induction c with
 |ni=>intro l w l' h;obtain⟨rfl,rfl⟩:=ad (aa h);exact⟨rfl,rfl⟩
 |pr a c _ ih=>
  intro l w l' h;cases a with
  |pt t=>
   match l with
   |.x u v::l=>
    simp only[xx]at h;obtain⟨hc,hh⟩:=aI h;clear h;simp only[ae,decide_eq_true_eq]at hc;obtain⟨rfl,hd⟩:=hc;split at hh
    .rename_i w2 l2 hw;obtain⟨rfl,rfl⟩:=ad (aa hh);obtain⟨h2,h3⟩:=ih l w2 l2 hw;refine⟨?_,h3⟩;simp only[mo,hd,if_true,h2,mL]
    .simp at hh
   |[]|.kb _::_|.nl _::_|.so _::_|.sb _ _ _ _ _::_|.op _ _ _::_|.ep _ _ _ _::_|.pt _ _::_|.fn _ _ _::_|.om _::_|.rc _::_|.tp _::_|.ni::_|.co _ _::_|.fl _::_|.no::_|.gn::_=>simp[xx]at h
  |_=>simp[xx]at h
 |_=>intro l w l' h;simp[xx]at h
theorem DV:∀{w:V}{ds:List D},mo w=some ds->w_ w=true:=by
 intro w;induction w with
 |pt t v=>
  intro ds h;simp only[mo]at h;split at h
  .assumption
  .simp at h
 |ni=>intro ds _;rfl
 |co a r iha ihr=>
  intro ds h;simp only[mo]at h;split at h
  .rename_i x y hx hy;simp only[w_,iha hx,ihr hy,fI]
  .simp at h
 |_=>intro ds h;simp[mo]at h
theorem Jc{h:H2}{n:Nat}{i:Nat}{u:Ty}{v:El u}(hd:gT u=true)(hs:(rP (.x u)||sY (.x u))=true):∃x,dV h (.x u v) x/\dC n h (.x u v)/\
  ∀(r:List A)(k:Nat),enter ((bif rP (.x u)then A.agg (aN u v)else A.d ((aN u v).headD default))::r) i k=((i,x)::(enter r (i+1) k).1,(enter r (i+1) k).2.1,(enter r (i+1) k).2.2.1,(enter r (i+1) k).2.2.2):=by
 cases hg:iF u with
 |true=>refine⟨.agg ((aN u v).map .d),bI ⟨_,⟨hd,rfl⟩,fun _=>rfl,fun e=>(by rw[show oH (.x u v)=iF u from rfl,hg]at e;cases e)⟩,trivial,fun r k=>?_⟩;simp only[rP,hg,cond_true,enter]
 |false=>
  have h1:bC u=1:=by simpa[rP,hg,sY]using hs
  have hl:=bq u v;rw[h1]at hl
  match he:aN u v,hl with|[d],_=>refine⟨.c (.d d),bI ⟨[.d d],⟨hd,by rw[he];rfl⟩,fun e=>(by rw[show oH (.x u v)=iF u from rfl,hg]at e;cases e),fun _=>⟨_,rfl,rfl⟩⟩,trivial,fun r k=>?_⟩;simp only[rP,hg,cond_false,enter,bt]
theorem ru{α:Type}{a t:Nat}{x:α}{l:List (Nat×α)}(h:a≠t):bM ((a,x)::l) t=bM l t:=by simp only[bM];rw[show(a==t)=false by simpa using h,cond_false]
theorem lZ{α:Type}{a:Nat}{x:α}{l:List (Nat×α)}:bM ((a,x)::l) a=some x:=by simp[bM]
theorem DL:∀(ps:List (Bool×Sh))(i:Nat)(l:List V)(s:S2)(h1:bl)(e:List (Nat×V))(s':S2),oz ps i l s=some (e,s')->wa ps=true->HR s.next h1 s.heap->s.gh=.ni->
  HR s'.next ((enter (eV ps l) i s.next).2.1++h1) s'.heap/\gm s.next s.heap s'.heap/\s.next<=s'.next/\(∀p∈(enter (eV ps l) i s.next).2.1,s.next<=p.1/\p.1<s'.next)/\
  (∀t v,bM e t=some v->dC s'.next s'.heap v/\∃x,bM (enter (eV ps l) i s.next).1 t=some x/\dV s'.heap v x)/\
  s'.next=(enter (eV ps l) i s.next).2.2.1/\Ea s'.heap s'.gh (enter (eV ps l) i s.next).2.2.2/\dC s'.next s'.heap s'.gh:=by
 intro ps;induction ps with
 |nil=>
  intro i l s h1 e s' he _ hr hg;cases l with
  |cons=>simp[oz]at he
  |nil=>
   obtain⟨rfl,rfl⟩:=ad (aa he);simp only[eV,enter,aY];refine⟨hr,gm.refl _ _,ak _,fun p hp=>by simp at hp,fun t v h=>by simp[bM]at h,trivial,?_,?_⟩
   .rw [hg];rfl
   .rw [hg];trivial
 |cons p ps ih=>
  obtain⟨b,c⟩:=p;intro i l s h1 e s' he hp hr hg;simp only[wa,ae]at hp;obtain⟨hc,hps⟩:=hp
  -- data: one more temporary
  have data:∀(l2:List V)(w:V)(a:A)(x:TV),eV ((b,c)::ps) l=a::eV ps l2->(∀(r:List A)(k:Nat),enter (a::r) i k=((i,x)::(enter r (i+1) k).1,(enter r (i+1) k).2.1,(enter r (i+1) k).2.2.1,(enter r (i+1) k).2.2.2))->
    (∀h,dV h w x)->(∀n h,dC n h w)->(match oz ps (i+1) l2 s with|some (e,s)=>some ((i,w)::e,s)|none=>none)=some (e,s')->
    HR s'.next ((enter (eV ((b,c)::ps) l) i s.next).2.1++h1) s'.heap/\gm s.next s.heap s'.heap/\s.next<=s'.next/\(∀p∈(enter (eV ((b,c)::ps) l) i s.next).2.1,s.next<=p.1/\p.1<s'.next)/\
    (∀t v,bM e t=some v->dC s'.next s'.heap v/\∃x,bM (enter (eV ((b,c)::ps) l) i s.next).1 t=some x/\dV s'.heap v x)/\
    s'.next=(enter (eV ((b,c)::ps) l) i s.next).2.2.1/\Ea s'.heap s'.gh (enter (eV ((b,c)::ps) l) i s.next).2.2.2/\dC s'.next s'.heap s'.gh:=by
   intro l2 w a x ha hen hx hk he;split at he
   .rename_i e1 s1 h2;obtain⟨rfl,rfl⟩:=ad (aa he);obtain⟨a1,a2,a3,a4,a5,a6,a7,a8⟩:=ih (i+1) l2 s h1 e1 s1 h2 hps hr hg;rw[ha,hen];refine⟨a1,a2,a3,a4,fun t v h=>?_,a6,a7,a8⟩;by_cases et:i=t
    .subst et;rw[lZ]at h;obtain rfl:=aa h;exact⟨hk _ _,x,lZ,hx _⟩
    .rw [ru et]at h|-;exact a5 t v h
   .simp at he
  cases b with
  |true=>
   simp only[cond_true,ae]at hc;simp only[oz]at he;split at he
   .rename_i w l2 s1 hm;split at he
    .rename_i e1 s2 h2;obtain⟨rfl,rfl⟩:=ad (aa he);obtain⟨g1,g2,g3,g4,g5,_⟩:=qg c false l s w l2 s1 h1 hm hr;have hone:sY c=true:=by have:=hc.1;cases c<;>simp[qi]at this<;>rfl
     have hlen:=wN hm hone
     match ht:(dG c l).1,hlen with
     |[t0],_=>
      have hu:fy s.next [t0]=([(gY s.next t0).1],(gY s.next t0).2.1++[],(gY s.next t0).2.2):=rfl;rw[ht,hu]at g1 g3 g4;simp only[aW]at g1 g3 g4;obtain⟨k1,k2,k3,k4,k5,k6,_⟩:=g3;obtain⟨a1,a2,a3,a4,a5,a6,a7,a8⟩:=ih (i+1) l2 s1 ((gY s.next t0).2.1++h1) e1 s2 h2 hps k1 (k4.trans hg);have hen:enter (eV ((true,c)::ps) l) i s.next=((i,.c (gY s.next t0).1)::(enter (eV ps l2) (i+1) s1.next).1,(gY s.next t0).2.1++(enter (eV ps l2) (i+1) s1.next).2.1,(enter (eV ps l2) (i+1) s1.next).2.2.1,(gY s.next t0).1::(enter (eV ps l2) (i+1) s1.next).2.2.2):=by simp only[eV,ht,bt,<-g5,enter,<-g4]
      rw[hen];have hk:=eL a3 a2 g2;have hcel:=iJ a2 g2 g1;refine⟨a1.ext fun j=>qL (fun p hp q hq e=>?_) j,gm.trans k5 k2 a2,dg k5 a3,fun p hp=>?_,fun t v h=>?_,a6,⟨_,_,rfl,fun _=>hcel,a7⟩,⟨hk,a8⟩⟩
      .have:=(k6 p hp).2;have:=(a4 q hq).1;omega
      .rcases aj.1 hp with hp|hp
       .exact ⟨(k6 p hp).1,Nat.lt_of_lt_of_le (k6 p hp).2 a3⟩
       .exact ⟨dg k5 (a4 p hp).1,(a4 p hp).2⟩
      .by_cases et:i=t
       .subst et;rw[lZ]at h;obtain rfl:=aa h;refine⟨hk,_,lZ,?_⟩;have hag:oH w=false:=by have:=qg c false l s w l2 s1 h1 hm hr;rw[this.2.2.2.2.2 rfl];have:=hc.1;cases c<;>simp[qi]at this<;>rfl
        exact bI ⟨_,hcel,fun e=>(by rw[hag]at e;cases e),fun _=>⟨_,rfl,rfl⟩⟩
       .rw [ru et]at h|-;exact a5 t v h
    .simp at he
   .simp at he
  |false=>
   simp only[cond_false,ae]at hc;cases c with
   |x t=>
    match l,he with
    |.x u v::l,he=>
     simp only[oz]at he;obtain⟨hd,he2⟩:=aI he;simp only[ae,decide_eq_true_eq]at hd;obtain⟨rfl,hd⟩:=hd;obtain⟨x,_,_,h3⟩:=Jc (h:=[]) (n:=0) (i:=i) (v:=v) hd hc.1
     have hx:∀h,dV h (.x u v) x:=fun h=>by
      obtain⟨x',h1,_,h3'⟩:=Jc (h:=h) (n:=0) (i:=i) (v:=v) hd hc.1;have e1:=h3 [] 0;rw[h3' [] 0]at e1;have:x'=x:=by have:=(ad e1).1;exact(ad (List.cons.inj this).1).2
      rw[<-this];exact h1
     exact data l (.x u v) _ x rfl h3 hx (fun _ _=>trivial) he2
    |[],he|.kb _::_,he|.nl _::_,he|.so _::_,he|.sb _ _ _ _ _::_,he|.op _ _ _::_,he|.ep _ _ _ _::_,he|.pt _ _::_,he|.fn _ _ _::_,he|.om _::_,he|.rc _::_,he|.tp _::_,he|.ni::_,he|.co _ _::_,he|.fl _::_,he|.no::_,he|.gn::_,he=>simp[oz]at he
   |pt t=>match l,he with|.x u v::l,he=>simp only[oz]at he;obtain⟨hd,he2⟩:=aI he;simp only[ae,decide_eq_true_eq]at hd;obtain⟨rfl,hd⟩:=hd;refine data l (.pt u v) (.d (.pt (aN u v))) (.c (.d (.pt (aN u v)))) rfl (fun r k=>by simp only[enter]) (fun h=>bI (cP rfl ⟨hd,rfl⟩)) (fun _ _=>trivial) he2|[],he|.kb _::_,he|.nl _::_,he|.so _::_,he|.sb _ _ _ _ _::_,he|.op _ _ _::_,he|.ep _ _ _ _::_,he|.pt _ _::_,he|.fn _ _ _::_,he|.om _::_,he|.rc _::_,he|.tp _::_,he|.ni::_,he|.co _ _::_,he|.fl _::_,he|.no::_,he|.gn::_,he=>simp[oz]at he
   |nl k=>
    have he:(match oz ps (i+1) l s with|some (e,s)=>some ((i,V.nl k)::e,s)|none=>none)=some (e,s'):=by cases l<;>exact he
    refine data l (.nl k) (.d (I5 k)) (.c (.d (I5 k))) (by cases l<;>rfl) (fun r k=>by simp only[enter]) (fun h=>bI (cP rfl rfl)) (fun _ _=>trivial) he
   |fn f c2=>
    have he:(match xx c2 l with|some (w,l)=>(match oz ps (i+1) l s with|some (e,s)=>some ((i,V.fn true f w)::e,s)|none=>none)|none=>none)=some (e,s'):=by cases l<;>exact he
    split at he
    .rename_i w l2 hw;obtain⟨h2,rfl⟩:=CA c2 l w l2 hw;refine data _ (.fn true f w) (.d (.fn f (mL c2 l).1)) (.c (.d (.fn f (mL c2 l).1))) (by cases l<;>rfl) (fun r k=>by simp only[enter]) (fun h=>bI (cP rfl ⟨_,h2,rfl⟩)) (fun n h=>?_) he;exact(ue (h:=h) w (DV h2)).2 n
    .simp at he
   |_=>cases l<;>simp[oz]at he
theorem DK{ps:List (Bool×Sh)}{l:List V}{s:S2}(h:KD ps l=some s)(hp:wa ps=true):R2 (lc (eV ps l)) s:=by
 unfold KD at h;split at h
 .rename_i e s1 he;obtain rfl:=aa h;obtain⟨a1,a2,a3,a4,a5,a6,a7,a8⟩:=DL ps 0 l ⟨[],[],0,[],.ni⟩ [] e s1 he hp ⟨fun i o ho=>by simp[fO,bM]at ho⟩ rfl;rw[aW]at a1;exact⟨fun t v ht=>⟨(a5 t v ht).1,fun _=>(a5 t v ht).2⟩,a1,Nat.le_of_eq a6.symm,a7,a8⟩
 .simp at h
end
theorem DM:∀(ps:List (Bool×Sh))(l:List V),(eV ps l).length=ps.length:=by intro ps;induction ps with|nil=>intro l;rfl|cons p ps ih=>obtain⟨b,c⟩:=p;intro l;cases b<;>simp[eV,ih]
theorem Gq{P:Program}{dQ:xe}{nt:Nat}{an:List (Nat×An)}:∀(c:Code)(n:Nat)(s:St)(Q:nL->St->Prop),W P (jD (lG P dQ nt an c n).1) s Q->W P (lJ P dQ nt c) s Q:=by
 intro c;induction c with
 |skip=>intro n s Q h;exact h
 |exit id=>intro n s Q h;exact h
 |ret=>intro n s Q h;exact h
 |region o ops draw=>
  intro n s Q h;have hm:(ops.toList.map (J2 P dQ nt ops)).map (·.o)=ops.toList.map (eB P dQ nt ops):=by rw[iM];rfl
  cases draw with
  |false=>simp only[lG,aM,if_false,jD,hm]at h;simpa only[lJ,aM,if_false]using h
  |true=>
   simp only[lG,if_true]at h;simp only[lJ,if_true,q_];split at h
   .rename_i hc;simp only[jD,hm]at h;rw[if_pos (by simpa using hc)];exact h
   .exact h.elim
 |seq a b iha ihb=>intro n s Q h;simp only[lG,jD]at h;exact iha _ s _ (W.mono (pp.mono (fun s1 h1=>ihb _ s1 Q h1) fun _ _ h=>h) h)
 |cond x a b iha ihb=>intro n s Q h;simp only[lG,jD]at h;obtain⟨s1,h0,t,h1,h2,h3⟩:=h;exact⟨s1,h0,t,h1,fun ht=>iha _ s1 Q (h2 ht),fun ht=>ihb _ s1 Q (h3 ht)⟩
 |block id a ih=>intro n s Q h;simp only[lG,jD]at h;exact ih _ s _ h
 |loop a ih=>
  intro n s Q h;simp only[lG]at h;split at h
  .simp only[jD]at h;obtain⟨I,m,h1,h2⟩:=h;exact⟨I,m,h1,fun k s1 hI=>ih _ s1 _ (h2 k s1 hI)⟩
  .exact h.elim
 |scope a ih=>intro n s Q h;exact ih _ s Q h
 |label l=>intro n s Q h;exact h
 |_=>intro n s Q h;exact h.elim
theorem Ba{P:Program}{dQ:xe}{f np:Nat}{an:List (Nat×An)}{F:F2}(h:vB P dQ f np an=some F):∃G,tX P dQ f np=some G/\G.np=np/\G.gO=F.gO/\∀s Q,W P (jD F.body) s Q->W P G.body s Q:=by
 unfold vB at h;split at h
 .simp at h
 rename_i g hg;split at h
 .simp at h
 rename_i code hb;split at h
 case isFalse=>simp at h
 rename_i hc;split at h
 case h_2=>simp at h
 rename_i gO hrv;obtain rfl:=aa h;unfold tX;simp only[hg,hb,hrv];rw[if_pos (by simpa using hc)];exact⟨_,rfl,rfl,rfl,fun s Q hw=>Gq code 0 s Q hw⟩
theorem Jr{gO:List RV}:∀(al:Wy)(z:qr al),∃r o l,(r,o)∈al/\(∀s,In gO s al=some z->DE gO r o s=some l)/\∀Q:List Sh->List Sh->List V->Prop,Q r o l->G2 Q al z:=by
 have key:∀(w:Wy)(r o:List Sh)(z:qr.Bt r o w),∃r' o' l,(r',o')∈(r,o)::w/\(∀s,DF gO s r o w=some z->DE gO r' o' s=some l)/\∀Q:List Sh->List Sh->List V->Prop,Q r' o' l->G1 Q r o w z:=by
  intro w;induction w with
  |nil=>
   intro r o z;refine⟨r,o,kW (fD r++fD o) z,by simp,fun s hz=>?_,fun Q hQ=>hQ⟩;simp only[DF]at hz;split at hz
   .rename_i l hl;rw[lR _ _ _ hz];exact hl
   .simp at hz
  |cons p w ih=>
   obtain⟨r',o'⟩:=p;intro r o z;cases z with
   |inl y=>
    refine⟨r,o,kW (fD r++fD o) y,by simp,fun s hz=>?_,fun Q hQ=>hQ⟩;simp only[DF]at hz;split at hz
    .rename_i l hl;split at hz
     .rename_i y2 hy;have e:y2=y:=by have:=aa hz;cases this;rfl
      subst e;rw[lR _ _ _ hy];exact hl
     .simp at hz
    .split at hz
     .have:=aa hz;cases this
     .simp at hz
   |inr y=>
    obtain⟨r2,o2,l,h1,h2,h3⟩:=ih r' o' y;refine⟨r2,o2,l,av _ h1,fun s hz=>?_,fun Q hQ=>h3 Q hQ⟩;simp only[DF]at hz;split at hz
    .split at hz
     .have:=aa hz;cases this
     .simp at hz
    .split at hz
     .rename_i y2 hy;have e:y2=y:=by have:=aa hz;cases this;rfl
      subst e;exact h2 s hy
     .simp at hz
 intro al z;cases al with|nil=>exact nomatch z|cons p w=>exact key w p.1 p.2 z
theorem Gb{P:Program}(hm:P.follows .mixedOrders=true){dQ:xe}{f np:Nat}{an:List (Nat×An)}{F:F2}{tb:zF}(htb:lI P tb)(hg:je)(hF:vB P dQ f np an=some F){ps:List (Bool×Sh)}{al:Wy}(hnp:ps.length=np)(hps:wa ps=true)(hal:LU al=true)
  {p:mq (fD (ps.map (·.2)))} {z:qr al} (hz:LX tb (some F) ps al p=some z):
  G2 (fun rs os l=>rh P f (eV ps (kW (fD (ps.map (·.2))) p)) (kT rs (l.take (fD rs).length)) (ii os (l.drop (fD rs).length))) al z:=by
 obtain⟨G,hG,hGn,hGr,hGb⟩:=Ba hF;simp only[LX]at hz;split at hz
 case h_2=>simp at hz
 rename_i s hs;have hr:=DK hs hps
 -- the ways that the run may end in
 have hend:∀o s1',Lr (jJ F.body) (lc (eV ps (kW _ p))) s (fun o s=>match o with|.exit _=>none|_=>In F.gO s al) z o s1'->wk (fun s1''=>∃s',R2 s1'' s'/\s1''.gh.length=(lc (eV ps (kW _ p))).gh.length/\(∀i,o≠.exit i)/\In F.gO s' al=some z) s1':=by
  intro o s1' h;refine wk.mono h fun s1''⟨s',h1,⟨w,h2,h3⟩,h4⟩=>⟨s',h1,h3.gl,fun i e=>?_,?_⟩
  .subst e;simp at h4
  .cases o with|exit i=>simp at h4|_=>exact h4
 have hW:=W.mono hend (DG htb hg F.body _ s _ z hz hr);obtain⟨r,o,l,h1,h2,h3⟩:=Jr (gO:=F.gO) al z;refine h3 _ (Ik hm hG (m:=r.map Cd) ⟨?_,hGb _ _ (W.mono (fun out s1' h=>?_) hW)⟩)
 .rw [DM,hnp,hGn]
 .have hf:=aQ.1 hal (r,o) h1;simp only[ae]at hf;have fin:wk (fun s=>s.gh.length=(lc (eV ps (kW (fD (ps.map (·.2))) p))).gh.length/\∃rs0,rg G.gO s rs0 (ii o (l.drop (fD r).length))/\nE (r.map Cd) rs0=kT r (l.take (fD r).length)) s1':=by refine wk.mono h fun s1''⟨s',k1,k2,_,k4⟩=>⟨k2,?_⟩;rw[hGr];exact DD hg k1 (h2 s' k4) hf.1 hf.2
  cases out with|normal=>exact fin|ret=>exact fin|exit i=>obtain⟨_,_,_,_,_,k,_⟩:=h;exact absurd rfl (k i)
theorem fB{P:Program}(hm:P.follows .mixedOrders=true)(hg:je){dQ:xe}{f np:Nat}{an:List (Nat×An)}{tb:zF}(htb:lI P tb){sp:mQ}
  (h1:(G0 sp&&ji sp.ps.length np&&LU sp.al)=true) (h3:(fun p=>LX tb (vB P dQ f np an) sp.ps sp.al p)=sp.fn):dJ P f sp:=by
 simp only[ae]at h1;obtain⟨⟨h4,h5⟩,h6⟩:=h1;refine⟨h4,fun p z hz=>?_⟩;have hp:wa sp.ps=true:=by simp only[G0,ae]at h4;exact h4.1.1.2
 rw[<-h3]at hz;have hz:LX tb (vB P dQ f np an) sp.ps sp.al p=some z:=hz;cases hF:vB P dQ f np an with|none=>rw[hF]at hz;simp[LX]at hz|some F=>rw[hF]at hz;exact Gb hm htb hg hF (cC h5) hp h6 hz
theorem Kq(h:∀g,Kr g=none):je:=fun g v hg=>by rw[h g]at hg;simp at hg
open Go.ChangeShapes Go.WideShapes Go.ChangeAt Go.RowKit
def tM:(t:Ty)->El t->Prop
 |.i k,x=>k.min<=x/\x<=k.max
 |.s,s=>s.size<=maxLen
 |.f k,b=>(Lit.float k b).wf=true
 |.sl t,s=>s.l.length<=maxLen/\∀x∈s.l,tM t x
 |.pr a c,v=>tM a v.1/\tM c v.2
 |.st t,v=>tM t v
 |.ar _ t,v=>∀x∈v.1,tM t x
 |_,_=>True
def Dg(P:Program)(ok:TypeId->Bool)(sz:TypeId->Nat):List Field->Nat->Nat->Bool
 |[],off,Jz=>ji off Jz
 |f::r,off,Jz=>ok f.type&&ji f.offset off&&ji (P.cellsOf f.type) (sz f.type)&&Dg P ok sz r (off+sz f.type) Jz
def BY(P:Program):Nat->TypeId->Bool
 |0,_=>false
 |n+1,t=>match P.underlying t with|some (.int _)|some .bool|some .string|some (.float _)=>true|some (.slice e)=>BY P n e&&Nat.blt 0 (bC (dj P n e))&&ji (P.cellsOf e) (bC (dj P n e))|some (.struct fs)=>Dg P (BY P n) (fun t=>bC (dj P n t)) fs.toList 0 (P.cellsOf t)|some (.array m e)=>BY P n e&&ji (P.cellsOf e) (bC (dj P n e))&&ji (P.cellsOf t) (m*bC (dj P n e))|_=>false
theorem EZ{P:Program}:∀(n:Nat)(t:TypeId),BY P n t=true->mR P t (aN (dj P n t)) (tM (dj P n t)):=by
 intro n;induction n with
 |zero=>intro t h;simp[BY]at h
 |succ n ih=>
  intro t h;simp only[BY]at h;split at h
  .rename_i k hu;rw[show dj P (n+1) t=.i k by simp only[dj,hu]];exact C9 hu
  .rename_i hu;rw[show dj P (n+1) t=.b by simp only[dj,hu]];exact Aw hu
  .rename_i hu;rw[show dj P (n+1) t=.s by simp only[dj,hu]];exact wh hu
  .rename_i k hu;rw[show dj P (n+1) t=.f k by simp only[dj,hu]];exact yh hu
  .rename_i e hu;simp only[ae]at h;obtain⟨⟨h1,h2⟩,h3⟩:=h;rw[show dj P (n+1) t=.sl (dj P n e)by simp only[dj,hu]];exact yg (enc:=aN (dj P n e)) hu (cC h3) (by simpa[Nat.blt_eq]using h2) (fun a=>bq _ a) (ih e h1)
  .rename_i fs hu;rw[show dj P (n+1) t=.st (dj.L_ (fs.toList.map fun f=>dj P n f.type))by simp only[dj,hu]];intro H en w fuel cs x hx;have hl:=zV hu hx
   have key:∀(suf:List Field)(i off:Nat),(∀j,fs[i+j]?=suf[j]?)->Dg P (BY P n) (fun t=>bC (dj P n t)) suf off (P.cellsOf t)=true->
     ∃v:El (dj.L_ (suf.map fun f=>dj P n f.type)),tM _ v/\il w (cs.drop off) (aN _ v):=by
    intro suf;induction suf with
    |nil=>intro i off _ hok;have e:=cC hok;exact⟨(),trivial,il.nil (by rw[bR,hl,e];omega)⟩
    |cons f r ihr=>
     intro i off hi hok;simp only[Dg,ae]at hok;obtain⟨⟨⟨k1,k2⟩,k3⟩,k4⟩:=hok;have k2:=cC k2;have k3:=cC k3;have hf:fs[i]?=some f:=by have:=hi 0;simpa using this
     obtain⟨a,f1,c1⟩:=yi hu hx hf (ih f.type k1);rw[k2,k3]at c1;obtain⟨v,f2,c2⟩:=ihr (i+1) (off+bC (dj P n f.type)) (fun j=>by have:=hi (j+1);rw[show i+1+j=i+(j+1)by omega,this];rfl) k4
     have hle:off+bC (dj P n f.type)<=cs.length:=by
      have hmono:∀(suf:List Field)(off:Nat),Dg P (BY P n) (fun t=>bC (dj P n t)) suf off (P.cellsOf t)=true->off<=P.cellsOf t:=by intro suf;induction suf with|nil=>intro off h;exact Nat.le_of_eq (cC h)|cons g r ih=>intro off h;simp only[Dg,ae]at h;have:=ih _ h.2;omega
      rw[hl];exact hmono r _ k4
     have hfield:=il.field c1 rfl c2 hle;cases r with|nil=>have e:aN (dj.L_ (([]:List Field).map fun f=>dj P n f.type)) v=[]:=rfl;rw[e,aW]at hfield;exact⟨a,f1,hfield⟩|cons g r=>exact⟨(a,v),⟨f1,f2⟩,hfield⟩
   obtain⟨v,f1,c1⟩:=key fs.toList 0 0 (fun j=>by simp) h;exact⟨v,f1,by rw[bW]at c1;exact c1⟩
  .rename_i m e hu;simp only[ae]at h;obtain⟨⟨h1,h2⟩,h3⟩:=h;have h2:=cC h2;have h3:=cC h3;rw[show dj P (n+1) t=.ar m (dj P n e)by simp only[dj,hu]];intro H en w fuel cs x hx;have hl:=D5 hu hx
   have key:∀j,j<=m->∃l:List (El (dj P n e)),l.length=j/\(∀y∈l,tM _ y)/\il w (cs.drop ((m-j)*bC (dj P n e))) (l.flatMap (aN (dj P n e))):=by
    intro j;induction j with
    |zero=>intro _;exact⟨[],rfl,fun y hy=>by simp at hy,il.nil (by rw[bR,hl,h3];simp)⟩
    |succ j ihj=>
     intro hj;obtain⟨l,l1,l2,l3⟩:=ihj (by omega);obtain⟨a,f1,c1⟩:=Av hu hx (i:=m-(j+1)) (by omega) (ih e h1);rw[h2]at c1;have hs:(m-(j+1))*bC (dj P n e)+bC (dj P n e)=(m-j)*bC (dj P n e):=by rw[show m-j=(m-(j+1))+1 by omega,Nat.succ_mul]
     refine⟨a::l,by simp[l1],fun y hy=>?_,?_⟩
     .rcases aD.1 hy with rfl|hy
      .exact f1
      .exact l2 y hy
     .rw [List.flatMap_cons];refine il.field c1 hs l3 ?_;rw[hl,h3];exact Nat.mul_le_mul_right _ (by omega)
   obtain⟨l,l1,l2,l3⟩:=key m (ak _);rw[Nat.sub_self,Nat.zero_mul,bW]at l3;exact⟨⟨l,l1⟩,l2,l3⟩
  .simp at h
def D8:List Ty->List V->Prop
 |[],l=>l=[]
 |a::r,l=>∃(v:El a)(m:List V),l=.x a v::m/\tM a v/\D8 r m
theorem Cp{a:Ty}(v:El a):po a (.x a v)=some v:=by simp[po,ew]
theorem D8.eU:∀{cs:List Ty}{l:List V},D8 cs l->∃p,qB cs l=some p/\kW cs p=l:=by
 have key:∀(r:List Ty)(a:Ty)(l:List V),D8 (a::r) l->∃p,zS a r l=some p:=by intro r;induction r with|nil=>rintro a l ⟨v,m,rfl,_,hm⟩;have hm:m=[]:=hm;subst hm;exact⟨v,Cp v⟩|cons c r ih=>rintro a l ⟨v,m,rfl,_,hm⟩;obtain⟨p,hp⟩:=ih c m hm;refine⟨(v,p),?_⟩;show CF (po a (.x a v)) (zS c r m)=_;rw[Cp,hp];rfl
 intro cs l h;cases cs with|nil=>have h:l=[]:=h;subst h;exact⟨(),rfl,rfl⟩|cons a r=>obtain⟨p,hp⟩:=key r a l h;exact⟨p,hp,lR (a::r) l p hp⟩
theorem K7{P:Program}{n:Nat}{t:TypeId}(ho:BY P n t=true)(h1:(iF (dj P n t)||ji (bC (dj P n t)) 1)=true){w:World}{r:Reach}{b:Nat}{v:Value}(hv:Value.okWide P w r b t v)
  {H:Type} {en:TypeId×Value->H} {x:DataW H} {ps:List MemPlace} (h:DataW.Trod en P w 0 (fun _=>true) true t v x ps):∃a:El (dj P n t),tM _ a/\RA (S0 w) w (bif iF (dj P n t)then .agg (aN _ a)else .d ((aN _ a).headD default)) v []:=by
 have hop:=EZ n t ho;cases hag:iF (dj P n t)with
 |true=>
  simp only[cond_true];cases n with
  |zero=>simp[BY]at ho
  |succ n=>
   simp only[BY]at ho;split at ho
   .rename_i hu;simp[dj,hu,iF]at hag
   .rename_i hu;simp[dj,hu,iF]at hag
   .rename_i hu;simp[dj,hu,iF]at hag
   .rename_i hu;simp[dj,hu,iF]at hag
   .rename_i hu;simp[dj,hu,iF]at hag
   .rename_i fs hu;exact IP hop hv hu h
   .rename_i m e hu;exact IN hop hv hu h
   .simp at ho
 |false=>
  simp only[cond_false];have hsz:bC (dj P n t)=1:=by rw[hag,Bool.false_or]at h1;exact cC h1
  have he:(fun a=>[(aN (dj P n t) a).headD default])=aN (dj P n t):=by
   funext a;have hl:=bq (dj P n t) a;rw[hsz]at hl
   match hh:aN (dj P n t) a,hl with|[d],_=>rfl
  have hs:match P.underlying t with|some (.struct _)|some (.array _ _)|some (.interface _)|some (.func ..)|some (.chan ..)|some .unsafePointer|some (.map _ _)=>False|_=>True:=by
   cases n with
   |zero=>simp[BY]at ho
   |succ n=>
    simp only[BY]at ho;split at ho
    .rename_i hu;rw[hu];trivial
    .rename_i hu;rw[hu];trivial
    .rename_i hu;rw[hu];trivial
    .rename_i hu;rw[hu];trivial
    .rename_i hu;rw[hu];trivial
    .rename_i fs hu;simp[dj,hu,iF]at hag
    .rename_i m e hu;simp[dj,hu,iF]at hag
    .simp at ho
  exact Md (d:=fun a=>(aN (dj P n t) a).headD default) (fit:=tM (dj P n t)) (by rw[he];exact hop) hv hs h
def Mi(P:Program)(ts:List TypeId):Bool:=ts.all fun t=>BY P DN t&&(iF (dj P DN t)||ji (bC (dj P DN t)) 1)
theorem IM{P:Program}{W:World}{aL:Nat}{H:Type}{en:TypeId×Value->H}:∀(ts:List TypeId)(vs:List Value)(ds:List (DataW H))(ps:List MemPlace),DataW.TrodAll en P W 0 (fun _=>true) true ts vs ds ps->Mi P ts=true->
  (∀(j:Nat)t v,ts[j]?=some t->vs[j]?=some v->Value.okWide P W .any aL t v)->∃l,D8 (ts.map (dj P DN)) l/\Ec (S0 W) W (eV (ts.map fun t=>(false,Sh.x (dj P DN t))) l) vs []:=by
 intro ts;induction ts with
 |nil=>intro vs ds ps h _ _;cases vs with|nil=>exact⟨[],rfl,rfl⟩|cons=>cases ds<;>exact h.elim
 |cons t ts ih=>
  intro vs ds ps h hok hv;cases vs with
  |nil=>cases ds<;>exact h.elim
  |cons v vs=>cases ds with|nil=>exact h.elim|cons d ds=>obtain⟨p,q,h1,h2,rfl⟩:=h;simp only[Mi,ed,ae]at hok;obtain⟨a,f1,r1⟩:=K7 hok.1.1 (by simpa using hok.1.2) (hv 0 t v rfl rfl) h1;obtain⟨l,f2,r2⟩:=ih vs ds q h2 (by simpa[Mi]using hok.2) fun j t' v' ht hv'=>hv (j+1) t' v' (by simpa using ht) (by simpa using hv');exact⟨.x _ a::l,⟨a,l,rfl,f1,f2⟩,[],[],rfl,r1,r2⟩
theorem KS:∀(tys:List Ty),fD ((tys.map fun t=>(false,Sh.x t)).map (·.2))=tys:=by intro tys;induction tys with|nil=>rfl|cons a r ih=>show a::fD ((r.map fun t=>(false,Sh.x t)).map (·.2))=a::r;rw[ih]
theorem DR{P:Program}{f:FuncId}{fn:Func}{s:ChangeSpec}{jc eJ handsOn again:Bool}{tb:TypeId}{H:Type}{en:TypeId×Value->H}(hl:laidOutB P=true)(hfn:P.funcs[f]?=some fn)(hbody:fn.body.isSome=true)(hname:(fn.name== "runtime.NumGoroutine")=false)
  (hts:fn.params.toList.all (fun t=>P.readableRec t&&decide (t<P.types.size))=true) (hrt:fn.resultTypes= #[tb]) (htb:P.underlying tb=some .bool) (hvars:s.vars=[])
  {W:World} {args:Array Value} {ds gs:List (DataW H)} {dw:List MemPlace} (hW:DataW.Whole en P fn.params.toList s.vars jc W args.toList ds gs dw)
  (hspec:(s.fn H (ds++gs)).results=[.lit (.bool true)]/\(s.fn H (ds++gs)).args=ds/\(s.fn H (ds++gs)).vars=[])
  (hgl:ph (S0 W) W) {aL:Nat} (hval:∀(j:Nat)t v,fn.params[j]?=some t->args[j]?=some v->Value.okWide P W .any aL t v)
  {tys:List Ty} (hty:fn.params.toList.map (dj P DN)=tys) (hok:Mi P fn.params.toList=true) {ro:Bool} {gJ:List Bool} {g:mq (fD ((tys.map fun t=>(false,Sh.x t)).map (·.2)))->Option (qr [([.x .b],[])])}
  (hsp:dJ P f ⟨tys.map fun t=>(false,Sh.x t),[([.x .b],[])],ro,gJ,g⟩) (law:∀p,D8 (fD ((tys.map fun t=>(false,Sh.x t)).map (·.2))) (kW _ p)->g p=some true):
  Calls P f args W fun e W'=>∃v,e=.returned v/\s.post en P fn jc eJ handsOn again W args v W':=by
 have hW':=hW;obtain⟨p,q,hA0,hV,hpq,hfz,hnd⟩:=hW;have hA:DataW.TrodAll en P W 0 (fun _=>true) true fn.params.toList args.toList ds p:=hA0;obtain⟨l,h1,h2⟩:=IM (aL:=aL) _ _ _ _ hA hok fun j t v ht hv=>hval j t v (by simpa using ht) (by simpa using hv);have h3:fn.params.toList.map (fun t=>(false,Sh.x (dj P DN t)))=tys.map fun t=>(false,Sh.x t):=by rw[<-hty,iM];rfl
 rw[h3]at h2;rw[hty,<-KS tys]at h1;obtain⟨pl,hp,hu⟩:=h1.eU;have hg:=hsp.2 pl true (law pl (by rw[hu];exact h1));rw[<-hu]at h2;exact Gp hl hfn hbody hname hts hrt htb hvars hW' hspec hgl ⟨_,h2,hg⟩
end Go.Ev
