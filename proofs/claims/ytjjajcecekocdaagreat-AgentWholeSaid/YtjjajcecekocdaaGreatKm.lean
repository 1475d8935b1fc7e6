/- Code: what is evaluated is what the abstract machine does. Conditions: as stated. -/
import Derived.Test.YtjjajcecekocdaaGreatKh
import Derived.Test.YtjjajcecekocdaaGreatEvY
open Bool renaming and_eq_true->ak,and_eq_true_iff->dm,and_self->gI,false_eq_true->aH
open Int renaming le_refl->jR
open List renaming all_cons->gp,all_eq_true->a_,append_nil->bv,cons_append->aU,drop_eq_nil_of_le->fW,drop_zero->cL,headD_cons->bZ,length_append->bi,length_drop->fr,map_cons->aq,map_map->mh,map_nil->aW,mem_append->ao,mem_append_left->aI,mem_append_right->aG,mem_cons->aN,mem_cons_of_mem->aF,mem_singleton->au,nil_append->bE,nil_sublist->jk,replicate->aA,take_append_of_le_length->iz,take_of_length_le->bX,take_take->lM
open List.Sublist renaming refl->bY
open Nat renaming beq->mP,ble->g_,eq_of_beq_eq_true->dQ,le_of_ble_eq_true->gj,le_refl->am,le_trans->e_,mul_le_mul_right->aL,zero_add->bG,zero_mul->ir
open Option renaming getD_none->jh,getD_some->bF
open Option.some renaming inj->aa
open Prod.mk renaming inj->af
namespace Go.Ev
theorem CG(j:J)(s0 s:S2):xX j s0 s=Bw j s0 (AH j.vs s):=rfl
theorem CF{j:J}{s1':St}{s0 s':S2}{l:List V}(hr:R2 s1' s')(hc:xX j s0 s'=some l):∀i∈s'.wo,s0.next<=i\/i∈j.kl:=by
 obtain⟨s1c,_,_,wc,hwc,_⟩:=Bq j.vs s1' s' hr;rw[CG]at hc;unfold Bw at hc;split at hc
 case h_2=>simp at hc
 split at hc
 case h_2=>simp at hc
 split at hc
 case h_2=>simp at hc
 obtain⟨hchk,_⟩:=aO hc;simp only[ak,a_]at hchk;intro i hi;have:=hchk.1 i (by rw[hwc];simp[hi]);simpa[Nat.ble_eq]using this
theorem ub{j:J}{ds w:List Nat}{s1 s1':St}{s0 s' s'':S2}{l:List V}(hr0:R2 s1 s0)(hr:R2 s1' s')(hf:xP ds w s1 s1' s0 s')(hw:∀i∈w,s0.next<=i\/i∈j.kl)(hc:xX j s0 s'=some l)(hs:vp j ds s0 l=some s''):
  ∃s1'' w',Sub s1' s1''/\R2 s1'' s''/\s''.wo=w'++s0.wo/\xP ds w' s1 s1'' s0 s''/\∀i∈w',s0.next<=i\/i∈j.kl:=by
 obtain⟨s1c,hsub,hrc,wc,hwc,hfc⟩:=Bq j.vs s1' s' hr;have hc2:=hc;rw[CG]at hc2
 have hwcc:∀i∈wc,s0.next<=i\/i∈j.kl:=by
  unfold Bw at hc2;split at hc2
  case h_2=>simp at hc2
  split at hc2
  case h_2=>simp at hc2
  split at hc2
  case h_2=>simp at hc2
  obtain⟨hchk,_⟩:=aO hc2;simp only[ak,a_]at hchk;intro i hi;have:=hchk.1 i (by rw[hwc];simp[hi]);simpa[Nat.ble_eq]using this
 obtain⟨s1'',w',h1,h2,h3,h4,h5⟩:=SI (w:=wc++w) hr0 hrc (hf.trans (hfc.mono (fun t ht=>by simp at ht) fun i hi=>hi)) (fun i hi=>by
  rcases ao.1 hi with hi|hi
  .exact hwcc i hi
  .exact hw i hi) (by rw[<-CG];exact hc) hs
 exact⟨s1'',w',hsub.trans h1,h2,h3,h4,h5⟩
theorem HQ{β:Type}{s0 s':S2}{o:qX}{ds:List Nat}{k:qX->S2->Option β}{z:β}:∀(e:Ex)(x:E7 e),Jl s0 o s' e=some x->K6 ds s0 k e x=some z->∃j∈e,∃l s'',xX j.2 s0 s'=some l/\vp j.2 ds s0 l=some s''/\k o s''=some z:=by
 have fin:∀(j:J)(p:rp (ql j))(l:List V),wI (ql j) l=some p->(match vp j ds s0 (iB (ql j) p)with|some s=>k o s|none=>none)=some z->∃s'',vp j ds s0 l=some s''/\k o s''=some z:=by
  intro j p l h1 h2;rw[qt _ _ _ h1]at h2;split at h2
  .rename_i s'' hs;exact⟨s'',hs,h2⟩
  .simp at h2
 have key:∀(r:Ex)(o1:qX)(j:J)(x:E7.Nm j r),L3 s0 o s' o1 j r=some x->Ra ds s0 k o1 j r x=some z->∃j'∈(o1,j)::r,∃l s'',xX j'.2 s0 s'=some l/\vp j'.2 ds s0 l=some s''/\k o s''=some z:=by
  intro r;induction r with
  |nil=>
   intro o1 j x hx hz;simp only[L3]at hx;obtain⟨ho,hx2⟩:=aO hx;clear hx;obtain rfl:o=o1:=by simpa using ho
   split at hx2
   .rename_i l hl;obtain⟨s'',h1,h2⟩:=fin j x l hx2 hz;exact⟨(o,j),by simp,l,s'',hl,h1,h2⟩
   .simp at hx2
  |cons q r ih=>
   obtain⟨o2,j2⟩:=q;intro o1 j x hx hz;simp only[L3]at hx;cases hd:decide (o=o1)with
   |true=>
    rw[hd,cond_true]at hx;obtain rfl:o=o1:=by simpa using hd
    split at hx
    .rename_i l hl;split at hx
     .rename_i p hp;obtain rfl:=aa hx;obtain⟨s'',h1,h2⟩:=fin j p l hp hz;exact⟨(o,j),by simp,l,s'',hl,h1,h2⟩
     .simp at hx
    .simp at hx
   |false=>
    rw[hd,cond_false]at hx;split at hx
    .rename_i y hy;obtain rfl:=aa hx;obtain⟨j',h1,h2⟩:=ih o2 j2 y hy hz;exact⟨j',aF _ h1,h2⟩
    .simp at hx
 intro e x hx hz;cases e with|nil=>exact nomatch x|cons q r=>exact key r q.1 q.2 x hx hz
def Tl{β:Type}(ds:List Nat)(s1:St)(s:S2)(k:qX->S2->Option β)(z:β)(o:qX)(s1':St):Prop:=wk (fun s1''=>∃s',R2 s1'' s'/\Fr ds s1 s1'' s s'/\k o s'=some z) s1'
theorem Jy{P:Program}{tb:E6}(htb:qj P tb)(hg:mJ):∀(c:C2){β:Type}(s1:St)(s:S2)(k:qX->S2->Option β)(z:β),xW tb c s k=some z->R2 s1 s->W P (erase c) s1 (Tl (nv c) s1 s k z):=by
 intro c;induction c with
 |skip=>intro β s1 s k z hz hr;exact wk.of (wk.of ⟨s,hr,Fr.refl,hz⟩)
 |exit id=>intro β s1 s k z hz hr;exact wk.of (wk.of ⟨s,hr,Fr.refl,hz⟩)
 |ret=>intro β s1 s k z hz hr;exact wk.of (wk.of ⟨s,hr,Fr.refl,hz⟩)
 |gk=>intro β s1 s k z hz hr;simp[xW]at hz
 |Oe ops dr jn=>
  intro β s1 s k z hz hr;cases jn with
  |none=>refine W.mono (fun o s1' h=>?_) (Dy (jn:=none) htb hg (show HZ tb ops dr s (fun s=>k .normal s)=some z by simpa only[xW]using hz) hr);obtain⟨rfl,s',h1,h2,h3⟩:=h;exact wk.of ⟨s',h1,h2,h3⟩
  |some j=>
   simp only[xW]at hz;obtain⟨p,hp,hz⟩:=qn hz;refine W.mono (fun o s1' h=>?_) (Dy (jn:=some j) htb hg hp (hr.wo []));obtain⟨rfl,s',h1,⟨w,h2,h3⟩,h4⟩:=h;split at h4
   .rename_i l hl;rw[qt _ _ _ h4]at hz;split at hz
    .rename_i s'' hs;have hf:xP (ops.filterMap (·.o.dst)) w s1 s1' s s':=⟨h3.le,h3.eU,h3.gl,h3.ob,h3.dE⟩
     obtain⟨s1'',w',g1,g2,g3,g4,_⟩:=ub hr h1 hf (fun i hi=>CF h1 hl i (by rw[h2];simp[hi])) hl hs;exact⟨s1'',g1,s'',g2,⟨w',g3,g4⟩,hz⟩
    .simp at hz
   .simp at h4
 |seq a b e iha ihb=>
  intro β s1 s k z hz hr;have go:∀(o:qX)(s1' s1'':St)(s':S2),Sub s1' s1''->R2 s1'' s'->Fr (nv a) s1 s1'' s s'->(match o with|.normal=>xW tb b s' k|o=>k o s')=some z->u7 (fun s'=>W P (erase b) s' (Tl (nv (.seq a b e)) s1 s k z)) (Tl (nv (.seq a b e)) s1 s k z) o s1':=by intro o s1' s1'' s' hsub h1 h2 h3;have hda:∀t∈nv a,t∈nv (.seq a b e):=fun t ht=>aI _ ht;have hdb:∀t∈nv b,t∈nv (.seq a b e):=fun t ht=>aG _ ht;cases o with|normal=>refine W.sub hsub (W.mono (fun o s2 h=>?_) (ihb s1'' s' k z h3 h1));exact wk.mono h fun _⟨s3,g1,g2,g3⟩=>⟨s3,g1,(h2.mono hda).trans (g2.mono hdb),g3⟩|exit id=>exact⟨s1'',hsub,s',h1,h2.mono hda,h3⟩|ret=>exact⟨s1'',hsub,s',h1,h2.mono hda,h3⟩
  cases e with
  |nil=>simp only[xW]at hz;refine fE (W.mono (fun o s1' h=>?_) (iha s1 s _ z hz hr));obtain⟨s1'',hsub,s',h1,h2,h3⟩:=h;exact go o s1' s1'' s' hsub h1 h2 h3
  |cons q r=>
   simp only[xW]at hz;obtain⟨x,hx,hz⟩:=qn hz;refine fE (W.mono (fun o s1' h=>?_) (iha s1 {s with wo:=[]} _ x hx (hr.wo [])));obtain⟨s1'',hsub,s',h1,⟨w,h2,h3⟩,h4⟩:=h;obtain⟨j,_,l,s'',g1,g2,g3⟩:=HQ (q::r) x h4 hz;have hf:xP (nv a) w s1 s1'' s s':=⟨h3.le,h3.eU,h3.gl,h3.ob,h3.dE⟩
   obtain⟨s2,w',k1,k2,k3,k4,_⟩:=ub hr h1 hf (fun i hi=>CF h1 g1 i (by rw[h2];simp[hi])) g1 g2;exact go o s1' s2 s'' (hsub.trans k1) k2 ⟨w',k3,k4⟩ g3
 |cond c a b iha ihb=>
  intro β s1 s k z hz hr;have hda:∀t∈nv a,t∈nv (.cond c a b):=fun t ht=>aI _ ht;have hdb:∀t∈nv b,t∈nv (.cond c a b):=fun t ht=>aG _ ht
  have go:∀t,ke s1.dE c=some (tB t)->(bif t then xW tb a s k else xW tb b s k)=some z->W P (erase (.cond c a b)) s1 (Tl (nv (.cond c a b)) s1 s k z):=by
   intro t hc hz;refine yz (t:=t) hc (fun ht=>?_) fun ht=>?_
   .subst ht;exact W.mono (fun o s2 h=>wk.mono h fun _⟨s3,g1,g2,g3⟩=>⟨s3,g1,g2.mono hda,g3⟩) (iha s1 s k z hz hr)
   .subst ht;exact W.mono (fun o s2 h=>wk.mono h fun _⟨s3,g1,g2,g3⟩=>⟨s3,g1,g2.mono hdb,g3⟩) (ihb s1 s k z hz hr)
  simp only[xW]at hz;split at hz
  .rename_i t ht;obtain⟨x,h1,h2,_⟩:=oQ hg hr ht;rw[wG h2]at h1;exact go t h1 hz
  .rename_i t ht;obtain⟨x,h1,h2,_⟩:=oQ hg hr ht;rw[G7 h2]at h1;exact go t h1 hz
  .simp at hz
 |block id a ih=>
  intro β s1 s k z hz hr;simp only[xW]at hz;refine NE (W.mono (fun o s1' h=>?_) (ih s1 s _ z hz hr));cases o with
  |normal=>exact h
  |ret=>exact h
  |exit i=>
   simp only[wx];obtain⟨s1'',hsub,s',h1,h2,h3⟩:=h;by_cases e:i=id
   .subst e;rw[if_pos rfl];simp only[beq_self_eq_true,cond_true]at h3;exact⟨s1'',hsub,s',h1,h2,h3⟩
   .rw [if_neg e];have e':(i==id)=false:=by simpa using e
    simp only[e',cond_false]at h3;exact⟨s1'',hsub,s',h1,h2,h3⟩
 |loop j e a ih=>
  intro β s1 s k z hz hr;simp only[xW]at hz;obtain⟨hkl,hz⟩:=aO hz;have hkl:∀x∈e,∀i∈j.kl,i∈x.2.kl:=fun x hx i hi=>by have:=a_.1 (a_.1 hkl x hx) i hi;simpa using this
  split at hz
  case h_2=>simp at hz
  rename_i l hl;split at hz
  case h_2=>simp at hz
  rename_i p0 hp0;obtain⟨x,hx,hz⟩:=qn hz;obtain⟨n,hn⟩:=lW.1 hx;clear hx
  generalize hf:(fun(p:rp (ql j))=>(match vp j (nv a) s (iB (ql j) p)with
     |some s1=>xW tb a {s1 with wo:=[]} fun o s'=>(match o with
      |.normal=>(match xX j s s' with|some l=>(match wI (ql j) l with|some q=>some (Sum.inl q)|none=>none)|none=>none)
      |o=>(match Jl s o s' e with|some x=>some (Sum.inr x)|none=>none))
     |none=>none:Option (rp (ql j)⊕E7 e)))=f at hn
  have hrs:∀n p,jW f n p=some x->∃s2,vp j (nv a) s (iB (ql j) p)=some s2:=by
   intro n p h;cases n with
   |zero=>simp[jW]at h
   |succ n=>
    cases hq:vp j (nv a) s (iB (ql j) p)with
    |some s2=>exact⟨s2,rfl⟩
    |none=>
     have:f p=none:=by rw[<-hf];simp only[hq]
     simp[jW,this]at h
  refine⟨fun n t=>∃p s2 w,jW f n p=some x/\vp j (nv a) s (iB (ql j) p)=some s2/\R2 t s2/\xP (nv a) w s1 t s s2/\∀i∈w,s.next<=i\/i∈j.kl,n,?_,?_⟩
  .obtain ⟨s2,hs2⟩:=hrs n p0 hn;have hs3:=hs2;rw[qt _ _ _ hp0]at hs3;obtain⟨s1'',w',g1,g2,_,g4,g5⟩:=ub (w:=[]) hr (hr.wo []) ⟨am _,jO.refl _ _,rfl,fun _ _ _=>⟨rfl,fun _ _ _ h=>h⟩,fun _ _ _ h _=>h⟩ (fun i hi=>by simp at hi) hl hs3;exact⟨s1'',g1,p0,s2,w',hn,hs2,g2,g4,g5⟩
  .rintro n t ⟨p,s2,w,h1,h2,h3,h4,h5⟩;cases n with
   |zero=>simp[jW]at h1
   |succ n=>
    have hfp:f p=xW tb a {s2 with wo:=[]} fun o s'=>(match o with
      |.normal=>(match xX j s s' with|some l=>(match wI (ql j) l with|some q=>some (Sum.inl q)|none=>none)|none=>none)
      |o=>(match Jl s o s' e with|some x=>some (Sum.inr x)|none=>none)):=by
     rw[<-hf];simp only[h2]
    have hend:∀(o:qX)(t' t'':St)(s':S2)(y:E7 e),o≠.normal->Sub t' t''->R2 t'' s'->Fr (nv a) t t'' {s2 with wo:=[]} s'->Jl s o s' e=some y->y=x->Tl (nv a) s1 s k z o t':=by
     rintro o t' t'' s' y _ hsub r1 ⟨wb,e1,e2⟩ hy rfl;obtain⟨j',hj',l',s'',g1,g2,g3⟩:=HQ e y hy hz;have hfw:xP (nv a) (wb++w) s1 t'' s s':=h4.trans ⟨e2.le,e2.eU,e2.gl,e2.ob,e2.dE⟩
     obtain⟨s3,w',k1,k2,k3,k4,_⟩:=ub hr r1 hfw (fun i hi=>by
      rcases ao.1 hi with hi|hi
      .exact CF r1 g1 i (by rw[e1];simp[hi])
      .exact (h5 i hi).imp id (hkl j' hj' i)) g1 g2
     exact⟨s3,hsub.trans k1,s'',k2,⟨w',k3,k4⟩,g3⟩
    simp only[jW]at h1;cases hr1:f p with
    |none=>simp[hr1]at h1
    |some r=>
     rw[hr1]at h1;rw[hfp]at hr1;refine W.mono (fun o t' hq=>?_) (ih t _ _ r hr1 (h3.wo []));obtain⟨t'',hsub,s',r1,r2,r3⟩:=hq;cases o with
     |normal=>
      simp only at r3;split at r3
      .rename_i l2 hl2;split at r3
       .rename_i q hq;obtain rfl:=aa r3;simp only at h1;obtain⟨wb,e1,e2⟩:=r2;obtain⟨s3,hs3⟩:=hrs n q h1;have hs4:=hs3;rw[qt _ _ _ hq]at hs4;have hfw:xP (nv a) (wb++w) s1 t'' s s':=h4.trans ⟨e2.le,e2.eU,e2.gl,e2.ob,e2.dE⟩
        obtain⟨t3,w',k1,k2,_,k4,k5⟩:=ub hr r1 hfw (fun i hi=>by
         rcases ao.1 hi with hi|hi
         .exact CF r1 hl2 i (by rw[e1];simp[hi])
         .exact h5 i hi) hl2 hs4
        exact⟨n,Nat.lt_succ_self n,t3,hsub.trans k1,q,s3,w',h1,hs3,k2,k4,k5⟩
       .simp at r3
      .simp at r3
     |exit id=>
      simp only at r3;split at r3
      .rename_i y hy;obtain rfl:=aa r3;exact hend (.exit id) t' t'' s' y (by simp) hsub r1 r2 hy (aa h1)
      .simp at r3
     |ret=>
      simp only at r3;split at r3
      .rename_i y hy;obtain rfl:=aa r3;exact hend .ret t' t'' s' y (by simp) hsub r1 r2 hy (aa h1)
      .simp at r3
section
variable{h:H2}{n:Nat}{h1:bC}
theorem DG{id sz lo len:Nat}{rows:List (List D)}(ho:aw h1 id=some (.aK sz rows)\/aw h1 id=some (.p_ sz rows))(hl:lo+len<=rows.length)(szo:Nat):
  ∃t bD rd,(∀k,dU h1 k (.cE szo id lo len)=some (t,bD,rd))/\xU t=.sl szo ((rows.drop lo).take len)/\bD.Sublist [id]/\(aw h1 id=some (.aK sz rows)->t=.sl szo ((rows.drop lo).take len))/\xH t=true:=by
 by_cases ha:aw h1 id=some (.aK sz rows)
 .exact ⟨.sl szo ((rows.drop lo).take len),[id],[id],fun k=>by cases k<;>simp only[dU,ha,if_pos hl],rfl,bY _,fun _=>rfl,rfl⟩
 .have hi:=ho.resolve_left ha;exact⟨.d (.sl szo ((rows.drop lo).take len)),[],[id],fun k=>by cases k<;>simp only[dU,hi,if_pos hl],rfl,jk _,fun e=>absurd e ha,rfl⟩
theorem Oq(hr:HR n h1 h){id ver:Nat}{t:Ty}{s:Sl (El t)}(ho:fO h id=some (.ar t s ver)\/fO h id=some (.im t s ver)):
  ∃q bD rd,(∀k,dU h1 k (mT (ce t) (aS t) id s)=some (q,bD,rd))/\xU q=wL (ce t) (aS t) s/\bD.Sublist [id]/\xH q=true:=by
 cases s with
 |nil=>exact⟨_,_,_,fun k=>vV k _,rfl,jk _,rfl⟩
 |mk l=>
  have hb:aw h1 id=some (.aK (ce t) (l.map (aS t)))\/aw h1 id=some (.p_ (ce t) (l.map (aS t))):=by
   rcases ho with ho|ho
   .exact .inl ((hr.ob id _ ho).2.1.2.2 l rfl)
   .exact .inr ((hr.ob id _ ho).2.1.2.2 l rfl)
  obtain⟨q,bD,rd,g1,g2,g3,_,g5⟩:=DG (lo:=0) (len:=(l.map (aS t)).length) hb (by omega) (ce t);rw[uG]at g2;exact⟨q,bD,rd,g1,g2,g3,g5⟩
theorem Mc{t:Ty}(s:Sl (Sl (El t))):xU (yO t s)=wL 1 (aS (.sl t)) (s:Sl (El (.sl t))):=by cases s with|nil=>rfl|mk l=>simp only[yO,xU,wL,mh];congr 1;exact List.map_congr_left fun r _=>by cases r<;>rfl
theorem Ot(hr:HR n h1 h){id:Nat}{t:Ty}{s:Sl (Sl (El t))}(ho:fO h id=some (.rw t s none)):
  ∃bD rd,(∀k,dU h1 k (mT 1 (aS (.sl t)) id (s:Sl (El (.sl t))))=some (yO t s,bD,rd))/\bD.Sublist [id]:=by
 cases s with|nil=>exact⟨_,_,fun k=>vV k _,jk _⟩|mk l=>exact⟨_,_,fun k=>XD (k:=k) ((hr.ob id _ ho).2.1.2.2 l rfl),bY _⟩
theorem Hs(hr:HR n h1 h){id ver lo:Nat}{t:Ty}{r:Sl (El t)}(hk:fD n h (.sb id ver lo t r))(ha:Aa h id ver=true):
  ∃q bD rd,(∀k,dU h1 k (yi id lo t r)=some (q,bD,rd))/\xU q=wL (ce t) (aS t) r/\bD.Sublist [id]/\((∃u s v,fO h id=some (.ar u s v))->q=Q2 (ce t) (aS t) r)/\xH q=true:=by
 obtain⟨u,s,ho⟩:=l9 ha;obtain⟨_,hc⟩:=hk.2 u s ver ho;obtain⟨hz,hc⟩:=hc rfl;cases r with
 |nil=>exact⟨_,_,_,fun k=>vV k _,rfl,jk _,fun _=>rfl,rfl⟩
 |mk m=>
  cases s with
  |nil=>exact hc.elim
  |mk l=>
   obtain⟨hl,he⟩:=hc
   have hb:aw h1 id=some (.aK (ce u) (l.map (aS u)))\/aw h1 id=some (.p_ (ce u) (l.map (aS u))):=by
    rcases ho with ho|ho
    .exact .inl ((hr.ob id _ ho).2.1.2.2 l rfl)
    .exact .inr ((hr.ob id _ ho).2.1.2.2 l rfl)
   obtain⟨q,bD,rd,g1,g2,g3,g4,g5⟩:=DG (lo:=lo) (len:=(m.map (aS t)).length) hb (by simpa using hl) (ce t);rw[show(m.map (aS t)).length=m.length by simp,he]at g2 g4;refine⟨q,bD,rd,fun k=>?_,g2,g3,?_,g5⟩
   .have:=g1 k;simpa[yi]using this
   .rintro ⟨u',s',v',ho'⟩;rcases ho with ho|ho
    .exact g4 ((hr.ob id _ ho).2.1.2.2 l rfl)
    .rw [ho']at ho;simp at ho
theorem Je(ds:List D):(ds.map T.d).map xU=ds:=by induction ds with|nil=>rfl|cons d ds ih=>simp only[aq,xU,ih]
theorem Me(hr:HR n h1 h):∀(v w:V)(l:List Nat)(cs:List C),jA h v=some (w,l)->fG h v cs->fD n h v->iU h v=true->
  ∃ts bD rd,(∀k,cs.length<=k->jc h1 k cs=some (ts,bD,rd))/\fG h w ((ts.map xU).map .d)/\bD.Sublist l/\cs.length=ts.length/\uf w=uf v/\∀q∈ts,xH q=true:=by
 have done:∀(v:V)(ds:List D),fG h v (ds.map .d)->∃ts bD rd,(∀k,(ds.map C.d).length<=k->jc h1 k (ds.map .d)=some (ts,bD,rd))/\fG h v ((ts.map xU).map .d)/\bD.Sublist ([]:List Nat)/\(ds.map C.d).length=ts.length/\uf v=uf v/\∀q∈ts,xH q=true:=fun v ds hv=>⟨ds.map .d,[],[],fun k hk=>pB ds k (by simpa using hk),by rw[Je];exact hv,bY _,by simp,rfl,fun q hq=>by obtain⟨d,_,rfl⟩:=List.mem_map.1 hq;rfl⟩
 have one:∀(c:C)(q:T)(bD rd:List Nat),(∀k,dU h1 k c=some (q,bD,rd))->∀k,[c].length<=k->jc h1 k [c]=some ([q],bD,rd):=fun c q bD rd hq k hk=>by
  obtain⟨k,rfl⟩:∃k',k=k'+1:=⟨k-1,by simp at hk;omega⟩
  exact rE (hq k)
 intro v;induction v with
 |so id=>
  intro w l cs hf hv hk ha;simp only[jA]at hf;split at hf
  .rename_i t s l' hs;obtain⟨rfl,rfl⟩:=af (aa hf);obtain⟨ver,ho,e⟩:=vk hs;have e:l'=[id]:=e;subst e;obtain⟨c,rfl,hc,_⟩:=hv;rw[hc _ (mS ho)];obtain⟨q,bD,rd,q1,q2,q3,q5⟩:=Oq hr ho;have hd:kQ t=true:=by rcases ho with ho|ho<;>exact(hr.ob id _ ho).2.1.1
   exact⟨[q],bD,rd,one _ q bD rd q1,⟨hd,by simp only[aq,aW,q2];rfl⟩,q3,rfl,rfl,fun p hp=>by obtain rfl:=au.1 hp;exact q5⟩
  .simp at hf
 |sr id=>
  intro w l cs hf hv hk ha;simp only[jA]at hf;split at hf
  .rename_i t s ho;obtain⟨rfl,rfl⟩:=af (aa hf);obtain⟨c,rfl,hc,_⟩:=hv;rw[hc _ (tH ho)];obtain⟨bD,rd,q1,q3⟩:=Ot hr ho;exact⟨[_],bD,rd,one _ _ bD rd q1,⟨(hr.ob id _ ho).2.1.1,by simp only[aq,aW,Mc];rfl⟩,q3,rfl,rfl,fun p hp=>by obtain rfl:=au.1 hp;cases s<;>rfl⟩
  .simp at hf
 |sb id ver lo t r=>intro w l cs hf hv hk ha;simp only[jA,uN]at hf;obtain⟨rfl,rfl⟩:=af (aa hf);obtain⟨hd,ha⟩:=dm.1 ha;have ha:Aa h id ver=true:=ha;obtain⟨c,rfl,hc,_⟩:=hv;rw[hc ha];obtain⟨q,bD,rd,q1,q2,q3,_,q5⟩:=Hs hr hk ha;exact⟨[q],bD,rd,one _ q bD rd q1,⟨hd,by simp only[aq,aW,q2];rfl⟩,q3,rfl,rfl,fun p hp=>by obtain rfl:=au.1 hp;exact q5⟩
 |rc r ih=>
  intro w l cs hf hv hk ha;simp only[jA]at hf;split at hf
  .rename_i w' l' hw;obtain⟨rfl,rfl⟩:=af (aa hf);obtain⟨ts,bD,rd,a1,a2,a3,a4,_,a6⟩:=ih w' l' cs hw hv hk ha;exact⟨ts,bD,rd,a1,a2,a3,a4,rfl,a6⟩
  .simp at hf
 |co a r iha ihr=>
  intro w l cs hf hv hk ha;simp only[jA]at hf;split at hf
  .rename_i x l1 y l2 hx hy;obtain⟨rfl,rfl⟩:=af (aa hf);obtain⟨ca,cr,rfl,h2,h3⟩:=hv;simp only[iU,ak]at ha;obtain⟨ts,bD,rd,a1,a2,a3,a4,_,a6⟩:=iha x l1 ca hx h2 hk.1 ha.1;obtain⟨us,own2,rd2,b1,b2,b3,b4,_,b6⟩:=ihr y l2 cr hy h3 hk.2 ha.2;refine⟨ts++us,bD++own2,rd++rd2,fun k hk=>?_,⟨_,_,by simp,a2,b2⟩,a3.append b3,by simp[a4,b4],rfl,fun q hq=>(ao.1 hq).elim (a6 q) (b6 q)⟩;simp only[bi]at hk;exact vU (a1 k (by omega)) (b1 _ (by omega)) (by omega)
  .simp at hf
 |x t v=>intro w l cs hf hv hk ha;obtain⟨rfl,rfl⟩:=af (aa hf);obtain⟨hd,rfl⟩:=hv;exact done _ _ ⟨hd,rfl⟩
 |kb c=>intro w l cs hf hv hk ha;obtain⟨rfl,rfl⟩:=af (aa hf);obtain rfl:=hv;exact done (.kb c) [_] rfl
 |nl k=>intro w l cs hf hv hk ha;obtain⟨rfl,rfl⟩:=af (aa hf);obtain rfl:=hv;exact done (.nl k) [_] rfl
 |fl q=>
  intro w l cs hf hv hk ha;obtain⟨rfl,rfl⟩:=af (aa hf);obtain⟨hp,rfl⟩:=hv;have e:fm q=(q.map D.lit).map C.d:=by simp[fm]
  rw[e];exact done (.fl q) (q.map D.lit) ⟨hp,e.symm⟩
 |ni=>intro w l cs hf hv hk ha;obtain⟨rfl,rfl⟩:=af (aa hf);obtain rfl:=hv;exact done .ni [] rfl
 |pt t v=>intro w l cs hf hv hk ha;obtain⟨rfl,rfl⟩:=af (aa hf);obtain⟨hd,rfl⟩:=hv;exact done (.pt t v) [_] ⟨hd,rfl⟩
 |fn z f q ih=>intro w l cs hf hv hk ha;cases z with|true=>obtain⟨rfl,rfl⟩:=af (aa hf);obtain⟨ds,hd,rfl⟩:=hv;exact done (.fn true f q) [_] ⟨ds,hd,rfl⟩|false=>simp[jA]at hf
 |_=>intro w l cs hf hv hk ha;simp[jA]at hf
def HL:Sh->Bool
 |.x _=>true
 |_=>false
theorem Nd:∀(c:Sh)(ln:Bool)(v:V)(l:List V)(i:List Nat),eA h c ln v=some (l,i)->l.length=(Px c).length:=by
 intro c;induction c with
 |x t=>
  intro ln v l i ha;cases ln with
  |true=>simp[eA]at ha
  |false=>
   simp only[eA]at ha;split at ha
   .obtain ⟨rfl,_⟩:=af (aa ha);rfl
   .simp at ha
 |os t=>
  intro ln v l i ha;cases ln with
  |true=>simp[eA]at ha
  |false=>
   cases v with
   |so id=>
    simp only[eA]at ha;split at ha
    .split at ha
     .obtain ⟨rfl,_⟩:=af (aa ha);rfl
     .simp at ha
    .simp at ha
   |nl k=>cases k with|zero=>obtain⟨rfl,_⟩:=af (aa ha);rfl|succ=>simp[eA]at ha
   |_=>simp[eA]at ha
 |rw t=>
  intro ln v l i ha;cases ln with
  |true=>simp[eA]at ha
  |false=>
   cases v with
   |sr id=>
    simp only[eA]at ha;split at ha
    .split at ha
     .obtain ⟨rfl,_⟩:=af (aa ha);rfl
     .simp at ha
    .simp at ha
   |nl k=>cases k with|zero=>obtain⟨rfl,_⟩:=af (aa ha);rfl|succ=>simp[eA]at ha
   |_=>simp[eA]at ha
 |mp kt vt=>
  intro ln v l i ha;cases ln with
  |true=>simp[eA]at ha
  |false=>
   cases v with
   |om id=>
    simp only[eA]at ha;split at ha
    .split at ha
     .obtain ⟨rfl,_⟩:=af (aa ha);rfl
     .simp at ha
    .simp at ha
   |_=>simp[eA]at ha
 |pb t c ih=>
  intro ln v l i ha;cases ln with
  |true=>simp[eA]at ha
  |false=>
   cases v with
   |op id u p=>
    cases p with
    |cons=>simp[eA]at ha
    |nil=>
     simp only[eA]at ha;split at ha
     .obtain ⟨_,ha⟩:=aO ha;split at ha
      .rename_i hh;obtain⟨rfl,_⟩:=af (aa ha);exact ih _ _ _ _ hh
      .simp at ha
     .simp at ha
   |_=>simp[eA]at ha
 |nl k=>
  intro ln v l i ha;cases ln with
  |true=>simp[eA]at ha
  |false=>cases v with|nl k'=>simp only[eA]at ha;obtain⟨_,ha⟩:=aO ha;obtain⟨rfl,_⟩:=af (aa ha);rfl|_=>simp[eA]at ha
 |st c ih=>
  intro ln v l i ha;cases ln with
  |true=>simp[eA]at ha
  |false=>
   cases v with
   |rc q=>exact ih true q l i ha
   |x t v=>cases t with|st u=>exact ih true _ l i ha|_=>simp[eA]at ha
   |_=>simp[eA]at ha
 |pr a c iha ihc=>
  intro ln v l i ha;cases ln with
  |false=>simp[eA]at ha
  |true=>
   cases v with
   |co x r=>
    simp only[eA]at ha;split at ha
    .rename_i l1 i1 l2 i2 h2 h3;obtain⟨rfl,rfl⟩:=af (aa ha)
     have hA:l1.length=(Px a).length:=by
      split at h2
      .unfold Ry at h2;split at h2
       .obtain ⟨rfl,_⟩:=af (aa h2);rfl
       .simp at h2
      .unfold XB at h2;split at h2
       .obtain ⟨_,h2⟩:=aO h2;split at h2
        .obtain ⟨rfl,_⟩:=af (aa h2);rfl
        .simp at h2
       .simp at h2
      .exact iha _ _ _ _ h2
     rw[bi,hA,ihc _ _ _ _ h3];simp[Px]
    .simp at ha
   |_=>simp[eA]at ha
 |ni=>
  intro ln v l i ha;cases ln with
  |false=>cases v<;>simp[eA]at ha
  |true=>cases v with|ni=>obtain⟨rfl,_⟩:=af (aa ha);rfl|_=>simp[eA]at ha
 |_=>intro ln v l i ha;cases ln<;>cases v<;>simp[eA]at ha
theorem PY{c:Sh}{v:V}{l:List V}{i:List Nat}(ha:eA h c false v=some (l,i))(hx:HL c=false):uf v=yb c/\fZ h v=tD h v:=by
 cases c with
 |x t=>simp[HL]at hx
 |os t=>cases v<;>first|exact⟨rfl,rfl⟩|simp[eA]at ha
 |rw t=>cases v<;>first|exact⟨rfl,rfl⟩|simp[eA]at ha
 |pb t c=>cases v<;>first|exact⟨rfl,rfl⟩|simp[eA]at ha
 |mp kt vt=>cases v<;>first|exact⟨rfl,rfl⟩|simp[eA]at ha
 |nl k=>cases v<;>first|exact⟨rfl,rfl⟩|simp[eA]at ha
 |st c=>
  cases v with
  |rc q=>exact⟨rfl,rfl⟩
  |x t v=>cases t with|st u=>exact⟨rfl,rfl⟩|_=>simp[eA]at ha
  |_=>simp[eA]at ha
 |_=>cases v<;>simp[eA]at ha
theorem tO{c:C}{ts:List T}{bD rd:List Nat}(hp:jc h1 301 [c]=some (ts,bD,rd)):∃t rd',dU h1 300 c=some (t,bD,rd')/\ts=[t]:=by
 simp only[jc,pI]at hp;split at hp
 .rename_i t a i xs b j hc hn;obtain⟨rfl,e⟩:=af (aa hp);obtain⟨rfl,rfl⟩:=af e;obtain⟨rfl,e⟩:=af (aa hn);obtain⟨rfl,rfl⟩:=af e;exact⟨t,i,by simpa using hc,rfl⟩
 .simp at hp
theorem KS(hr:HR n h1 h){c:Sh}{v:V}{l:List V}{i:List Nat}{x:TV}(hc:Oc h c v=some (l,i))(hx:fZ h v x)(hk:fD n h v)(ha:iU h v=true)(hf:g_ (pJ c) 300=true):
  l.length=(Px c).length/\∃r0 bD,qH h1 x=some (r0,bD)/\bD.Sublist i/\∀rest,(if(HL c&&F7 r0)=true then Jq r0 else r0)=(bif yb c then .agg (l5 c (l++rest)).1 else .c ((l5 c (l++rest)).1.headD default))/\(l5 c (l++rest)).2=rest:=by
 have hf:pJ c<=300:=gj hf;have main:HL c=false->eA h c false v=some (l,i)->l.length=(Px c).length/\∃r0 bD,qH h1 x=some (r0,bD)/\bD.Sublist i/\∀rest,(if(HL c&&F7 r0)=true then Jq r0 else r0)=(bif yb c then .agg (l5 c (l++rest)).1 else .c ((l5 c (l++rest)).1.headD default))/\(l5 c (l++rest)).2=rest:=by intro hX hc;obtain⟨hag,htv⟩:=PY hc hX;rw[htv]at hx;obtain⟨cs,h2,h3,h4⟩:=hx;obtain⟨ts,bD,rd,g1,g2,g3,_,_,g6,_⟩:=xq hr c false v l i cs hc h2 hk;refine⟨Nd _ _ _ _ _ hc,?_⟩;cases hg:yb c with|true=>obtain rfl:=h3 (hag.trans hg);refine⟨.agg ts,bD,by simp only[qH,g1 300 hf],g3,fun rest=>?_⟩;rw[g2 rest,hX];exact⟨rfl,rfl⟩|false=>obtain⟨c1,rfl,rfl⟩:=h4 (hag.trans hg);obtain⟨t,rd',p1,rfl⟩:=tO (g1 301 (by omega));refine⟨.c t,bD,by simp only[qH,p1],g3,fun rest=>?_⟩;rw[g2 rest,hX];exact⟨rfl,rfl⟩
 cases c with
 |x t=>
  simp only[Oc]at hc;split at hc
  .rename_i w l' hw;split at hc
   .rename_i y hy;obtain⟨rfl,rfl⟩:=af (aa hc);have h5:tD h v x:=by cases v with|tp q=>simp[jA]at hw|no=>simp[iU]at ha|gn=>simp[iU]at ha|_=>exact hx
    obtain⟨cs,h2,h3,h4⟩:=h5;obtain⟨ts,bD,rd,g1,g2,g3,g4,g5,g6⟩:=Me hr v w l' cs hw h2 hk ha;have e:=js w false t y _ hy g2;have e:=p7 e;have hag:uf v=lQ t:=g5.symm.trans (xj hy);have hlen:cs.length=ce t:=by rw[g4,<-bW t y,<-e,List.length_map]
    have hf2:ce t+1<=300:=hf;refine⟨rfl,?_⟩;cases hg:lQ t with|true=>obtain rfl:=h3 (hag.trans hg);refine⟨.agg ts,bD,by simp only[qH,g1 300 (by omega)],g3,fun rest=>⟨?_,rfl⟩⟩;have mo:F7 (.agg ts)=true:=a_.2 g6;simp only[HL,mo,gI,if_true,cond_true,Jq,yb,hg,l5,aU,bE,R.agg.injEq];rw[<-e,mh];rfl|false=>obtain⟨c1,rfl,rfl⟩:=h4 (hag.trans hg);obtain⟨q,rd',p1,rfl⟩:=tO (g1 301 (by simp));refine⟨.c q,bD,by simp only[qH,p1],g3,fun rest=>⟨?_,rfl⟩⟩;have mo:F7 (.c q)=true:=g6 q (by simp);simp only[HL,mo,gI,if_true,Jq,yb,hg,cond_false,l5,aU,bE,R.c.injEq];rw[<-e];rfl
   .simp at hc
  .simp at hc
 |os t=>
  cases v with
  |sb id ver lo u r=>
   simp only[Oc]at hc;split at hc
   .rename_i u0 s0 v0 ho;split at hc
    .rename_i s hs;obtain⟨rfl,rfl⟩:=af (aa hc);obtain⟨e,rfl⟩:=dl hs;cases e;obtain rfl:=q_ hx ha;obtain⟨q,bD,rd,q1,_,q3,q4,_⟩:=Hs hr hk (dm.1 ha).2;obtain rfl:=q4 ⟨_,_,_,ho⟩;exact⟨rfl,.c (Q2 (ce t) (aS t) r),bD,by simp only[qH,q1],q3,fun rest=>⟨rfl,rfl⟩⟩
    .simp at hc
   .simp at hc
  |_=>exact main rfl hc
 |_=>exact main rfl hc
theorem FQ(hr:HR n h1 h):∀(cs:List Sh)(vs:List V)(l:List V)(i:List Nat)(xs:List TV),A1 h cs vs=some (l,i)->mR h vs xs->(∀v∈vs,fD n h v/\iU h v=true)->cs.all (fun c=>g_ (pJ c) 300)=true->
  l.length=(ff cs).length/\∃rs0 bD,ri h1 xs=some (rs0,bD)/\bD.Sublist i/\qO (cs.map HL) rs0=jz cs l:=by
 intro cs;induction cs with
 |nil=>intro vs l i xs hc hx _ _;cases vs with|cons=>simp[A1]at hc|nil=>obtain⟨rfl,rfl⟩:=af (aa hc);rw[lB hx];exact⟨rfl,[],[],rfl,bY _,rfl⟩
 |cons c cs ih=>
  intro vs l i xs hc hx hk hf;cases vs with
  |nil=>simp[A1]at hc
  |cons v vs=>
   simp only[A1]at hc;split at hc
   .rename_i l1 i1 l2 i2 h2 h3;obtain⟨rfl,rfl⟩:=af (aa hc);obtain⟨y,ys,rfl,hy,hys⟩:=gA hx;simp only[gp,ak]at hf;obtain⟨e1,r0,bD,a1,a2,a3⟩:=KS hr h2 hy (hk v (by simp)).1 (hk v (by simp)).2 hf.1;obtain⟨e2,rs0,own2,b1,b2,b3⟩:=ih vs l2 i2 ys h3 hys (fun w hw=>hk w (by simp[hw])) hf.2;refine⟨by simp[ff,e1,e2],r0::rs0,bD++own2,by simp only[ri,a1,b1],a2.append b2,?_⟩;obtain⟨c1,c2⟩:=a3 l2;simp only[aq,qO,jz,c2,b3];rw[<-c1]
   .simp at hc
theorem FP(hr:HR n h1 h):∀(cs:List Sh)(g:V)(l:List V)(i:List Nat)(xs:List C),A0 h cs (AQ g)=some (l,i)->Kg h g xs->fD n h g->cs.all (fun c=>g_ (pJ c) 300&&!HL c)=true->
  ∃bD,uh h1 xs (lk cs l) bD/\bD.Sublist i:=by
 intro cs;induction cs with
 |nil=>intro g l i xs hc hx _ _;cases g with|ni=>obtain⟨rfl,rfl⟩:=af (aa hc);obtain rfl:=hx;exact⟨[],.nil,bY _⟩|co a r=>simp[AQ,A0]at hc|_=>exact hx.elim
 |cons c cs ih=>
  intro g l i xs hc hx hk hf;cases g with
  |ni=>simp[AQ,A0]at hc
  |co a r=>
   simp only[AQ,A0]at hc;split at hc
   .rename_i l1 i1 l2 i2 h2 h3;obtain⟨rfl,rfl⟩:=af (aa hc);obtain⟨y,ys,rfl,hy,hys⟩:=hx;simp only[gp,ak,Bool.not_eq_true']at hf;obtain⟨own2,b1,b2⟩:=ih r l2 i2 ys h3 hys hk.2 (by simpa using hf.2);have Fc:(bif iU h a then eA h c false a else none)=some (l1,i1)->∃bD,uh h1 (y::ys) (lk (c::cs) (l1++l2)) bD/\bD.Sublist (i1++i2):=by intro h2;obtain⟨ha,h2⟩:=aO h2;obtain⟨ts,bD,rd,g1,g2,g3,_⟩:=xq hr c false a l1 i1 [y] h2 (hy ha) hk.1;have hfu:pJ c<=300:=gj hf.1.1;obtain⟨t,rd',p1,rfl⟩:=tO (g1 301 (by omega));refine⟨bD++own2,?_,g3.append b2⟩;simp only[lk,g2 l2,bZ];exact .cons p1 b1
    cases c with|gn=>obtain⟨rfl,rfl⟩:=af (aa (show some (([]:List V),([]:List Nat))=some (l1,i1)from h2));exact⟨own2,.eH b1,b2⟩|_=>exact Fc h2
   .simp at hc
  |_=>exact hx.elim
end
theorem II(hg:mJ){s1:St}{s:S2}(hr:R2 s1 s){r:RV}{v:V}(h:Oa s r=some v):∃x,tM s1 r=some x/\fZ s.heap v x/\fD s.next s.heap v/\iU s.heap v=true:=by
 cases r with
 |tmp t=>exact oQ hg hr (o:=.tmp t) h
 |cell t g n=>
  simp only[Oa]at h;split at h
  .rename_i p hp;split at h
   .rename_i w l hl;obtain⟨hc,h⟩:=aO h;obtain rfl:=aa h;obtain⟨x,h1,h2,h3,h4⟩:=oQ hg hr hp;obtain⟨y,h5,h6,h7⟩:=wY (nx:=0) (c:=dF) hr.hr hl hc h2 h3;refine⟨y,?_,h6,h7,(oY hc).2.2.2⟩;have h1:cm s1.dE t=some x:=h1;simp only[tM,h1];cases x with
    |c pc=>
     simp only[cC]at h5;split at h5
     .rename_i z az hz;obtain⟨rfl,_⟩:=af (aa h5);simp only[hz]
     .simp at h5
    |_=>simp[cC]at h5
   .simp at h
  .simp at h
theorem Jf(hg:mJ){s1:St}{s:S2}(hr:R2 s1 s):∀(kW:List RV)(vs:List V),ON (Oa s) kW=some vs->∃xs,dY (kW.map (tM s1))=some xs/\mR s.heap vs xs/\∀v∈vs,fD s.next s.heap v/\iU s.heap v=true:=by
 intro kW;induction kW with
 |nil=>intro vs h;obtain rfl:=aa h;exact⟨[],rfl,trivial,fun v hv=>by simp at hv⟩
 |cons r kW ih=>
  intro vs h;simp only[ON]at h;split at h
  .rename_i x y hx hy;obtain rfl:=aa h;obtain⟨x1,a1,a2,a3⟩:=II hg hr hx;obtain⟨xs,b1,b2,b3⟩:=ih y hy;refine⟨x1::xs,by simp only[aq,dY,a1,b1],⟨a2,b2⟩,fun v hv=>?_⟩;rcases aN.1 hv with rfl|hv
   .exact a3
   .exact b3 v hv
  .simp at h
def Vw(al:Wy):Bool:=al.all fun w=>w.1.all (fun c=>g_ (pJ c) 300)&&w.2.all (fun c=>g_ (pJ c) 300&&!HL c)
theorem Jt(hg:mJ){s1:St}{s:S2}(hr:R2 s1 s){kW:List RV}{rs os:List Sh}{l:List V}(h:Ju kW rs os s=some l)(hf1:rs.all (fun c=>g_ (pJ c) 300)=true)(hf2:os.all (fun c=>g_ (pJ c) 300&&!HL c)=true):
  ∃rs0,rt kW s1 rs0 (lk os (l.drop (ff rs).length))/\qO (rs.map HL) rs0=jz rs (l.take (ff rs).length):=by
 unfold Ju at h;split at h
 .rename_i vs hvs;split at h
  .rename_i l1 i m j h2 h3;obtain⟨hn,h⟩:=aO h;obtain rfl:=aa h;obtain⟨xs,a1,a2,a3⟩:=Jf hg hr kW vs hvs;obtain⟨e,rs0,bD,b1,b2,b3⟩:=FQ hr.hr rs vs l1 i xs h2 a2 a3 hf1;obtain⟨own2,c1,c2⟩:=FP hr.hr os s.gh m j s1.gh h3 hr.gh.1 hr.gh.2 hf2;rw[<-e,List.take_left,List.drop_left];exact⟨rs0,⟨xs,bD,own2,a1,b1,c1,(b2.append c2).nodup (DY hn)⟩,b3⟩
  .simp at h
 .simp at h
section
variable{h1:bC}
theorem Ii:∀(c:Sh)(l:List V)(w:V)(l':List V),C9 c l=some (w,l')->rn w=some (rT c l).1/\l'=(rT c l).2:=by
 intro c;induction c with
 |ni=>intro l w l' h;obtain⟨rfl,rfl⟩:=af (aa h);exact⟨rfl,rfl⟩
 |pr a c _ ih=>
  intro l w l' h;cases a with
  |pt t=>
   match l with
   |.x u v::l=>
    simp only[C9]at h;obtain⟨hc,hh⟩:=aO h;clear h;simp only[ak,decide_eq_true_eq]at hc;obtain⟨rfl,hd⟩:=hc;split at hh
    .rename_i w2 l2 hw;obtain⟨rfl,rfl⟩:=af (aa hh);obtain⟨h2,h3⟩:=ih l w2 l2 hw;refine⟨?_,h3⟩;simp only[rn,hd,if_true,h2,rT]
    .simp at hh
   |[]|.kb _::_|.nl _::_|.so _::_|.sb _ _ _ _ _::_|.op _ _ _::_|.ep _ _ _ _::_|.pt _ _::_|.fn _ _ _::_|.om _::_|.rc _::_|.tp _::_|.ni::_|.co _ _::_|.fl _::_|.no::_|.gn::_=>simp[C9]at h
  |_=>simp[C9]at h
 |_=>intro l w l' h;simp[C9]at h
theorem JX:∀{w:V}{ds:List D},rn w=some ds->CM w=true:=by
 intro w;induction w with
 |pt t v=>
  intro ds h;simp only[rn]at h;split at h
  .assumption
  .simp at h
 |ni=>intro ds _;rfl
 |co a r iha ihr=>
  intro ds h;simp only[rn]at h;split at h
  .rename_i x y hx hy;simp only[CM,iha hx,ihr hy,gI]
  .simp at h
 |_=>intro ds h;simp[rn]at h
theorem Qu{h:H2}{n:Nat}{i:Nat}{u:Ty}{v:El u}(hd:kQ u=true)(hs:(yb (.x u)||zm (.x u))=true):∃x,fZ h (.x u v) x/\fD n h (.x u v)/\
  ∀(r:List A)(k:Nat),enter ((bif yb (.x u)then A.agg (aS u v)else A.d ((aS u v).headD default))::r) i k=((i,x)::(enter r (i+1) k).1,(enter r (i+1) k).2.1,(enter r (i+1) k).2.2.1,(enter r (i+1) k).2.2.2):=by
 cases hg:lQ u with
 |true=>refine⟨.agg ((aS u v).map .d),cA ⟨_,⟨hd,rfl⟩,fun _=>rfl,fun e=>(by rw[show uf (.x u v)=lQ u from rfl,hg]at e;cases e)⟩,trivial,fun r k=>?_⟩;simp only[yb,hg,cond_true,enter]
 |false=>
  have h1:ce u=1:=by simpa[yb,hg,zm]using hs
  have hl:=bW u v;rw[h1]at hl
  match he:aS u v,hl with|[d],_=>refine⟨.c (.d d),cA ⟨[.d d],⟨hd,by rw[he];rfl⟩,fun e=>(by rw[show uf (.x u v)=lQ u from rfl,hg]at e;cases e),fun _=>⟨_,rfl,rfl⟩⟩,trivial,fun r k=>?_⟩;simp only[yb,hg,cond_false,enter,bZ]
theorem xG{α:Type}{a t:Nat}{x:α}{l:List (Nat×α)}(h:a≠t):cm ((a,x)::l) t=cm l t:=by simp only[cm];rw[show(a==t)=false by simpa using h,cond_false]
theorem qP{α:Type}{a:Nat}{x:α}{l:List (Nat×α)}:cm ((a,x)::l) a=some x:=by simp[cm]
theorem JE:∀(ps:List (Bool×Sh))(i:Nat)(l:List V)(s:S2)(h1:bC)(e:List (Nat×V))(s':S2),t6 ps i l s=some (e,s')->BY ps=true->HR s.next h1 s.heap->s.gh=.ni->
  HR s'.next ((enter (fw ps l) i s.next).2.1++h1) s'.heap/\jO s.next s.heap s'.heap/\s.next<=s'.next/\(∀p∈(enter (fw ps l) i s.next).2.1,s.next<=p.1/\p.1<s'.next)/\
  (∀t v,cm e t=some v->fD s'.next s'.heap v/\∃x,cm (enter (fw ps l) i s.next).1 t=some x/\fZ s'.heap v x)/\
  s'.next=(enter (fw ps l) i s.next).2.2.1/\Kg s'.heap s'.gh (enter (fw ps l) i s.next).2.2.2/\fD s'.next s'.heap s'.gh:=by
 intro ps;induction ps with
 |nil=>
  intro i l s h1 e s' he _ hr hg;cases l with
  |cons=>simp[t6]at he
  |nil=>
   obtain⟨rfl,rfl⟩:=af (aa he);simp only[fw,enter,bE];refine⟨hr,jO.refl _ _,am _,fun p hp=>by simp at hp,fun t v h=>by simp[cm]at h,trivial,?_,?_⟩
   .rw [hg];rfl
   .rw [hg];trivial
 |cons p ps ih=>
  obtain⟨b,c⟩:=p;intro i l s h1 e s' he hp hr hg;simp only[BY,ak]at hp;obtain⟨hc,hps⟩:=hp
  -- data: one more temporary
  have data:∀(l2:List V)(w:V)(a:A)(x:TV),fw ((b,c)::ps) l=a::fw ps l2->(∀(r:List A)(k:Nat),enter (a::r) i k=((i,x)::(enter r (i+1) k).1,(enter r (i+1) k).2.1,(enter r (i+1) k).2.2.1,(enter r (i+1) k).2.2.2))->
    (∀h,fZ h w x)->(∀n h,fD n h w)->(match t6 ps (i+1) l2 s with|some (e,s)=>some ((i,w)::e,s)|none=>none)=some (e,s')->
    HR s'.next ((enter (fw ((b,c)::ps) l) i s.next).2.1++h1) s'.heap/\jO s.next s.heap s'.heap/\s.next<=s'.next/\(∀p∈(enter (fw ((b,c)::ps) l) i s.next).2.1,s.next<=p.1/\p.1<s'.next)/\
    (∀t v,cm e t=some v->fD s'.next s'.heap v/\∃x,cm (enter (fw ((b,c)::ps) l) i s.next).1 t=some x/\fZ s'.heap v x)/\
    s'.next=(enter (fw ((b,c)::ps) l) i s.next).2.2.1/\Kg s'.heap s'.gh (enter (fw ((b,c)::ps) l) i s.next).2.2.2/\fD s'.next s'.heap s'.gh:=by
   intro l2 w a x ha hen hx hk he;split at he
   .rename_i e1 s1 h2;obtain⟨rfl,rfl⟩:=af (aa he);obtain⟨a1,a2,a3,a4,a5,a6,a7,a8⟩:=ih (i+1) l2 s h1 e1 s1 h2 hps hr hg;rw[ha,hen];refine⟨a1,a2,a3,a4,fun t v h=>?_,a6,a7,a8⟩;by_cases et:i=t
    .subst et;rw[qP]at h;obtain rfl:=aa h;exact⟨hk _ _,x,qP,hx _⟩
    .rw [xG et]at h|-;exact a5 t v h
   .simp at he
  cases b with
  |true=>
   simp only[cond_true,ak]at hc;simp only[t6]at he;split at he
   .rename_i w l2 s1 hm;split at he
    .rename_i e1 s2 h2;obtain⟨rfl,rfl⟩:=af (aa he);obtain⟨g1,g2,g3,g4,g5,_⟩:=v8 c false l s w l2 s1 h1 hm hr;have hone:zm c=true:=by have:=hc.1;cases c<;>simp[wa]at this<;>rfl
     have hlen:=Ct hm hone
     match ht:(l5 c l).1,hlen with
     |[t0],_=>
      have hu:ja s.next [t0]=([(kV s.next t0).1],(kV s.next t0).2.1++[],(kV s.next t0).2.2):=rfl;rw[ht,hu]at g1 g3 g4;simp only[bv]at g1 g3 g4;obtain⟨k1,k2,k3,k4,k5,k6,_⟩:=g3;obtain⟨a1,a2,a3,a4,a5,a6,a7,a8⟩:=ih (i+1) l2 s1 ((kV s.next t0).2.1++h1) e1 s2 h2 hps k1 (k4.trans hg);have hen:enter (fw ((true,c)::ps) l) i s.next=((i,.c (kV s.next t0).1)::(enter (fw ps l2) (i+1) s1.next).1,(kV s.next t0).2.1++(enter (fw ps l2) (i+1) s1.next).2.1,(enter (fw ps l2) (i+1) s1.next).2.2.1,(kV s.next t0).1::(enter (fw ps l2) (i+1) s1.next).2.2.2):=by simp only[fw,ht,bZ,<-g5,enter,<-g4]
      rw[hen];have hk:=hO a3 a2 g2;have hcel:=lZ a2 g2 g1;refine⟨a1.ext fun j=>wW (fun p hp q hq e=>?_) j,jO.trans k5 k2 a2,e_ k5 a3,fun p hp=>?_,fun t v h=>?_,a6,⟨_,_,rfl,fun _=>hcel,a7⟩,⟨hk,a8⟩⟩
      .have:=(k6 p hp).2;have:=(a4 q hq).1;omega
      .rcases ao.1 hp with hp|hp
       .exact ⟨(k6 p hp).1,Nat.lt_of_lt_of_le (k6 p hp).2 a3⟩
       .exact ⟨e_ k5 (a4 p hp).1,(a4 p hp).2⟩
      .by_cases et:i=t
       .subst et;rw[qP]at h;obtain rfl:=aa h;refine⟨hk,_,qP,?_⟩;have hag:uf w=false:=by have:=v8 c false l s w l2 s1 h1 hm hr;rw[this.2.2.2.2.2 rfl];have:=hc.1;cases c<;>simp[wa]at this<;>rfl
        exact cA ⟨_,hcel,fun e=>(by rw[hag]at e;cases e),fun _=>⟨_,rfl,rfl⟩⟩
       .rw [xG et]at h|-;exact a5 t v h
    .simp at he
   .simp at he
  |false=>
   simp only[cond_false,ak]at hc;cases c with
   |x t=>
    match l,he with
    |.x u v::l,he=>
     simp only[t6]at he;obtain⟨hd,he2⟩:=aO he;simp only[ak,decide_eq_true_eq]at hd;obtain⟨rfl,hd⟩:=hd;obtain⟨x,_,_,h3⟩:=Qu (h:=[]) (n:=0) (i:=i) (v:=v) hd hc.1
     have hx:∀h,fZ h (.x u v) x:=fun h=>by
      obtain⟨x',h1,_,h3'⟩:=Qu (h:=h) (n:=0) (i:=i) (v:=v) hd hc.1;have e1:=h3 [] 0;rw[h3' [] 0]at e1;have:x'=x:=by have:=(af e1).1;exact(af (List.cons.inj this).1).2
      rw[<-this];exact h1
     exact data l (.x u v) _ x rfl h3 hx (fun _ _=>trivial) he2
    |[],he|.kb _::_,he|.nl _::_,he|.so _::_,he|.sb _ _ _ _ _::_,he|.op _ _ _::_,he|.ep _ _ _ _::_,he|.pt _ _::_,he|.fn _ _ _::_,he|.om _::_,he|.rc _::_,he|.tp _::_,he|.ni::_,he|.co _ _::_,he|.fl _::_,he|.no::_,he|.gn::_,he=>simp[t6]at he
   |pt t=>match l,he with|.x u v::l,he=>simp only[t6]at he;obtain⟨hd,he2⟩:=aO he;simp only[ak,decide_eq_true_eq]at hd;obtain⟨rfl,hd⟩:=hd;refine data l (.pt u v) (.d (.pt (aS u v))) (.c (.d (.pt (aS u v)))) rfl (fun r k=>by simp only[enter]) (fun h=>cA (eD rfl ⟨hd,rfl⟩)) (fun _ _=>trivial) he2|[],he|.kb _::_,he|.nl _::_,he|.so _::_,he|.sb _ _ _ _ _::_,he|.op _ _ _::_,he|.ep _ _ _ _::_,he|.pt _ _::_,he|.fn _ _ _::_,he|.om _::_,he|.rc _::_,he|.tp _::_,he|.ni::_,he|.co _ _::_,he|.fl _::_,he|.no::_,he|.gn::_,he=>simp[t6]at he
   |nl k=>
    have he:(match t6 ps (i+1) l s with|some (e,s)=>some ((i,V.nl k)::e,s)|none=>none)=some (e,s'):=by cases l<;>exact he
    refine data l (.nl k) (.d (Qk k)) (.c (.d (Qk k))) (by cases l<;>rfl) (fun r k=>by simp only[enter]) (fun h=>cA (eD rfl rfl)) (fun _ _=>trivial) he
   |fn f c2=>
    have he:(match C9 c2 l with|some (w,l)=>(match t6 ps (i+1) l s with|some (e,s)=>some ((i,V.fn true f w)::e,s)|none=>none)|none=>none)=some (e,s'):=by cases l<;>exact he
    split at he
    .rename_i w l2 hw;obtain⟨h2,rfl⟩:=Ii c2 l w l2 hw;refine data _ (.fn true f w) (.d (.fn f (rT c2 l).1)) (.c (.d (.fn f (rT c2 l).1))) (by cases l<;>rfl) (fun r k=>by simp only[enter]) (fun h=>cA (eD rfl ⟨_,h2,rfl⟩)) (fun n h=>?_) he;exact(z_ (h:=h) w (JX h2)).2 n
    .simp at he
   |_=>cases l<;>simp[t6]at he
theorem JD{ps:List (Bool×Sh)}{l:List V}{s:S2}(h:Sm ps l=some s)(hp:BY ps=true):R2 (nP (fw ps l)) s:=by
 unfold Sm at h;split at h
 .rename_i e s1 he;obtain rfl:=aa h;obtain⟨a1,a2,a3,a4,a5,a6,a7,a8⟩:=JE ps 0 l ⟨[],[],0,[],.ni⟩ [] e s1 he hp ⟨fun i o ho=>by simp[fO,cm]at ho⟩ rfl;rw[bv]at a1;exact⟨fun t v ht=>⟨(a5 t v ht).1,fun _=>(a5 t v ht).2⟩,a1,Nat.le_of_eq a6.symm,a7,a8⟩
 .simp at h
end
theorem JF:∀(ps:List (Bool×Sh))(l:List V),(fw ps l).length=ps.length:=by intro ps;induction ps with|nil=>intro l;rfl|cons p ps ih=>obtain⟨b,c⟩:=p;intro l;cases b<;>simp[fw,ih]
theorem MN{P:Program}{bz:ww}{nt:Nat}{an:List (Nat×An)}:∀(c:Code)(n:Nat)(s:St)(Q:qX->St->Prop),W P (erase (qf P bz nt an c n).1) s Q->W P (qk P bz nt c) s Q:=by
 intro c;induction c with
 |skip=>intro n s Q h;exact h
 |exit id=>intro n s Q h;exact h
 |ret=>intro n s Q h;exact h
 |region o ops draw=>
  intro n s Q h;have hm:(ops.toList.map (Ro P bz nt ops)).map (·.o)=ops.toList.map (gK P bz nt ops):=by rw[mh];rfl
  cases draw with
  |false=>simp only[qf,aH,if_false,erase,hm]at h;simpa only[qk,aH,if_false]using h
  |true=>
   simp only[qf,if_true]at h;simp only[qk,if_true,xl];split at h
   .rename_i hc;simp only[erase,hm]at h;rw[if_pos (by simpa using hc)];exact h
   .exact h.elim
 |seq a b iha ihb=>intro n s Q h;simp only[qf,erase]at h;exact iha _ s _ (W.mono (u7.mono (fun s1 h1=>ihb _ s1 Q h1) fun _ _ h=>h) h)
 |cond x a b iha ihb=>intro n s Q h;simp only[qf,erase]at h;obtain⟨s1,h0,t,h1,h2,h3⟩:=h;exact⟨s1,h0,t,h1,fun ht=>iha _ s1 Q (h2 ht),fun ht=>ihb _ s1 Q (h3 ht)⟩
 |block id a ih=>intro n s Q h;simp only[qf,erase]at h;exact ih _ s _ h
 |loop a ih=>
  intro n s Q h;simp only[qf]at h;split at h
  .simp only[erase]at h;obtain⟨I,m,h1,h2⟩:=h;exact⟨I,m,h1,fun k s1 hI=>ih _ s1 _ (h2 k s1 hI)⟩
  .exact h.elim
 |scope a ih=>intro n s Q h;exact ih _ s Q h
 |label l=>intro n s Q h;exact h
 |_=>intro n s Q h;exact h.elim
theorem GC{P:Program}{bz:ww}{f np:Nat}{an:List (Nat×An)}{F:F2}(h:Br P bz f np an=some F):∃G,o_ P bz f np=some G/\G.np=np/\G.kW=F.kW/\∀s Q,W P (erase F.body) s Q->W P G.body s Q:=by
 unfold Br at h;split at h
 .simp at h
 rename_i g hg;split at h
 .simp at h
 rename_i code hb;split at h
 case isFalse=>simp at h
 rename_i hc;split at h
 case h_2=>simp at h
 rename_i kW hrv;obtain rfl:=aa h;unfold o_;simp only[hg,hb,hrv];rw[if_pos (by simpa using hc)];exact⟨_,rfl,rfl,rfl,fun s Q hw=>MN code 0 s Q hw⟩
theorem QM{kW:List RV}:∀(al:Wy)(z:wv al),∃r o l,(r,o)∈al/\(∀s,O8 kW s al=some z->Ju kW r o s=some l)/\∀Q:List Sh->List Sh->List V->Prop,Q r o l->NC Q al z:=by
 have key:∀(w:Wy)(r o:List Sh)(z:wv.GU r o w),∃r' o' l,(r',o')∈(r,o)::w/\(∀s,Jv kW s r o w=some z->Ju kW r' o' s=some l)/\∀Q:List Sh->List Sh->List V->Prop,Q r' o' l->NB Q r o w z:=by
  intro w;induction w with
  |nil=>
   intro r o z;refine⟨r,o,iB (ff r++ff o) z,by simp,fun s hz=>?_,fun Q hQ=>hQ⟩;simp only[Jv]at hz;split at hz
   .rename_i l hl;rw[qt _ _ _ hz];exact hl
   .simp at hz
  |cons p w ih=>
   obtain⟨r',o'⟩:=p;intro r o z;cases z with
   |inl y=>
    refine⟨r,o,iB (ff r++ff o) y,by simp,fun s hz=>?_,fun Q hQ=>hQ⟩;simp only[Jv]at hz;split at hz
    .rename_i l hl;split at hz
     .rename_i y2 hy;have e:y2=y:=by have:=aa hz;cases this;rfl
      subst e;rw[qt _ _ _ hy];exact hl
     .simp at hz
    .split at hz
     .have:=aa hz;cases this
     .simp at hz
   |inr y=>
    obtain⟨r2,o2,l,h1,h2,h3⟩:=ih r' o' y;refine⟨r2,o2,l,aF _ h1,fun s hz=>?_,fun Q hQ=>h3 Q hQ⟩;simp only[Jv]at hz;split at hz
    .split at hz
     .have:=aa hz;cases this
     .simp at hz
    .split at hz
     .rename_i y2 hy;have e:y2=y:=by have:=aa hz;cases this;rfl
      subst e;exact h2 s hy
     .simp at hz
 intro al z;cases al with|nil=>exact nomatch z|cons p w=>exact key w p.1 p.2 z
theorem Mq{P:Program}(hm:P.follows .mixedOrders=true){bz:ww}{f np:Nat}{an:List (Nat×An)}{F:F2}{tb:E6}(htb:qj P tb)(hg:mJ)(hF:Br P bz f np an=some F){ps:List (Bool×Sh)}{al:Wy}(hnp:ps.length=np)(hps:BY ps=true)(hal:Vw al=true)
  {p:rp (ff (ps.map (·.2)))} {z:wv al} (hz:Vz tb (some F) ps al p=some z):
  NC (fun rs os l=>yf P f (fw ps (iB (ff (ps.map (·.2))) p)) (jz rs (l.take (ff rs).length)) (lk os (l.drop (ff rs).length))) al z:=by
 obtain⟨G,hG,hGn,hGr,hGb⟩:=GC hF;simp only[Vz]at hz;split at hz
 case h_2=>simp at hz
 rename_i s hs;have hr:=JD hs hps
 -- the ways that the run may end in
 have hend:∀o s1',Tl (nv F.body) (nP (fw ps (iB _ p))) s (fun o s=>match o with|.exit _=>none|_=>O8 F.kW s al) z o s1'->wk (fun s1''=>∃s',R2 s1'' s'/\s1''.gh.length=(nP (fw ps (iB _ p))).gh.length/\(∀i,o≠.exit i)/\O8 F.kW s' al=some z) s1':=by
  intro o s1' h;refine wk.mono h fun s1''⟨s',h1,⟨w,h2,h3⟩,h4⟩=>⟨s',h1,h3.gl,fun i e=>?_,?_⟩
  .subst e;simp at h4
  .cases o with|exit i=>simp at h4|_=>exact h4
 have hW:=W.mono hend (Jy htb hg F.body _ s _ z hz hr);obtain⟨r,o,l,h1,h2,h3⟩:=QM (kW:=F.kW) al z;refine h3 _ (wh hm hG (m:=r.map HL) ⟨?_,hGb _ _ (W.mono (fun oA s1' h=>?_) hW)⟩)
 .rw [JF,hnp,hGn]
 .have hf:=a_.1 hal (r,o) h1;simp only[ak]at hf;have fin:wk (fun s=>s.gh.length=(nP (fw ps (iB (ff (ps.map (·.2))) p))).gh.length/\∃rs0,rt G.kW s rs0 (lk o (l.drop (ff r).length))/\qO (r.map HL) rs0=jz r (l.take (ff r).length)) s1':=by refine wk.mono h fun s1''⟨s',k1,k2,_,k4⟩=>⟨k2,?_⟩;rw[hGr];exact Jt hg k1 (h2 s' k4) hf.1 hf.2
  cases oA with|normal=>exact fin|ret=>exact fin|exit i=>obtain⟨_,_,_,_,_,k,_⟩:=h;exact absurd rfl (k i)
theorem aV{P:Program}(hm:P.follows .mixedOrders=true)(hg:mJ){bz:ww}{f np:Nat}{an:List (Nat×An)}{tb:E6}(htb:qj P tb){sp:fJ}
  (h1:(Nz sp&&mP sp.ps.length np&&Vw sp.al)=true) (h3:(fun p=>Vz tb (Br P bz f np an) sp.ps sp.al p)=sp.fn):bf P f sp:=by
 simp only[ak]at h1;obtain⟨⟨h4,h5⟩,h6⟩:=h1;refine⟨h4,fun p z hz=>?_⟩;have hp:BY sp.ps=true:=by simp only[Nz,ak]at h4;exact h4.1.1.2
 rw[<-h3]at hz;have hz:Vz tb (Br P bz f np an) sp.ps sp.al p=some z:=hz;cases hF:Br P bz f np an with|none=>rw[hF]at hz;simp[Vz]at hz|some F=>rw[hF]at hz;exact Mq hm htb hg hF (dQ h5) hp h6 hz
theorem R5(h:∀g,R6 g=none):mJ:=fun g v hg=>by rw[h g]at hg;simp at hg
theorem iu{P:Program}{ops:List mO}{Q:qX->St->Prop}:∀{s s':St},rQ dF ops s=some s'->Q .normal s'->W P (.region ops []) s Q:=by
 have key:∀(ops:List mO)(s s':St)(R:St->Prop),rQ dF ops s=some s'->R s'->WO P ops s R:=by
  intro ops;induction ops with
  |nil=>intro s s' R h hq;obtain rfl:=aa h;exact wk.of hq
  |cons o r ih=>
   intro s s' R h hq;simp only[rQ]at h;refine⟨s,Sub.refl s,?_⟩;split at h
   .rename_i hw;split at h
    .rename_i v u az n hv;exact .inl ⟨hw,dF,v,u,az,n,lV,hv,ih _ _ _ h hq⟩
    .simp at h
   .rename_i hw;exact .inr ⟨hw,ih _ _ _ h hq⟩
   .simp at h
 intro s s' h hq;exact key ops s s' _ h (wk.of hq)
theorem Km{P:Program}{ops:List mO}{Q:qX->St->Prop}{s:St}{e:iL}{h:bC}{tr:List (List Nat×List Nat)}(hv:jH (fun _=>dF) s.next ops 0 s.dE s.heap=some (e,h,tr))(hq:Q .normal ⟨e,h,s.next+aD*ops.length,s.gh⟩):W P (.drawn ops [] []) s Q:=⟨s,Sub.refl s,fun _=>dF,e,h,tr,fun _=>lV,hv,rfl,wk.of hq⟩
abbrev iN(d t:Nat):mO:=⟨some d,.mv,[.tmp t],none⟩
def Cy(sz:Nat)(z:List Value):CC:=
 .seq (.region [⟨some 6,.mv,[.const (.slice none 0 0)],none⟩] [])
 (.seq (.region [iN 8 0,iN 9 1,iN 10 2,iN 11 0,⟨some 12,.len false,[.tmp 11],none⟩,⟨some 13,.wK sz,[.tmp 8,.tmp 9,.tmp 10,.tmp 12],none⟩] [])
 (.seq (.seq (.region [iN 14 1,iN 15 2,⟨some 16,.th .eql,[.tmp 14,.tmp 15],none⟩] []) (.cond (.tmp 16) (.seq (.region [iN 17 0,iN 6 17] []) .ret) .skip))
 (.seq (.region [iN 18 0,⟨some 19,.len false,[.tmp 18],none⟩,iN 7 19] [])
 (.seq (.drawn [iN 20 0,iN 21 1,⟨some 22,.slice false sz false true,[.tmp 20,.tmp 21],none⟩,iN 23 0,iN 24 2,⟨some 25,.slice false sz true false,[.tmp 23,.tmp 24],none⟩,⟨some 26,.append sz,[.tmp 22,.tmp 25],none⟩,iN 0 26] [] [])
 (.seq (.region [iN 27 0,iN 28 0,⟨some 29,.len false,[.tmp 28],none⟩,iN 30 7,⟨some 31,.slice false sz true true,[.tmp 27,.tmp 29,.tmp 30],none⟩,⟨none,.clear z,[.tmp 31],none⟩] [])
 (.seq (.region [iN 32 0,iN 6 32] []) .ret))))))
section
variable{P:Program}{sz:Nat}{z:List Value}{rows:List (List D)}{i j:Int}
abbrev dA(sz:Nat)(rows:List (List D)):TV:=.c (.cE sz 0 0 rows.length)
abbrev qe(i:Int):TV:=lv (.int .i64 i)
abbrev Zk(sz:Nat)(rows:List (List D))(i j:Int):iL:=[(0,dA sz rows),(1,qe i),(2,qe j)]
abbrev SC:TV:=.c (.d (.lit (.slice none 0 0)))
abbrev YQ(sz:Nat)(rows:List (List D))(i j:Int):iL:=(6,SC)::Zk sz rows i j
abbrev Zj(sz:Nat)(rows:List (List D))(i j:Int):iL:=(13,.c (.cE sz 1 0 (j.toNat-i.toNat)))::(12,qe rows.length)::(11,dA sz rows)::(10,qe j)::(9,qe i)::(8,dA sz rows)::YQ sz rows i j
abbrev YP(sz:Nat)(rows:List (List D))(i j:Int):iL:=(16,lv (.bool (i==j)))::(15,qe j)::(14,qe i)::Zj sz rows i j
abbrev YO(sz:Nat)(rows:List (List D))(i j:Int):iL:=(7,qe rows.length)::(19,qe rows.length)::(18,dA sz rows)::YP sz rows i j
abbrev dN:Nat:=2+aD*6
abbrev Pu(sz:Nat)(rows:List (List D))(i j:Int):TV:=.c (.cE sz dN 0 (i.toNat+(rows.length-j.toNat)))
abbrev Zi(sz:Nat)(rows:List (List D))(i j:Int):iL:=(0,Pu sz rows i j)::(26,Pu sz rows i j)::(25,.c (.cE sz 0 j.toNat (rows.length-j.toNat)))::(24,qe j)::(23,dA sz rows)::(22,.c (.cE sz 0 0 i.toNat))::(21,qe i)::(20,dA sz rows)::YO sz rows i j
abbrev dR(rows:List (List D))(i j:Int):List (List D):=rows.take i.toNat++rows.drop j.toNat
abbrev Pt(sz:Nat)(rows:List (List D))(i j:Int):bC:=[(0,none),(dN,some (.aK sz (dR rows i j++rows.drop (i.toNat+(rows.length-j.toNat))))),(0,some (.aK sz rows))]
abbrev dG(sz:Nat)(rows:List (List D)):List C:=[.cE sz 0 0 rows.length]
theorem ig{o:mO}{r:List mO}{s:St}{v:TV}{u:eS}{az:List Nat}{n:Nat}{X:Option St}(hw:j8 s.dE o.guard=some true)(hv:cC dF o.k (o.args.map (ke s.dE)) s.heap s.next=some (v,u,az,n))
  (hr:rQ dF r ⟨put s.dE o.dst v,u++s.heap,n,s.gh⟩=X):rQ dF (o::r) s=X:=by
 simp only[rQ,hw,hv];exact hr
theorem xI{o:mO}{r:List mO}{b i:Nat}{e e':iL}{h h':bC}{v:TV}{u:eS}{az:List Nat}{n:Nat}{tr:List (List Nat×List Nat)}(hw:j8 e o.guard=some true)(hv:cC dF o.k (o.args.map (ke e)) h (b+aD*i)=some (v,u,az,n))(hn:n<=b+aD*(i+1))
  (hr:jH (fun _=>dF) b r (i+1) (put e o.dst v) (u++h)=some (e',h',tr)):jH (fun _=>dF) b (o::r) i e h=some (e',h',(az,u.map (·.1))::tr):=by
 simp only[jH,hw,hv,if_pos hn,hr]
theorem lN:((0:Nat)==dN)=false:=by decide
theorem lr(b i:Nat):b+aD*i<=b+aD*(i+1):=by simp only[aD];omega
theorem Sy(h0:0<=i)(h1:i<=j)(h2:j<=rows.length):rQ dF [iN 8 0,iN 9 1,iN 10 2,iN 11 0,⟨some 12,.len false,[.tmp 11],none⟩,⟨some 13,.wK sz,[.tmp 8,.tmp 9,.tmp 10,.tmp 12],none⟩] ⟨YQ sz rows i j,[(0,some (.aK sz rows))],1,dG sz rows⟩=
  some ⟨Zj sz rows i j,[(0,some (.aK sz rows))],2,dG sz rows⟩:=by
 have e3:Bh sz (.cE sz 0 0 rows.length) i j rows.length 1=some (.cE sz 1 0 (j.toNat-i.toNat)):=by simp only[Bh];rw[if_pos ⟨trivial,h0,h1,h2,jR _⟩]
 refine ig rfl rfl (ig rfl rfl (ig rfl rfl (ig rfl rfl (ig rfl rfl (ig rfl (v:=.c (.cE sz 1 0 (j.toNat-i.toNat))) (u:=[]) (az:=[]) (n:=2) ?_ rfl)))));show(match Bh sz (.cE sz 0 0 rows.length) i j rows.length 1 with|some y=>some (TV.c y,([]:eS),([]:List Nat),2)|none=>none)=_;rw[e3]
theorem Sx(h0:0<=i)(h1:i<=j)(h2:j<=rows.length)(h3:rows.length<=te):∃tr,jH (fun _=>dF) 2 [iN 20 0,iN 21 1,⟨some 22,.slice false sz false true,[.tmp 20,.tmp 21],none⟩,iN 23 0,iN 24 2,⟨some 25,.slice false sz true false,[.tmp 23,.tmp 24],none⟩,⟨some 26,.append sz,[.tmp 22,.tmp 25],none⟩,iN 0 26] 0 (YO sz rows i j) [(0,some (.aK sz rows))]=
  some (Zi sz rows i j,Pt sz rows i j,tr):=by
 have e1:i<=(rows.length:Int):=by omega
 have e2:0<=j:=by omega
 have e3:j.toNat+(rows.length-j.toNat)<=rows.length:=by omega
 have e4:0+i.toNat<=rows.length:=by omega
 have e5:i.toNat+(rows.length-j.toNat)<=te:=by omega
 have e6:(rows.drop j.toNat).take (rows.length-j.toNat)=rows.drop j.toNat:=bX (by simp);have er:gF sz [(0,some (.aK sz rows))] (.cE sz 0 j.toNat (rows.length-j.toNat))=some (rows.drop j.toNat,[0]):=by have hl:aw [(0,some (Ob.aK sz rows))] 0=some (.aK sz rows):=rfl;simp only[gF,hl];rw[if_pos ⟨trivial,e3⟩,e6]
 have ea:jI sz (.cE sz 0 0 i.toNat) (.cE sz 0 j.toNat (rows.length-j.toNat)) [(0,some (.aK sz rows))] dN=some (Pu sz rows i j,[(0,none),(dN,some (.aK sz (dR rows i j++rows.drop (i.toNat+(rows.length-j.toNat)))))],[0,0],dN+1):=by have hl:aw [(0,some (Ob.aK sz rows))] 0=some (.aK sz rows):=rfl;have hd:(rows.drop j.toNat).length=rows.length-j.toNat:=fr;simp only[jI,er,hl,hd];rw[if_pos ⟨trivial,e4,e5⟩,cL,bG]
 have s1:cZ false sz (.cE sz 0 0 rows.length) none (some i)=some (.cE sz 0 0 i.toNat):=by simp only[cZ,aH,if_false,bF,jh];rw[if_pos ⟨trivial,jR _,h0,e1⟩];rfl
 have s2:cZ false sz (.cE sz 0 0 rows.length) (some j) none=some (.cE sz 0 j.toNat (rows.length-j.toNat)):=by simp only[cZ,aH,if_false,bF,jh];rw[if_pos ⟨trivial,e2,h2,jR _⟩,bG];rfl
 refine⟨_,xI rfl rfl (lr _ _) (xI rfl rfl (lr _ _) (xI rfl (v:=.c (.cE sz 0 0 i.toNat)) (u:=[]) (az:=[]) (n:=2+aD*2) ?_ (lr _ _) (xI rfl rfl (lr _ _) (xI rfl rfl (lr _ _) (xI rfl (v:=.c (.cE sz 0 j.toNat (rows.length-j.toNat))) (u:=[]) (az:=[]) (n:=2+aD*5) ?_ (lr _ _) (xI rfl (v:=Pu sz rows i j) (u:=[(0,none),(dN,some (.aK sz (dR rows i j++rows.drop (i.toNat+(rows.length-j.toNat)))))]) (az:=[0,0]) (n:=dN+1) ea ?_ (xI rfl rfl (lr _ _) rfl)))))))⟩
 .show (match cZ false sz (.cE sz 0 0 rows.length) none (some i)with|some y=>some (TV.c y,([]:eS),([]:List Nat),2+aD*2)|none=>(match jX false sz (.cE sz 0 0 rows.length) 0 i [(0,some (Ob.aK sz rows))]with|some (y,az)=>some (TV.c y,([]:eS),az,2+aD*2)|none=>none))=_;rw[s1]
 .show (match cZ false sz (.cE sz 0 0 rows.length) (some j) none with|some y=>some (TV.c y,([]:eS),([]:List Nat),2+aD*5)|none=>none)=_;rw[s2]
 .simp only[dN,aD];omega
theorem Sv(h0:0<=i)(h1:i<j)(h2:j<=rows.length)(hz:z.length=sz):∃rows' e,rQ dF [iN 27 0,iN 28 0,⟨some 29,.len false,[.tmp 28],none⟩,iN 30 7,⟨some 31,.slice false sz true true,[.tmp 27,.tmp 29,.tmp 30],none⟩,⟨none,.clear z,[.tmp 31],none⟩] ⟨Zi sz rows i j,Pt sz rows i j,2+aD*8,dG sz rows⟩=
  some ⟨e,(dN,some (.aK sz (dR rows i j++rows')))::Pt sz rows i j,2+aD*8,dG sz rows⟩/\cm e 0=some (Pu sz rows i j):=by
 have e1:i.toNat+(rows.length-j.toNat)<rows.length:=by omega
 have hl:(dR rows i j).length=i.toNat+(rows.length-j.toNat):=by simp;omega
 have hl2:(dR rows i j++rows.drop (i.toNat+(rows.length-j.toNat))).length=rows.length:=by rw[bi,hl,fr];omega
 have hlk:aw (Pt sz rows i j) dN=some (.aK sz (dR rows i j++rows.drop (i.toNat+(rows.length-j.toNat)))):=by simp only[aw,cm,lN,cond_false,beq_self_eq_true,cond_true];rfl
 generalize hk:i.toNat+(rows.length-j.toNat)=k at*;have s1:cZ false sz (.cE sz dN 0 k) (some (k:Int)) (some (rows.length:Int))=none:=by simp only[cZ,aH,if_false,bF];rw[if_neg (by omega)]
 have s2:jX false sz (.cE sz dN 0 k) (k:Int) (rows.length:Int) (Pt sz rows i j)=some (.cE sz dN k (rows.length-k),[dN]):=by simp only[jX,hlk];rw[if_pos ⟨trivial,by omega,by omega,by rw[hl2];simp⟩];simp
 have s3:mM z (.cE sz dN k (rows.length-k)) (Pt sz rows i j)=some ([(dN,some (.aK sz (dR rows i j++aA (rows.length-k) (dn z))))],[dN]):=by simp only[mM,hlk];rw[if_pos ⟨hz.symm,by rw[hl2];omega⟩];simp only[aX];rw[List.take_left' hl,fW (by rw[hl2];simp;omega),bv]
 refine⟨aA (rows.length-k) (dn z),_,ig rfl rfl (ig rfl rfl (ig rfl (v:=qe (k:Int)) (u:=[]) (az:=[]) (n:=2+aD*8) ?_ (ig rfl rfl (ig rfl (v:=.c (.cE sz dN k (rows.length-k))) (u:=[]) (az:=[dN]) (n:=2+aD*8) ?_ (ig rfl (v:=.ia []) (u:=[(dN,some (.aK sz (dR rows i j++aA (rows.length-k) (dn z))))]) (az:=[dN]) (n:=2+aD*8) ?_ rfl))))),?_⟩
 .show some (lv (.int .i64 ((i.toNat+(rows.length-j.toNat):Nat):Int)),([]:eS),([]:List Nat),2+aD*8)=_;rw[hk]
 .show (match cZ false sz (.cE sz dN 0 (i.toNat+(rows.length-j.toNat))) (some (k:Int)) (some (rows.length:Int))with
   |some y=>some (TV.c y,([]:eS),([]:List Nat),2+aD*8)
   |none=>(match jX false sz (.cE sz dN 0 (i.toNat+(rows.length-j.toNat))) (k:Int) (rows.length:Int) (Pt sz rows i j)with|some (y,az)=>some (TV.c y,([]:eS),az,2+aD*8)|none=>none))=_
  rw[hk,s1];simp only[s2]
 .show (match mM z (.cE sz dN k (rows.length-k)) (Pt sz rows i j)with|some (u,az)=>some (TV.ia [],u,az,2+aD*8)|none=>none)=_;rw[s3]
 .rfl
theorem Bp{e:iL}{h:bC}{N n k:Nat}{rs:List (List D)}{ob:List (List D)}{g:C}(ht:cm e 6=some (.c (.cE sz N 0 k)))(hl:aw h N=some (.aK sz ob))(hk:k<=ob.length)(hr:ob.take k=rs):
  wk (fun s=>s.gh.length=1/\∃rs0,rt [.tmp 6] s rs0 [.eH]/\qO [] rs0=[.c (.sl sz rs)]) ⟨e,h,n,[g]⟩:=by
 have hp:dU h 300 (.cE sz N 0 k)=some (.sl sz rs,[N],[N]):=by simp only[dU,hl];rw[if_pos (by omega),cL,hr]
 refine wk.of ⟨rfl,[.c (.sl sz rs)],⟨[.c (.cE sz N 0 k)],[N],[],?_,?_,.eH .nil,?_⟩,rfl⟩
 .simp only[aq,aW,tM,ht,dY]
 .simp only[ri,qH,hp];rfl
 .simp
theorem MB{bz:ww}{f nt:Nat}(hm:P.follows .mixedOrders=true)(hF:o_ P bz f 3=some ⟨3,nt,[.tmp 6],Cy sz z⟩)(hz:z.length=sz)(h0:0<=i)(h1:i<=j)(h2:j<=rows.length)(h3:rows.length<=te):
  yf P f [.mt (.sl sz rows),.d (.lit (.int .i64 i)),.d (.lit (.int .i64 j))] [.c (.sl sz (rows.take i.toNat++rows.drop j.toNat))] [.eH]:=by
 refine wh hm hF (m:=[]) ⟨rfl,?_⟩;show W P (Cy sz z) ⟨Zk sz rows i j,[(0,some (.aK sz rows))],1,dG sz rows⟩ (rq [.tmp 6] [] 1 [.c (.sl sz (rows.take i.toNat++rows.drop j.toNat))] [.eH]);refine fE (iu (s':=⟨YQ sz rows i j,[(0,some (.aK sz rows))],1,dG sz rows⟩) rfl ?_);refine fE (iu (Sy h0 h1 h2) ?_);refine fE (fE (iu (s':=⟨YP sz rows i j,[(0,some (.aK sz rows))],2,dG sz rows⟩) rfl ?_));refine yz (t:=(i==j)) rfl (fun he=>?_) fun he=>?_
 .obtain rfl:i=j:=by simpa using he
  refine fE (iu (s':=⟨(6,dA sz rows)::(17,dA sz rows)::YP sz rows i i,[(0,some (.aK sz rows))],2,dG sz rows⟩) rfl ?_);refine AM (P:=P) ?_;show wk _ _;exact Bp (N:=0) rfl rfl (am _) (by rw[List.take_length,List.take_append_drop])
 .have hne:i≠j:=by simpa using he
  have h1':i<j:=by omega
  refine wA (P:=P) ?_;show W P _ _ _;refine fE (iu (s':=⟨YO sz rows i j,[(0,some (.aK sz rows))],2,dG sz rows⟩) rfl ?_);obtain⟨tr,h5⟩:=Sx (sz:=sz) h0 h1 h2 h3;refine fE (Km h5 ?_);obtain⟨rows',e,h6,h7⟩:=Sv (z:=z) h0 h1' h2 hz;refine fE (iu h6 ?_);refine fE (iu (s':=⟨(6,Pu sz rows i j)::(32,Pu sz rows i j)::e,(dN,some (.aK sz (dR rows i j++rows')))::Pt sz rows i j,2+aD*8,dG sz rows⟩) ?_ ?_)
  .have e1:ke e (.tmp 0)=some (Pu sz rows i j):=h7;refine ig rfl (v:=Pu sz rows i j) (u:=[]) (az:=[]) (n:=2+aD*8) ?_ (ig rfl rfl rfl);simp only[aq,aW,e1];rfl
  .refine AM (P:=P) ?_;show wk _ _;have hl:(dR rows i j).length=i.toNat+(rows.length-j.toNat):=by simp;omega
   exact Bp (N:=dN) (k:=i.toNat+(rows.length-j.toNat)) (ob:=dR rows i j++rows') rfl (by simp only[aw,cm,beq_self_eq_true,cond_true];rfl) (by rw[bi,hl];omega) (List.take_left' hl)
end
def Gx{α:Type}(s:Sl α)(i j:Int):Option (Sl α):=match s with|.mk l=>bif decide (0<=i)&&decide (i<=j)&&decide (j<=(l.length:Int))&&g_ l.length 2147483648 then some (.mk (l.take i.toNat++l.drop j.toNat))else none|.nil=>none
def MC(t:Ty):fJ:=⟨[(true,.os t),(false,.x (.i .i64)),(false,.x (.i .i64))],[([.os t],[.gn])],false,[true,false,false],fun p=>match p with|(s,i,j)=>Gx s i j⟩
theorem Sz{P:Program}{bz:ww}{f nt:Nat}(hm:P.follows .mixedOrders=true){t:Ty}{z:List Value}(hF:o_ P bz f 3=some ⟨3,nt,[.tmp 6],Cy (ce t) z⟩)(hz:z.length=ce t):bf P f (MC t):=by refine⟨rfl,fun p r hr=>?_⟩;obtain⟨s,i,j⟩:=p;have hr:Gx s i j=some r:=hr;cases s with|nil=>simp[Gx]at hr|mk l=>simp only[Gx]at hr;obtain⟨hc,hr⟩:=aO hr;simp only[ak,decide_eq_true_eq]at hc;obtain⟨⟨⟨h0,h1⟩,h2⟩,h3⟩:=hc;obtain rfl:=aa hr;have h3:=gj h3;have hg:=MB (rows:=l.map (aS t)) hm hF hz h0 h1 (by simpa using h2) (by simpa[te]using h3);rw[<-List.map_take,<-List.map_drop,<-List.map_append]at hg;exact hg
theorem Pg{s:St}{Q:St->Prop}{t id sz len szo:Nat}{rows:List (List D)}(ht:cm s.dE t=some (.c (.cE sz id 0 len)))(hl:aw s.heap id=some (.aK szo rows))
  (h:∀c,rows.length<=c->len<=c->Q ⟨s.dE,(id,some (.cap szo rows c))::s.heap,s.next,s.gh⟩):Zp s Q:=by
 intro S K w0 Kn φ gv nt a w hR;obtain⟨hk0,h0⟩:=hR.inv.iM _ _ hl;have hv:=hR.dE _ _ ht;generalize a.tmps.getD t undef=v at hv;cases hv with
 |c hv=>
 obtain⟨cap,addr,rfl,hsz1,hk,hcap,haddr,hext,hcl⟩:=hv.j_;cases h0 with
 |@aK _ _ aK hsz hl1 hS hK hown hext1 hfit hrr hvis=>
 refine⟨_,h (φ id).cap hvis (by omega),⟨?_,hR.dE,hR.size,hR.defers,hR.gx,hR.gh⟩⟩
 have hset:=hR.inv.set (w':=w) (o':=.cap szo rows (φ id).cap) hl rfl (fun _ _=>rfl) rfl (fun _=>rfl) (fun arr1 h1=>⟨arr1,h1,rfl⟩) (Io.refl w) (fun _=>by
  refine .cap hsz hl1 hS hK hown hext1 ?_ hrr hvis rfl;rw[bG]at hcl;rcases Nat.eq_zero_or_pos cap with hz|hz
  .rw [<-hcl,hz,ir];omega
  .have ha:=haddr hz;rw[ir]at ha;rw[<-hcl,<-hl1];omega)
 have e:aw ((id,some (.cap szo rows (φ id).cap))::s.heap)=bq [(id,some (.cap szo rows (φ id).cap))] (aw s.heap):=gb [(id,some (.cap szo rows (φ id).cap))] s.heap;show Inv S K w0 Kn φ (aw ((id,some (.cap szo rows (φ id).cap))::s.heap)) w;rw[e];exact hset.2
theorem Ha{s:St}{id szo c:Nat}{rows:List (List D)}(hl:aw s.heap id=some (.cap szo rows c)):Sub s ⟨s.dE,(id,some (.aK szo rows))::s.heap,s.next,s.gh⟩:=by
 intro S K w0 Kn φ gv nt a w hR;refine⟨S,Kn,φ,gZ.refl S w,⟨?_,hR.dE,hR.size,hR.defers,hR.gx,hR.gh⟩⟩;obtain⟨hk0,h0⟩:=hR.inv.iM _ _ hl;cases h0 with
 |@cap _ _ _ aK hsz hl1 hS hK hown hext hfit hrr hvis hc=>
 have hset:=hR.inv.set (w':=w) (o':=.aK szo rows) hl rfl (fun _ _=>rfl) rfl (fun _=>rfl) (fun arr1 h1=>⟨arr1,h1,rfl⟩) (Io.refl w) (fun _=>by refine .aK hsz hl1 hS hK hown hext ?_ hrr (by omega);have:=aL szo hvis;omega);have e:aw ((id,some (.aK szo rows))::s.heap)=bq [(id,some (.aK szo rows))] (aw s.heap):=gb [(id,some (.aK szo rows))] s.heap;show Inv S K w0 Kn φ (aw ((id,some (.aK szo rows))::s.heap)) w;rw[e];exact hset.2
section
variable{H:bC}{nx:Nat}
theorem xe{a b r:Int}(h:IntKind.i64.wrap (a+b)=r):cC dF (.th .add) [some (qe a),some (qe b)] H nx=some (qe r,[],[],nx):=by subst h;rfl
theorem Sd{a b r:Int}(h:IntKind.i64.wrap (a-b)=r):cC dF (.th .sub) [some (qe a),some (qe b)] H nx=some (qe r,[],[],nx):=by subst h;rfl
theorem pE{sz id off len:Nat}{l:Int}(h0:0<=l)(h1:l<=len):cC dF (.slice false sz true false) [some (.c (.cE sz id off len)),some (qe l)] H nx=some (.c (.cE sz id (off+l.toNat) (len-l.toNat)),[],[],nx):=by
 show(match cZ false sz (.cE sz id off len) (some l) none with|some y=>some (TV.c y,([]:eS),([]:List Nat),nx)|none=>none)=_;have:cZ false sz (.cE sz id off len) (some l) none=some (.cE sz id (off+l.toNat) (len-l.toNat)):=by simp only[cZ,aH,if_false,bF,jh];rw[if_pos ⟨trivial,h0,h1,jR _⟩];rfl
 rw[this]
theorem O9{sz id off len:Nat}{u:Int}(h0:0<=u)(h1:u<=len):cC dF (.slice false sz false true) [some (.c (.cE sz id off len)),some (qe u)] H nx=some (.c (.cE sz id off u.toNat),[],[],nx):=by
 show(match cZ false sz (.cE sz id off len) none (some u)with|some y=>some (TV.c y,([]:eS),([]:List Nat),nx)|none=>(match jX false sz (.cE sz id off len) 0 u H with|some (y,az)=>some (TV.c y,([]:eS),az,nx)|none=>none))=_;have:cZ false sz (.cE sz id off len) none (some u)=some (.cE sz id off u.toNat):=by simp only[cZ,aH,if_false,bF,jh];rw[if_pos ⟨trivial,jR _,h0,h1⟩];rfl
 rw[this]
theorem Jx{sz id off len szo c:Nat}{rows:List (List D)}{u:Int}(h0:(len:Int)<u)(hl:aw H id=some (.cap szo rows c))(h1:off+u.toNat<=c):cC dF (.slice false sz false true) [some (.c (.cE sz id off len)),some (qe u)] H nx=some (.c (.cE sz id off u.toNat),[],[id],nx):=by
 show(match cZ false sz (.cE sz id off len) none (some u)with|some y=>some (TV.c y,([]:eS),([]:List Nat),nx)|none=>(match jX false sz (.cE sz id off len) 0 u H with|some (y,az)=>some (TV.c y,([]:eS),az,nx)|none=>none))=_;have e1:cZ false sz (.cE sz id off len) none (some u)=none:=by simp only[cZ,aH,if_false,bF,jh];rw[if_neg (by omega)]
 have e2:jX false sz (.cE sz id off len) 0 u H=some (.cE sz id off u.toNat,[id]):=by simp only[jX,hl];rw[if_pos ⟨trivial,jR _,by omega,h1⟩];rfl
 rw[e1];simp only[e2]
theorem Pb{sz id off len szo c:Nat}{rows:List (List D)}(hl:aw H id=some (.cap szo rows c)):cC dF .GJ [some (.c (.cE sz id off len))] H nx=some (qe (c-off:Nat),[],[id],nx):=by show(match wi (.cE sz id off len) H with|some (n,az)=>some (lv (.int .i64 n),([]:eS),az,nx)|none=>none)=_;simp only[wi,hl]
theorem Pc{z:List Value}{id off len szo c:Nat}{rows:List (List D)}{k:Int}(hl:aw H id=some (.cap szo rows c))(h0:0<=k)(h1:len+k.toNat<=te)(h2:off+len<=rows.length)(h3:c<off+len+k.toNat):
  cC dF (.SX z) [some (.c (.cE z.length id off len)),some (qe k)] H nx=some (.c (.cE z.length nx 0 (len+k.toNat)),[(nx,some (.aK z.length ((rows.drop off).take len++aA k.toNat (dn z))))],[id],nx+1):=by
 show xJ z (.cE z.length id off len) k H nx=_;simp only[xJ,hl];rw[if_pos ⟨trivial,h0,h1,h2,h3⟩]
theorem O_{sz1 a o1 l1 sz2 b o2 l2 s1 s2 c:Nat}{r1 r2:List (List D)}(ha:aw H a=some (.aK s1 r1))(hb:aw H b=some (.cap s2 r2 c))(hn:a≠b)(hc:0<c):
  cC dF .Q9 [some (.c (.cE sz1 a o1 l1)),some (.c (.cE sz2 b o2 l2))] H nx=some (lv (.bool false),[],[a,b],nx):=by
 show(match ZQ (.cE sz1 a o1 l1) (.cE sz2 b o2 l2) H with|some az=>some (lv (.bool false),([]:eS),az,nx)|none=>none)=_;have:ZQ (.cE sz1 a o1 l1) (.cE sz2 b o2 l2) H=some [a,b]:=by simp only[ZQ,ha,hb];rw[if_pos ⟨hn,hc⟩]
 rw[this]
theorem Ey{sz a o1 l1 b o2 l2 s1 s2:Nat}{r1 r2:List (List D)}(ha:aw H a=some (.aK s1 r1))(hb:aw H b=some (.aK s2 r2))(h1:o1+l1<=r1.length)(h2:o2+l2<=r2.length):
  ∃k:Int,cC dF (.copy sz) [some (.c (.cE sz a o1 l1)),some (.c (.cE sz b o2 l2))] H nx=some (lv (.int .i64 k),[(a,some (.aK sz (aX r1 o1 (((r2.drop o2).take l2).take l1))))],[a,b],nx):=by
 refine⟨(min ((r2.drop o2).take l2).length l1:Nat),?_⟩;show(match jY sz (.cE sz a o1 l1) (.cE sz b o2 l2) H with|some (i,u,az)=>some (lv (.int .i64 i),u,az,nx)|none=>(match lj sz (.cE sz a o1 l1) (.cE sz b o2 l2) H with|some (i,u,az)=>some (lv (.int .i64 i),u,az,nx)|none=>none))=_
 have:jY sz (.cE sz a o1 l1) (.cE sz b o2 l2) H=some (((min ((r2.drop o2).take l2).length l1:Nat):Int),[(a,some (.aK sz (aX r1 o1 (((r2.drop o2).take l2).take l1))))],[a,b]):=by
  have hr:gF sz H (.cE sz b o2 l2)=some ((r2.drop o2).take l2,[b]):=by simp only[gF,hb];rw[if_pos ⟨trivial,h2⟩]
  simp only[jY,hr,ha];rw[if_pos ⟨trivial,h1⟩]
 rw[this]
theorem Ew{sz a o1 l1 b o2 l2 s1 c:Nat}{r1 r2:List (List D)}(ha:aw H a=some (.cap s1 r1 c))(hb:(∃s2,aw H b=some (.aK s2 r2))\/∃s2 c2,aw H b=some (.cap s2 r2 c2))(h1:o1<=r1.length)(h2:o2+min l2 l1<=r2.length):
  ∃k:Int,cC dF (.copy sz) [some (.c (.cE sz a o1 l1)),some (.c (.cE sz b o2 l2))] H nx=some (lv (.int .i64 k),[(a,some (.cap sz (aX r1 o1 ((r2.drop o2).take (min l2 l1))) c))],[a,b],nx):=by
 refine⟨(min l2 l1:Nat),?_⟩;show(match jY sz (.cE sz a o1 l1) (.cE sz b o2 l2) H with|some (i,u,az)=>some (lv (.int .i64 i),u,az,nx)|none=>(match lj sz (.cE sz a o1 l1) (.cE sz b o2 l2) H with|some (i,u,az)=>some (lv (.int .i64 i),u,az,nx)|none=>none))=_
 have e1:jY sz (.cE sz a o1 l1) (.cE sz b o2 l2) H=none:=by
  unfold jY;split
  .rename_i hd;simp at hd
  .rename_i hd;obtain⟨rfl,rfl,rfl,rfl⟩:=(by simpa using hd:_/\_/\_/\_)
   rw[ha]
  .rfl
 have e2:lj sz (.cE sz a o1 l1) (.cE sz b o2 l2) H=some (((min l2 l1:Nat):Int),[(a,some (.cap sz (aX r1 o1 ((r2.drop o2).take (min l2 l1))) c))],[a,b]):=by
  rcases hb with⟨s2,hb⟩|⟨s2,c2,hb⟩
  .simp only[lj,ha,hb];rw[if_pos ⟨trivial,trivial,h1,h2⟩]
  .simp only[lj,ha,hb];rw[if_pos ⟨trivial,trivial,h1,h2⟩]
 rw[e1];simp only[e2]
end
def HP(sz:Nat)(z:List Value):CC:=
 .seq (.region [iN 32 0,iN 33 1,⟨some 34,.slice false sz false true,[.tmp 32,.tmp 33],none⟩,iN 35 8,iN 36 7,⟨some 37,.th .add,[.tmp 35,.tmp 36],none⟩,iN 38 1,⟨some 39,.th .sub,[.tmp 37,.tmp 38],none⟩,⟨some 40,.SX z,[.tmp 34,.tmp 39],none⟩,iN 9 40] [])
 (.seq (.region [iN 41 9,iN 42 1,⟨some 43,.slice false sz true false,[.tmp 41,.tmp 42],none⟩,iN 44 2,⟨some 45,.copy sz,[.tmp 43,.tmp 44],none⟩] [])
 (.seq (.drawn [iN 46 9,iN 47 1,iN 48 7,⟨some 49,.th .add,[.tmp 47,.tmp 48],none⟩,⟨some 50,.slice false sz true false,[.tmp 46,.tmp 49],none⟩,iN 51 0,iN 52 1,⟨some 53,.slice false sz true false,[.tmp 51,.tmp 52],none⟩,⟨some 54,.copy sz,[.tmp 50,.tmp 53],none⟩] [] [])
 (.seq (.region [iN 55 9,iN 6 55] []) .ret)))
def HO(sz:Nat):CC:=
 .seq (.drawn [iN 69 0,iN 70 1,iN 71 7,⟨some 72,.th .add,[.tmp 70,.tmp 71],none⟩,⟨some 73,.slice false sz true false,[.tmp 69,.tmp 72],none⟩,iN 74 0,iN 75 1,⟨some 76,.slice false sz true false,[.tmp 74,.tmp 75],none⟩,⟨some 77,.copy sz,[.tmp 73,.tmp 76],none⟩] [] [])
 (.seq (.region [iN 78 0,iN 79 1,⟨some 80,.slice false sz true false,[.tmp 78,.tmp 79],none⟩,iN 81 2,⟨some 82,.copy sz,[.tmp 80,.tmp 81],none⟩] [])
 (.seq (.region [iN 83 0,iN 6 83] []) .ret))
def Vt(sz f:Nat)(ro:Bool)(mu:List Bool):CC:=
 .seq (.region [iN 84 0,iN 85 8,⟨some 86,.slice false sz true false,[.tmp 84,.tmp 85],none⟩,iN 87 2,⟨some 88,.copy sz,[.tmp 86,.tmp 87],none⟩] [])
 (.seq (.region [iN 89 0,iN 90 1,⟨some 91,.slice false sz true false,[.tmp 89,.tmp 90],none⟩,iN 92 7,⟨some 93,.call ro mu,[.func f,.tmp 91,.tmp 92],none⟩] [])
 (.seq (.region [iN 94 0,iN 6 94] []) .ret))
def uD(sz:Nat)(z:List Value)(tl:CC):CC:=
 .seq (.region [⟨some 6,.mv,[.const (.slice none 0 0)],none⟩] [])
 (.seq (.region [iN 10 0,iN 11 1,⟨some 12,.slice false sz true false,[.tmp 10,.tmp 11],none⟩] [])
 (.seq (.region [iN 13 2,⟨some 14,.len false,[.tmp 13],none⟩,iN 7 14] [])
 (.seq (.seq (.region [iN 15 7,⟨some 16,.th .eql,[.tmp 15,.const (.int .i64 0)],none⟩] []) (.cond (.tmp 16) (.seq (.region [iN 17 0,iN 6 17] []) .ret) .skip))
 (.seq (.region [iN 18 0,⟨some 19,.len false,[.tmp 18],none⟩,iN 8 19] [])
 (.seq (.seq (.region [iN 20 1,iN 21 8,⟨some 22,.th .eql,[.tmp 20,.tmp 21],none⟩] []) (.cond (.tmp 22) (.seq (.region [iN 23 0,iN 24 2,⟨some 25,.append sz,[.tmp 23,.tmp 24],none⟩,iN 6 25] []) .ret) .skip))
 (.seq (.seq (.region [iN 26 8,iN 27 7,⟨some 28,.th .add,[.tmp 26,.tmp 27],none⟩,iN 29 0,⟨some 30,.GJ,[.tmp 29],none⟩,⟨some 31,.th .gtr,[.tmp 28,.tmp 30],none⟩] []) (.cond (.tmp 31) (HP sz z) .skip))
 (.seq (.region [iN 56 0,iN 57 8,iN 58 7,⟨some 59,.th .add,[.tmp 57,.tmp 58],none⟩,⟨some 60,.slice false sz false true,[.tmp 56,.tmp 59],none⟩,iN 0 60] [])
 (.seq (.seq (.region [iN 61 2,iN 62 0,iN 63 1,iN 64 7,⟨some 65,.th .add,[.tmp 63,.tmp 64],none⟩,⟨some 66,.slice false sz true false,[.tmp 62,.tmp 65],none⟩,⟨some 67,.Q9,[.tmp 61,.tmp 66],none⟩,⟨some 68,.un .not,[.tmp 67],none⟩] []) (.cond (.tmp 68) (HO sz) .skip))
 tl))))))))
theorem uC{e:iL}{h:bC}{N n k:Nat}{sz:Nat}{rs:List (List D)}{ob:List (List D)}{g1 g2:C}(ht:cm e 6=some (.c (.cE sz N 0 k)))(hl:aw h N=some (.aK sz ob))(hk:k<=ob.length)(hr:ob.take k=rs):
  wk (fun s=>s.gh.length=2/\∃rs0,rt [.tmp 6] s rs0 [.eH,.eH]/\qO [] rs0=[.c (.sl sz rs)]) ⟨e,h,n,[g1,g2]⟩:=by
 have hp:dU h 300 (.cE sz N 0 k)=some (.sl sz rs,[N],[N]):=by simp only[dU,hl];rw[if_pos (by omega),cL,hr]
 refine wk.of ⟨rfl,[.c (.sl sz rs)],⟨[.c (.cE sz N 0 k)],[N],[],?_,?_,.eH (.eH .nil),?_⟩,rfl⟩
 .simp only[aq,aW,tM,ht,dY]
 .simp only[ri,qH,hp];rfl
 .simp
def Ns(e:iL):iL->Prop
 |[]=>True
 |(t,x)::r=>cm e t=some x/\Ns e r
theorem qx{e:iL}{H:bC}{n:Nat}{g:List C}:∀{e':iL},Ns e e'->Sub ⟨e,H,n,g⟩ ⟨e',H,n,g⟩:=by
 intro e' h S K w0 Kn φ gv nt a w hR;refine⟨S,Kn,φ,gZ.refl S w,⟨hR.inv,fun t x hx=>hR.dE t x ?_,hR.size,hR.defers,hR.gx,hR.gh⟩⟩
 have key:∀e':iL,Ns e e'->cm e' t=some x->cm e t=some x:=by
  intro e';induction e' with
  |nil=>intro _ h;simp[cm]at h
  |cons p r ih=>
   obtain⟨q,y⟩:=p;intro h hx;simp only[cm]at hx;by_cases e1:q=t
   .subst e1;simp at hx;exact hx▸h.1
   .have e2:(q==t)=false:=by simpa using e1
    rw[e2,cond_false]at hx;exact ih h.2 hx
 exact key e' h hx
section
variable{P:Program}{z:List Value}{rows:List (List D)}{x:List D}{i:Int}
abbrev iA(z:List Value)(n:Nat):TV:=.c (.cE z.length 0 0 n)
abbrev iV(z:List Value):TV:=.c (.cE z.length 1 0 1)
abbrev iG(z:List Value)(rows:List (List D)):List C:=[.cE z.length 0 0 rows.length,.cE z.length 1 0 1]
abbrev iR(rows:List (List D))(x:List D)(i:Int):List (List D):=rows.take i.toNat++x::rows.drop i.toNat
abbrev R1(z:List Value)(rows:List (List D))(x:List D)(c:Nat):bC:=[(0,some (.cap z.length rows c)),(0,some (.aK z.length rows)),(1,some (.aK z.length [x]))]
theorem LX{c:Nat}(h0:0<=i)(h1:i<rows.length)(h3:rows.length+1<=te):
  W P (HO z.length) ⟨[(0,iA z (rows.length+1)),(1,qe i),(2,iV z),(7,qe 1)],R1 z rows x c,2,iG z rows⟩ (rq [.tmp 6] [] 2 [.c (.sl z.length (iR rows x i))] [.eH,.eH]):=by
 simp only[te]at h3;have hw1:IntKind.i64.wrap (i+1)=i+1:=kL (by omega) (by omega);have hi1:(i+1).toNat=i.toNat+1:=by omega
 obtain⟨k1,hc1⟩:=Ew (H:=R1 z rows x c) (nx:=2+aD*8) (sz:=z.length) (a:=0) (o1:=0+(i+1).toNat) (l1:=rows.length+1-(i+1).toNat) (b:=0) (o2:=0+i.toNat) (l2:=rows.length+1-i.toNat) rfl (.inr ⟨_,_,rfl⟩) (by omega) (by omega);have hm:min (rows.length+1-i.toNat) (rows.length+1-(i+1).toNat)=rows.length-i.toNat:=by omega
 have r1:aX rows (0+(i+1).toNat) ((rows.drop (0+i.toNat)).take (min (rows.length+1-i.toNat) (rows.length+1-(i+1).toNat)))=rows.take (i.toNat+1)++rows.drop i.toNat:=by have:(rows.drop i.toNat).take (rows.length-i.toNat)=rows.drop i.toNat:=bX (by simp);rw[hm,bG,bG,hi1,this];unfold aX;have hd:rows.drop (i.toNat+1+(rows.drop i.toNat).length)=[]:=fW (by simp;omega);rw[hd,bv]
 rw[r1]at hc1;refine fE (Km (xI rfl rfl (lr _ _) (xI rfl rfl (lr _ _) (xI rfl rfl (lr _ _) (xI rfl (xe hw1) (lr _ _) (xI rfl (pE (by omega) (by omega)) (lr _ _) (xI rfl rfl (lr _ _) (xI rfl rfl (lr _ _) (xI rfl (pE h0 (by omega)) (lr _ _) (xI rfl hc1 (lr _ _) rfl))))))))) ?_);generalize hrr:rows.take (i.toNat+1)++rows.drop i.toNat=rs;have hlen:rs.length=rows.length+1:=by rw[<-hrr];simp;omega
 refine W.sub (qx (e':=[(0,iA z (rows.length+1)),(1,qe i),(2,iV z)]) ⟨rfl,rfl,rfl,trivial⟩) ?_;obtain⟨k2,hc2⟩:=Ew (H:=(0,some (.cap z.length rs c))::R1 z rows x c) (nx:=2+aD*9) (sz:=z.length) (a:=0) (o1:=0+i.toNat) (l1:=rows.length+1-i.toNat) (b:=1) (o2:=0) (l2:=1) rfl (.inl ⟨_,rfl⟩) (by omega) (by simp;omega);have hm2:min 1 (rows.length+1-i.toNat)=1:=by omega
 have r2:aX rs (0+i.toNat) (([x].drop 0).take (min 1 (rows.length+1-i.toNat)))=iR rows x i:=by
  rw[hm2,bG];have hn:(rows.take (i.toNat+1)).length=i.toNat+1:=by simp;omega
  show rs.take i.toNat++[x]++rs.drop (i.toNat+1)=_;rw[<-hrr,iz (by rw[hn];omega),lM,List.drop_append_of_le_length (by rw[hn];omega),fW (by rw[hn];omega)];rw[Nat.min_eq_left (by omega)];simp[iR]
 rw[r2]at hc2;refine fE (iu (ig rfl rfl (ig rfl rfl (ig rfl (pE h0 (by omega)) (ig rfl rfl (ig rfl hc2 rfl))))) ?_);refine fE (iu (ig rfl rfl (ig rfl rfl rfl)) ?_);refine W.sub (Ha (id:=0) rfl) ?_;refine AM (P:=P) ?_;show wk _ _;have hl:(iR rows x i).length=rows.length+1:=by simp[iR];omega
 exact uC (N:=0) (k:=rows.length+1) (ob:=iR rows x i) rfl rfl (by omega) (bX (by omega))
theorem Wb{r9 rows:List (List D)}{x:List D}{k m:Nat}(hm:1<=m)(ht:r9.take k=rows.take k):aX r9 (0+k) ((([x].drop 0).take 1).take m)=rows.take k++x::r9.drop (k+1):=by
 obtain⟨m,rfl⟩:∃q,m=q+1:=⟨m-1,by omega⟩
 rw[bG];simp[aX,ht]
theorem Wa{r10 rows:List (List D)}{x:List D}{k a m n:Nat}(ha:a=k+1)(hm:m=rows.length-k)(hn:n=m)(hk:k<rows.length)(hl:r10.length=rows.length+1)(ht:r10.take (k+1)=rows.take k++[x]):
  aX r10 (0+a) (((rows.drop (0+k)).take m).take n)=rows.take k++x::rows.drop k:=by
 subst ha hn hm;rw[bG,bG,lM,Nat.min_self];have e:(rows.drop k).take (rows.length-k)=rows.drop k:=bX (by simp);rw[e];unfold aX;rw[ht];have hd:r10.drop (k+1+(rows.drop k).length)=[]:=fW (by simp;omega);rw[hd];simp
def Ee(sz:Nat):CC:=
 .seq (.drawn [iN 46 9,iN 47 1,iN 48 7,⟨some 49,.th .add,[.tmp 47,.tmp 48],none⟩,⟨some 50,.slice false sz true false,[.tmp 46,.tmp 49],none⟩,iN 51 0,iN 52 1,⟨some 53,.slice false sz true false,[.tmp 51,.tmp 52],none⟩,⟨some 54,.copy sz,[.tmp 50,.tmp 53],none⟩] [] [])
 (.seq (.region [iN 55 9,iN 6 55] []) .ret)
def Ef(sz:Nat):CC:=
 .seq (.region [iN 41 9,iN 42 1,⟨some 43,.slice false sz true false,[.tmp 41,.tmp 42],none⟩,iN 44 2,⟨some 45,.copy sz,[.tmp 43,.tmp 44],none⟩] [])
 (Ee sz)
abbrev V0(z:List Value)(rows:List (List D))(i:Int):iL:=[(0,iA z rows.length),(1,qe i),(2,iV z),(7,qe 1),(9,.c (.cE z.length 2 0 (rows.length+1)))]
theorem RY{H:bC}{r10:List (List D)}(h0:0<=i)(h1:i<rows.length)(h3:rows.length+1<=te)(hl0:aw H 0=some (.aK z.length rows))(hl2:aw H 2=some (.aK z.length r10))
  (hl:r10.length=rows.length+1) (ht:r10.take (i.toNat+1)=rows.take i.toNat++[x]):
  W P (Ee z.length) ⟨V0 z rows i,H,3,iG z rows⟩ (rq [.tmp 6] [] 2 [.c (.sl z.length (iR rows x i))] [.eH,.eH]):=by
 have h4:=h3;simp only[te]at h4;have hw1:IntKind.i64.wrap (i+1)=i+1:=kL (by omega) (by omega);have hi1:(i+1).toNat=i.toNat+1:=by omega
 have q6:0+(i+1).toNat+(rows.length+1-(i+1).toNat)<=r10.length:=by rw[hl];omega
 have q7:0+i.toNat+(rows.length-i.toNat)<=rows.length:=by omega
 have q9:=Ey (nx:=3+aD*8) (sz:=z.length) (o1:=0+(i+1).toNat) (l1:=rows.length+1-(i+1).toNat) (o2:=0+i.toNat) (l2:=rows.length-i.toNat) hl2 hl0 q6 q7;have r2:=Wa (rows:=rows) (k:=i.toNat) (a:=(i+1).toNat) (m:=rows.length-i.toNat) (n:=rows.length+1-(i+1).toNat) hi1 rfl (by omega) (by omega) hl ht;rw[r2]at q9;have hlR:(iR rows x i).length=rows.length+1:=by simp[iR];omega
 obtain⟨R,hR⟩:∃R,R=iR rows x i:=⟨_,rfl⟩
 rw[<-hR]at hlR|-;have q9':∃k:Int,cC dF (.copy z.length) [some (.c (.cE z.length 2 (0+(i+1).toNat) (rows.length+1-(i+1).toNat))),some (.c (.cE z.length 0 (0+i.toNat) (rows.length-i.toNat)))] H (3+aD*8)=some (lv (.int .i64 k),[(2,some (.aK z.length R))],[2,0],3+aD*8):=by rw[hR];exact q9
 obtain⟨k2,hc2⟩:=q9';refine fE (Km (xI rfl rfl (lr _ _) (xI rfl rfl (lr _ _) (xI rfl rfl (lr _ _) (xI rfl (xe hw1) (lr _ _) (xI rfl (pE (by omega) (by omega)) (lr _ _) (xI rfl rfl (lr _ _) (xI rfl rfl (lr _ _) (xI rfl (pE h0 (by omega)) (lr _ _) (xI rfl hc2 (lr _ _) rfl))))))))) ?_);refine fE (iu (ig rfl rfl (ig rfl rfl rfl)) ?_);refine AM (P:=P) ?_;show wk _ _;exact uC (N:=2) (k:=rows.length+1) (ob:=R) rfl rfl (by omega) (bX (by omega))
theorem RZ{H:bC}{r9:List (List D)}(h0:0<=i)(h1:i<rows.length)(h3:rows.length+1<=te)(hl0:aw H 0=some (.aK z.length rows))(hl1:aw H 1=some (.aK z.length [x]))(hl2:aw H 2=some (.aK z.length r9))
  (hl:r9.length=rows.length+1) (ht:r9.take i.toNat=rows.take i.toNat):
  W P (Ef z.length) ⟨V0 z rows i,H,3,iG z rows⟩ (rq [.tmp 6] [] 2 [.c (.sl z.length (iR rows x i))] [.eH,.eH]):=by
 have h4:=h3;simp only[te]at h4;have q3:0+i.toNat+(rows.length+1-i.toNat)<=r9.length:=by rw[hl];omega
 have q8:=Ey (nx:=3) (sz:=z.length) (o1:=0+i.toNat) (l1:=rows.length+1-i.toNat) (o2:=0) (l2:=1) hl2 hl1 q3 (am 1);rw[Wb (by omega) ht]at q8;obtain⟨r10,hr10⟩:∃r10,rows.take i.toNat++x::r9.drop (i.toNat+1)=r10:=⟨_,rfl⟩
 rw[hr10]at q8;obtain⟨k1,hc1⟩:=q8;have hl10:r10.length=rows.length+1:=by rw[<-hr10];simp;omega
 have ht10:r10.take (i.toNat+1)=rows.take i.toNat++[x]:=by
  rw[<-hr10];have:(rows.take i.toNat).length=i.toNat:=by simp;omega
  rw[show rows.take i.toNat++x::r9.drop (i.toNat+1)=(rows.take i.toNat++[x])++r9.drop (i.toNat+1)by simp];exact List.take_left' (by simp[this])
 refine fE (iu (ig rfl rfl (ig rfl rfl (ig rfl (pE h0 (by omega)) (ig rfl rfl (ig rfl hc1 rfl))))) ?_);show W P _ _ _;refine W.sub (qx (e':=V0 z rows i) ⟨rfl,rfl,rfl,rfl,rfl,trivial⟩) ?_;exact RY h0 h1 h3 hl0 rfl hl10 ht10
theorem LY{c:Nat}(h0:0<=i)(h1:i<rows.length)(h3:rows.length+1<=te)(hc:c<rows.length+1):
  W P (HP z.length z) ⟨[(0,iA z rows.length),(1,qe i),(2,iV z),(7,qe 1),(8,qe rows.length)],R1 z rows x c,2,iG z rows⟩ (rq [.tmp 6] [] 2 [.c (.sl z.length (iR rows x i))] [.eH,.eH]):=by
 have h4:=h3;simp only[te]at h4;have hw2:IntKind.i64.wrap ((rows.length:Int)+1)=(rows.length:Int)+1:=kL (by omega) (by omega);have hw3:IntKind.i64.wrap ((rows.length:Int)+1-i)=(rows.length:Int)+1-i:=kL (by omega) (by omega);have hap:=Pc (H:=R1 z rows x c) (nx:=2) (z:=z) (id:=0) (off:=0) (len:=i.toNat) (k:=(rows.length:Int)+1-i) rfl (by omega) (by simp only[te];omega) (by omega) (by omega);have hL:i.toNat+((rows.length:Int)+1-i).toNat=rows.length+1:=by omega
 rw[hL]at hap;obtain⟨r9,hr9⟩:∃r9,(rows.drop 0).take i.toNat++aA ((rows.length:Int)+1-i).toNat (dn z)=r9:=⟨_,rfl⟩
 rw[hr9]at hap;have hl9:r9.length=rows.length+1:=by rw[<-hr9];simp;omega
 have ht9:r9.take i.toNat=rows.take i.toNat:=by rw[<-hr9,cL,iz (by simp;omega),lM,Nat.min_self]
 show W P (.seq _ (Ef z.length)) _ _;refine fE (iu (ig rfl rfl (ig rfl rfl (ig rfl (O9 h0 (by omega)) (ig rfl rfl (ig rfl rfl (ig rfl (xe hw2) (ig rfl rfl (ig rfl (Sd hw3) (ig rfl hap (ig rfl rfl rfl)))))))))) ?_);show W P _ _ _;refine W.sub (Ha (id:=0) (szo:=z.length) (rows:=rows) (c:=c) rfl) ?_;refine W.sub (qx (e':=V0 z rows i) ⟨rfl,rfl,rfl,rfl,rfl,trivial⟩) ?_;exact RZ h0 h1 h3 rfl rfl rfl hl9 ht9
theorem OT{tl:CC}{c:Nat}(h0:0<=i)(h1:i<rows.length)(h3:rows.length+1<=te):
  W P (uD z.length z tl) ⟨[(0,iA z rows.length),(1,qe i),(2,iV z)],R1 z rows x c,2,iG z rows⟩ (rq [.tmp 6] [] 2 [.c (.sl z.length (iR rows x i))] [.eH,.eH]):=by
 have h4:=h3;simp only[te]at h4;have hw1:IntKind.i64.wrap (i+1)=i+1:=kL (by omega) (by omega);have hw2:IntKind.i64.wrap ((rows.length:Int)+1)=(rows.length:Int)+1:=kL (by omega) (by omega);refine fE (iu (ig rfl rfl rfl) ?_);refine fE (iu (ig rfl rfl (ig rfl rfl (ig rfl (pE h0 (by omega)) rfl))) ?_);refine fE (iu (ig rfl rfl (ig rfl rfl (ig rfl rfl rfl))) ?_);refine fE (fE (iu (ig rfl rfl (ig rfl rfl rfl)) ?_));refine yg (t:=false) rfl rfl (wA (P:=P) ?_);show W P _ _ _;refine fE (iu (ig rfl rfl (ig rfl rfl (ig rfl rfl rfl))) ?_);refine fE (fE (iu (ig rfl rfl (ig rfl rfl (ig rfl rfl rfl))) ?_));refine yg (t:=i==(rows.length:Int)) rfl (by simp;omega) (wA (P:=P) ?_);show W P _ _ _;refine W.sub (qx (e':=[(0,iA z rows.length),(1,qe i),(2,iV z),(7,qe 1),(8,qe rows.length)]) ⟨rfl,rfl,rfl,rfl,rfl,trivial⟩) ?_;refine fE (fE (iu (ig rfl rfl (ig rfl rfl (ig rfl (xe hw2) (ig rfl rfl (ig rfl (Pb rfl) (ig rfl rfl rfl)))))) ?_));refine yz (t:=decide ((rows.length:Int)+1>(c-0:Nat))) rfl (fun he=>?_) fun he=>?_
 .refine W.sub (qx (e':=[(0,iA z rows.length),(1,qe i),(2,iV z),(7,qe 1),(8,qe rows.length)]) ⟨rfl,rfl,rfl,rfl,rfl,trivial⟩) ?_;exact LY h0 h1 h3 (by have:=of_decide_eq_true he;omega)
 .have hc:rows.length+1<=c:=by have:=of_decide_eq_false he;omega
  refine wA (P:=P) ?_;show W P _ _ _;refine W.sub (qx (e':=[(0,iA z rows.length),(1,qe i),(2,iV z),(7,qe 1),(8,qe rows.length)]) ⟨rfl,rfl,rfl,rfl,rfl,trivial⟩) ?_;have hov:=Jx (H:=R1 z rows x c) (nx:=2) (sz:=z.length) (id:=0) (off:=0) (len:=rows.length) (u:=(rows.length:Int)+1) (by omega) rfl (by omega);have hL:((rows.length:Int)+1).toNat=rows.length+1:=by omega
  rw[hL]at hov;refine fE (iu (ig rfl rfl (ig rfl rfl (ig rfl rfl (ig rfl (xe hw2) (ig rfl hov (ig rfl rfl rfl)))))) ?_);refine W.sub (qx (e':=[(0,iA z (rows.length+1)),(1,qe i),(2,iV z),(7,qe 1)]) ⟨rfl,rfl,rfl,rfl,trivial⟩) ?_;refine fE (fE (iu (ig rfl rfl (ig rfl rfl (ig rfl rfl (ig rfl rfl (ig rfl (xe hw1) (ig rfl (pE (by omega) (by omega)) (ig rfl (O_ rfl rfl (by decide) (by omega)) (ig rfl rfl rfl)))))))) ?_));refine Fk (t:=true) rfl rfl ?_;refine W.sub (qx (e':=[(0,iA z (rows.length+1)),(1,qe i),(2,iV z),(7,qe 1)]) ⟨rfl,rfl,rfl,rfl,trivial⟩) ?_;exact LX h0 h1 h3
theorem OU{tl:CC}(h3:rows.length+1<=te):
  W P (uD z.length z tl) ⟨[(0,iA z rows.length),(1,qe rows.length),(2,iV z)],[(0,some (.aK z.length rows)),(1,some (.aK z.length [x]))],2,iG z rows⟩ (rq [.tmp 6] [] 2 [.c (.sl z.length (rows++[x]))] [.eH,.eH]):=by
 have ha:cC dF (.append z.length) [some (iA z rows.length),some (iV z)] [(0,some (.aK z.length rows)),(1,some (.aK z.length [x]))] 2=some (.c (.cE z.length 2 0 (rows.length+1)),[(0,none),(2,some (.aK z.length (rows++[x])))],[0,1],3):=by
  show jI z.length (.cE z.length 0 0 rows.length) (.cE z.length 1 0 1) _ 2=_;have hr:gF z.length [(0,some (.aK z.length rows)),(1,some (.aK z.length [x]))] (.cE z.length 1 0 1)=some ([x],[1]):=by have hl:aw [(0,some (Ob.aK z.length rows)),(1,some (.aK z.length [x]))] 1=some (.aK z.length [x]):=rfl;simp only[gF,hl];rw[if_pos ⟨trivial,am 1⟩];rfl
  have hl:aw [(0,some (Ob.aK z.length rows)),(1,some (.aK z.length [x]))] 0=some (.aK z.length rows):=rfl;simp only[jI,hr,hl];rw[if_pos ⟨trivial,by omega,h3⟩];have e1:(rows.drop 0).take rows.length=rows:=by simp
  have e2:rows.drop (0+rows.length+[x].length)=[]:=fW (by simp);rw[e1,e2,bv];rfl
 refine fE (iu (ig rfl rfl rfl) ?_);refine fE (iu (ig rfl rfl (ig rfl rfl (ig rfl (pE (by omega) (jR _)) rfl))) ?_);refine fE (iu (ig rfl rfl (ig rfl rfl (ig rfl rfl rfl))) ?_);refine fE (fE (iu (ig rfl rfl (ig rfl rfl rfl)) ?_));refine yg (t:=false) rfl rfl (wA (P:=P) ?_);show W P _ _ _;refine fE (iu (ig rfl rfl (ig rfl rfl (ig rfl rfl rfl))) ?_);refine fE (fE (iu (ig rfl rfl (ig rfl rfl (ig rfl rfl rfl))) ?_));refine Fk (t:=(rows.length:Int)==(rows.length:Int)) rfl (by simp) ?_;refine fE (iu (ig rfl rfl (ig rfl rfl (ig rfl ha (ig rfl rfl rfl)))) ?_);refine AM (P:=P) ?_;show wk _ _;exact uC (N:=2) (k:=rows.length+1) (ob:=rows++[x]) rfl rfl (by simp) (bX (by simp))
theorem OS{tl:CC}{g:C}:
  W P (uD z.length z tl) ⟨[(0,SC),(1,qe 0),(2,iV z)],[(1,some (.aK z.length [x]))],2,[g,.cE z.length 1 0 1]⟩ (rq [.tmp 6] [] 2 [.c (.sl z.length [x])] [.eH,.eH]):=by
 have ha:cC dF (.append z.length) [some SC,some (iV z)] [(1,some (.aK z.length [x]))] 2=some (.c (.cE z.length 2 0 1),[(2,some (.aK z.length [x]))],[1],3):=by
  show jI z.length (.d (.lit (.slice none 0 0))) (.cE z.length 1 0 1) _ 2=_;have hr:gF z.length [(1,some (.aK z.length [x]))] (.cE z.length 1 0 1)=some ([x],[1]):=by have hl:aw [(1,some (Ob.aK z.length [x]))] 1=some (.aK z.length [x]):=rfl;simp only[gF,hl];rw[if_pos ⟨trivial,am 1⟩];rfl
  simp only[jI,hr];rw[if_pos (by simp[te])];rfl
 refine fE (iu (ig rfl rfl rfl) ?_);refine fE (iu (ig rfl rfl (ig rfl rfl (ig rfl rfl rfl))) ?_);refine fE (iu (ig rfl rfl (ig rfl rfl (ig rfl rfl rfl))) ?_);refine fE (fE (iu (ig rfl rfl (ig rfl rfl rfl)) ?_));refine yg (t:=false) rfl rfl (wA (P:=P) ?_);show W P _ _ _;refine fE (iu (ig rfl rfl (ig rfl rfl (ig rfl rfl rfl))) ?_);refine fE (fE (iu (ig rfl rfl (ig rfl rfl (ig rfl rfl rfl))) ?_));refine Fk (t:=true) rfl rfl ?_;refine fE (iu (ig rfl rfl (ig rfl rfl (ig rfl ha (ig rfl rfl rfl)))) ?_);refine AM (P:=P) ?_;show wk _ _;exact uC (N:=2) (k:=1) (ob:=[x]) rfl rfl (by simp) rfl
theorem LZ{bz:ww}{f nt:Nat}{tl:CC}(hm:P.follows .mixedOrders=true)(hF:o_ P bz f 3=some ⟨3,nt,[.tmp 6],uD z.length z tl⟩)(h0:0<=i)(h1:i<=rows.length)(h3:rows.length+1<=te):
  yf P f [.mt (.sl z.length rows),.d (.lit (.int .i64 i)),.mt (.sl z.length [x])] [.c (.sl z.length (iR rows x i))] [.eH,.eH]:=by
 by_cases he:i=rows.length
 .subst he;refine wh hm hF (m:=[]) ⟨rfl,?_⟩;have e:iR rows x (rows.length:Int)=rows++[x]:=by simp[iR]
  rw[e];exact OU h3
 .refine Eo hm hF (m:=[]) ⟨rfl,?_⟩;refine Pg (t:=0) (id:=0) (sz:=z.length) (len:=rows.length) (szo:=z.length) (rows:=rows) rfl rfl fun c _ _=>?_;exact OT h0 (by omega) h3
theorem Jk{bz:ww}{f nt:Nat}{tl:CC}(hm:P.follows .mixedOrders=true)(hF:o_ P bz f 3=some ⟨3,nt,[.tmp 6],uD z.length z tl⟩):
  yf P f [.mt (.d (.lit (.slice none 0 0))),.d (.lit (.int .i64 0)),.mt (.sl z.length [x])] [.c (.sl z.length [x])] [.eH,.eH]:=
 wh hm hF (m:=[]) ⟨rfl,OS⟩
end
def Eg{α:Type}(s:Sl α)(i:Int)(v:Sl α):Option (Sl α):=
 match v with
 |.mk [x]=>
  (match s with
   |.mk l=>bif decide (0<=i)&&decide (i<=(l.length:Int))&&g_ (l.length+1) 2147483648 then some (.mk (l.take i.toNat++x::l.drop i.toNat))else none
   |.nil=>bif decide (i=0)then some (.mk [x])else none)
 |_=>none
def L0(t:Ty):fJ:=⟨[(true,.os t),(false,.x (.i .i64)),(true,.os t)],[([.os t],[.gn,.gn])],false,[true,false,true],fun p=>match p with|(s,i,v)=>Eg s i v⟩
theorem RW{P:Program}{bz:ww}{f nt:Nat}{tl:CC}(hm:P.follows .mixedOrders=true){t:Ty}{z:List Value}(hF:o_ P bz f 3=some ⟨3,nt,[.tmp 6],uD (ce t) z tl⟩)(hz:z.length=ce t):bf P f (L0 t):=by
 refine⟨rfl,fun p r hr=>?_⟩;obtain⟨s,i,v⟩:=p;have hr:Eg s i v=some r:=hr;rw[<-hz]at hF
 match v,hr with
 |.mk [x],hr=>
  cases s with
  |nil=>obtain⟨hc,hr⟩:=aO hr;obtain rfl:=aa hr;obtain rfl:i=0:=of_decide_eq_true hc;have hg:=Jk (x:=aS t x) hm hF;rw[hz]at hg;exact hg
  |mk l=>
   obtain⟨hc,hr⟩:=aO hr;simp only[ak,decide_eq_true_eq]at hc;obtain⟨⟨h0,h1⟩,h3⟩:=hc;obtain rfl:=aa hr;have h3:=gj h3;have hg:=LZ (rows:=l.map (aS t)) (x:=aS t x) (i:=i) hm hF h0 (by simpa using h1) (by simpa[te]using h3);have e:iR (l.map (aS t)) (aS t x) i=(l.take i.toNat++x::l.drop i.toNat).map (aS t):=by simp[iR]
   rw[e,hz]at hg;exact hg
 |.nil,hr=>simp[Eg]at hr
 |.mk [],hr=>simp[Eg]at hr
 |.mk (_::_::_),hr=>simp[Eg]at hr
open Go.ChangeShapes Go.WideShapes Go.ChangeAt Go.RowKit
def rP:(t:Ty)->El t->Prop
 |.i k,x=>k.min<=x/\x<=k.max
 |.s,s=>s.size<=maxLen
 |.f k,b=>(Lit.float k b).wf=true
 |.sl t,s=>s.l.length<=maxLen/\∀x∈s.l,rP t x
 |.pr a c,v=>rP a v.1/\rP c v.2
 |.st t,v=>rP t v
 |.ar _ t,v=>∀x∈v.1,rP t x
 |_,_=>True
def I2(P:Program)(ok:TypeId->Bool)(sz:TypeId->Nat):List Field->Nat->Nat->Bool
 |[],off,P_=>mP off P_
 |f::r,off,P_=>ok f.type&&mP f.offset off&&mP (P.cellsOf f.type) (sz f.type)&&I2 P ok sz r (off+sz f.type) P_
def Hy(P:Program):Nat->TypeId->Bool
 |0,_=>false
 |n+1,t=>match P.underlying t with|some (.int _)|some .bool|some .string|some (.float _)=>true|some (.slice e)=>Hy P n e&&Nat.blt 0 (ce (fk P n e))&&mP (P.cellsOf e) (ce (fk P n e))|some (.struct fs)=>I2 P (Hy P n) (fun t=>ce (fk P n t)) fs.toList 0 (P.cellsOf t)|some (.array m e)=>Hy P n e&&mP (P.cellsOf e) (ce (fk P n e))&&mP (P.cellsOf t) (m*ce (fk P n e))|_=>false
theorem K7{P:Program}:∀(n:Nat)(t:TypeId),Hy P n t=true->rW P t (aS (fk P n t)) (rP (fk P n t)):=by
 intro n;induction n with
 |zero=>intro t h;simp[Hy]at h
 |succ n ih=>
  intro t h;simp only[Hy]at h;split at h
  .rename_i k hu;rw[show fk P (n+1) t=.i k by simp only[fk,hu]];exact IU hu
  .rename_i hu;rw[show fk P (n+1) t=.b by simp only[fk,hu]];exact F3 hu
  .rename_i hu;rw[show fk P (n+1) t=.s by simp only[fk,hu]];exact B1 hu
  .rename_i k hu;rw[show fk P (n+1) t=.f k by simp only[fk,hu]];exact DL hu
  .rename_i e hu;simp only[ak]at h;obtain⟨⟨h1,h2⟩,h3⟩:=h;rw[show fk P (n+1) t=.sl (fk P n e)by simp only[fk,hu]];exact DK (enc:=aS (fk P n e)) hu (dQ h3) (by simpa[Nat.blt_eq]using h2) (fun a=>bW _ a) (ih e h1)
  .rename_i fs hu;rw[show fk P (n+1) t=.st (fk.VQ (fs.toList.map fun f=>fk P n f.type))by simp only[fk,hu]];intro H en w fuel cs x hx;have hl:=Fy hu hx
   have key:∀(suf:List Field)(i off:Nat),(∀j,fs[i+j]?=suf[j]?)->I2 P (Hy P n) (fun t=>ce (fk P n t)) suf off (P.cellsOf t)=true->
     ∃v:El (fk.VQ (suf.map fun f=>fk P n f.type)),rP _ v/\lw w (cs.drop off) (aS _ v):=by
    intro suf;induction suf with
    |nil=>intro i off _ mo;have e:=dQ mo;exact⟨(),trivial,lw.nil (by rw[fr,hl,e];omega)⟩
    |cons f r ihr=>
     intro i off hi mo;simp only[I2,ak]at mo;obtain⟨⟨⟨k1,k2⟩,k3⟩,k4⟩:=mo;have k2:=dQ k2;have k3:=dQ k3;have hf:fs[i]?=some f:=by have:=hi 0;simpa using this
     obtain⟨a,f1,c1⟩:=DM hu hx hf (ih f.type k1);rw[k2,k3]at c1;obtain⟨v,f2,c2⟩:=ihr (i+1) (off+ce (fk P n f.type)) (fun j=>by have:=hi (j+1);rw[show i+1+j=i+(j+1)by omega,this];rfl) k4
     have hle:off+ce (fk P n f.type)<=cs.length:=by
      have hmono:∀(suf:List Field)(off:Nat),I2 P (Hy P n) (fun t=>ce (fk P n t)) suf off (P.cellsOf t)=true->off<=P.cellsOf t:=by intro suf;induction suf with|nil=>intro off h;exact Nat.le_of_eq (dQ h)|cons g r ih=>intro off h;simp only[I2,ak]at h;have:=ih _ h.2;omega
      rw[hl];exact hmono r _ k4
     have hfield:=lw.field c1 rfl c2 hle;cases r with|nil=>have e:aS (fk.VQ (([]:List Field).map fun f=>fk P n f.type)) v=[]:=rfl;rw[e,bv]at hfield;exact⟨a,f1,hfield⟩|cons g r=>exact⟨(a,v),⟨f1,f2⟩,hfield⟩
   obtain⟨v,f1,c1⟩:=key fs.toList 0 0 (fun j=>by simp) h;exact⟨v,f1,by rw[cL]at c1;exact c1⟩
  .rename_i m e hu;simp only[ak]at h;obtain⟨⟨h1,h2⟩,h3⟩:=h;have h2:=dQ h2;have h3:=dQ h3;rw[show fk P (n+1) t=.ar m (fk P n e)by simp only[fk,hu]];intro H en w fuel cs x hx;have hl:=J8 hu hx
   have key:∀j,j<=m->∃l:List (El (fk P n e)),l.length=j/\(∀y∈l,rP _ y)/\lw w (cs.drop ((m-j)*ce (fk P n e))) (l.flatMap (aS (fk P n e))):=by
    intro j;induction j with
    |zero=>intro _;exact⟨[],rfl,fun y hy=>by simp at hy,lw.nil (by rw[fr,hl,h3];simp)⟩
    |succ j ihj=>
     intro hj;obtain⟨l,l1,l2,l3⟩:=ihj (by omega);obtain⟨a,f1,c1⟩:=F1 hu hx (i:=m-(j+1)) (by omega) (ih e h1);rw[h2]at c1;have hs:(m-(j+1))*ce (fk P n e)+ce (fk P n e)=(m-j)*ce (fk P n e):=by rw[show m-j=(m-(j+1))+1 by omega,Nat.succ_mul]
     refine⟨a::l,by simp[l1],fun y hy=>?_,?_⟩
     .rcases aN.1 hy with rfl|hy
      .exact f1
      .exact l2 y hy
     .rw [List.flatMap_cons];refine lw.field c1 hs l3 ?_;rw[hl,h3];exact aL _ (by omega)
   obtain⟨l,l1,l2,l3⟩:=key m (am _);rw[Nat.sub_self,ir,cL]at l3;exact⟨⟨l,l1⟩,l2,l3⟩
  .simp at h
def Fa:List Ty->List V->Prop
 |[],l=>l=[]
 |a::r,l=>∃(v:El a)(m:List V),l=.x a v::m/\rP a v/\Fa r m
theorem H6{a:Ty}(v:El a):u6 a (.x a v)=some v:=by simp[u6,gC]
theorem Fa.ia:∀{cs:List Ty}{l:List V},Fa cs l->∃p,wI cs l=some p/\iB cs p=l:=by
 have key:∀(r:List Ty)(a:Ty)(l:List V),Fa (a::r) l->∃p,Fu a r l=some p:=by intro r;induction r with|nil=>rintro a l ⟨v,m,rfl,_,hm⟩;have hm:m=[]:=hm;subst hm;exact⟨v,H6 v⟩|cons c r ih=>rintro a l ⟨v,m,rfl,_,hm⟩;obtain⟨p,hp⟩:=ih c m hm;refine⟨(v,p),?_⟩;show Im (u6 a (.x a v)) (Fu c r m)=_;rw[H6,hp];rfl
 intro cs l h;cases cs with|nil=>have h:l=[]:=h;subst h;exact⟨(),rfl,rfl⟩|cons a r=>obtain⟨p,hp⟩:=key r a l h;exact⟨p,hp,qt (a::r) l p hp⟩
theorem SW{P:Program}{n:Nat}{t:TypeId}(ho:Hy P n t=true)(h1:(lQ (fk P n t)||mP (ce (fk P n t)) 1)=true){w:World}{r:Reach}{b:Nat}{v:Value}(hv:Value.okWide P w r b t v)
  {H:Type} {en:TypeId×Value->H} {x:DataW H} {ps:List MemPlace} (h:DataW.Trod en P w 0 (fun _=>true) true t v x ps):∃a:El (fk P n t),rP _ a/\RA (S0 w) w (bif lQ (fk P n t)then .agg (aS _ a)else .d ((aS _ a).headD default)) v []:=by
 have hop:=K7 n t ho;cases hag:lQ (fk P n t)with
 |true=>
  simp only[cond_true];cases n with
  |zero=>simp[Hy]at ho
  |succ n=>
   simp only[Hy]at ho;split at ho
   .rename_i hu;simp[fk,hu,lQ]at hag
   .rename_i hu;simp[fk,hu,lQ]at hag
   .rename_i hu;simp[fk,hu,lQ]at hag
   .rename_i hu;simp[fk,hu,lQ]at hag
   .rename_i hu;simp[fk,hu,lQ]at hag
   .rename_i fs hu;exact PX hop hv hu h
   .rename_i m e hu;exact PW hop hv hu h
   .simp at ho
 |false=>
  simp only[cond_false];have hsz:ce (fk P n t)=1:=by rw[hag,Bool.false_or]at h1;exact dQ h1
  have he:(fun a=>[(aS (fk P n t) a).headD default])=aS (fk P n t):=by
   funext a;have hl:=bW (fk P n t) a;rw[hsz]at hl
   match hh:aS (fk P n t) a,hl with|[d],_=>rfl
  have hs:match P.underlying t with|some (.struct _)|some (.array _ _)|some (.interface _)|some (.func ..)|some (.chan ..)|some .unsafePointer|some (.map _ _)=>False|_=>True:=by
   cases n with
   |zero=>simp[Hy]at ho
   |succ n=>
    simp only[Hy]at ho;split at ho
    .rename_i hu;rw[hu];trivial
    .rename_i hu;rw[hu];trivial
    .rename_i hu;rw[hu];trivial
    .rename_i hu;rw[hu];trivial
    .rename_i hu;rw[hu];trivial
    .rename_i fs hu;simp[fk,hu,lQ]at hag
    .rename_i m e hu;simp[fk,hu,lQ]at hag
    .simp at ho
  exact VU (d:=fun a=>(aS (fk P n t) a).headD default) (fit:=rP (fk P n t)) (by rw[he];exact hop) hv hs h
def VZ(P:Program)(ts:List TypeId):Bool:=ts.all fun t=>Hy P JK t&&(lQ (fk P JK t)||mP (ce (fk P JK t)) 1)
theorem PV{P:Program}{W:World}{aJ:Nat}{H:Type}{en:TypeId×Value->H}:∀(ts:List TypeId)(vs:List Value)(ds:List (DataW H))(ps:List MemPlace),DataW.TrodAll en P W 0 (fun _=>true) true ts vs ds ps->VZ P ts=true->
  (∀(j:Nat)t v,ts[j]?=some t->vs[j]?=some v->Value.okWide P W .any aJ t v)->∃l,Fa (ts.map (fk P JK)) l/\Ny (S0 W) W (fw (ts.map fun t=>(false,Sh.x (fk P JK t))) l) vs []:=by
 intro ts;induction ts with
 |nil=>intro vs ds ps h _ _;cases vs with|nil=>exact⟨[],rfl,rfl⟩|cons=>cases ds<;>exact h.elim
 |cons t ts ih=>
  intro vs ds ps h mo hv;cases vs with
  |nil=>cases ds<;>exact h.elim
  |cons v vs=>cases ds with|nil=>exact h.elim|cons d ds=>obtain⟨p,q,h1,h2,rfl⟩:=h;simp only[VZ,gp,ak]at mo;obtain⟨a,f1,r1⟩:=SW mo.1.1 (by simpa using mo.1.2) (hv 0 t v rfl rfl) h1;obtain⟨l,f2,r2⟩:=ih vs ds q h2 (by simpa[VZ]using mo.2) fun j t' v' ht hv'=>hv (j+1) t' v' (by simpa using ht) (by simpa using hv');exact⟨.x _ a::l,⟨a,l,rfl,f1,f2⟩,[],[],rfl,r1,r2⟩
theorem SG:∀(tys:List Ty),ff ((tys.map fun t=>(false,Sh.x t)).map (·.2))=tys:=by intro tys;induction tys with|nil=>rfl|cons a r ih=>show a::ff ((r.map fun t=>(false,Sh.x t)).map (·.2))=a::r;rw[ih]
theorem JQ{P:Program}{f:FuncId}{fn:Func}{s:ChangeSpec}{mH gx handsOn again:Bool}{tb:TypeId}{H:Type}{en:TypeId×Value->H}(hl:laidOutB P=true)(hfn:P.funcs[f]?=some fn)(hbody:fn.body.isSome=true)(hname:(fn.name== "runtime.NumGoroutine")=false)
  (hts:fn.params.toList.all (fun t=>P.readableRec t&&decide (t<P.types.size))=true) (hrt:fn.resultTypes= #[tb]) (htb:P.underlying tb=some .bool) (hvars:s.vars=[])
  {W:World} {args:Array Value} {ds gs:List (DataW H)} {e9:List MemPlace} (hW:DataW.Whole en P fn.params.toList s.vars mH W args.toList ds gs e9)
  (hspec:(s.fn H (ds++gs)).results=[.lit (.bool true)]/\(s.fn H (ds++gs)).args=ds/\(s.fn H (ds++gs)).vars=[])
  (hgl:CW (S0 W) W) {aJ:Nat} (hval:∀(j:Nat)t v,fn.params[j]?=some t->args[j]?=some v->Value.okWide P W .any aJ t v)
  {tys:List Ty} (hty:fn.params.toList.map (fk P JK)=tys) (mo:VZ P fn.params.toList=true) {ro:Bool} {kG:List Bool} {g:rp (ff ((tys.map fun t=>(false,Sh.x t)).map (·.2)))->Option (wv [([.x .b],[])])}
  (hsp:bf P f ⟨tys.map fun t=>(false,Sh.x t),[([.x .b],[])],ro,kG,g⟩) (law:∀p,Fa (ff ((tys.map fun t=>(false,Sh.x t)).map (·.2))) (iB _ p)->g p=some true):
  Calls P f args W fun e W'=>∃v,e=.returned v/\s.post en P fn mH gx handsOn again W args v W':=by
 have hW':=hW;obtain⟨p,q,hA0,hV,hpq,hfz,hnd⟩:=hW;have hA:DataW.TrodAll en P W 0 (fun _=>true) true fn.params.toList args.toList ds p:=hA0;obtain⟨l,h1,h2⟩:=PV (aJ:=aJ) _ _ _ _ hA mo fun j t v ht hv=>hval j t v (by simpa using ht) (by simpa using hv);have h3:fn.params.toList.map (fun t=>(false,Sh.x (fk P JK t)))=tys.map fun t=>(false,Sh.x t):=by rw[<-hty,mh];rfl
 rw[h3]at h2;rw[hty,<-SG tys]at h1;obtain⟨pl,hp,hu⟩:=h1.ia;have hg:=hsp.2 pl true (law pl (by rw[hu];exact h1));rw[<-hu]at h2;exact MM hl hfn hbody hname hts hrt htb hvars hW' hspec hgl ⟨_,h2,hg⟩
end Go.Ev
