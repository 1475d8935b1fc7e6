/- Code: what is evaluated is what the abstract machine does. Conditions: as stated. -/
import Derived.Test.YthcplpfiidlinaaDoorKh
import Derived.Test.YthcplpfiidlinaaDoorEvY
open Bool renaming and_eq_true->ai,and_eq_true_iff->dR,false_eq_true->aS
open List renaming all_cons->iM,all_eq_true->bc,append_nil->bB,cons_append->aU,drop_zero->cT,headD_cons->bX,length_append->av,length_drop->fI,map_cons->aB,map_map->lK,map_nil->aW,mem_append->ap,mem_append_left->aF,mem_append_right->aH,mem_cons->aP,mem_cons_of_mem->aA,nil_append->bk,nil_sublist->j9
open List.Sublist renaming refl->bL
open Nat renaming beq->kW,ble->jf,eq_of_beq_eq_true->dA,le_of_ble_eq_true->je,le_refl->au,le_trans->fc
open Option.some renaming inj->aa
open Prod.mk renaming inj->ad
namespace Go.Ev
theorem Cl(j:J)(s0 s:S2):xw j s0 s=Bn j s0 (Al j.vs s):=rfl
theorem Ck{j:J}{s1':St}{s0 s':S2}{l:List V}(hr:R2 s1' s')(hc:xw j s0 s'=some l):∀i∈s'.wo,s0.next<=i\/i∈j.kl:=by
 obtain⟨s1c,_,_,wc,hwc,_⟩:=Bh j.vs s1' s' hr;rw[Cl]at hc;unfold Bn at hc;split at hc
 case h_2=>simp at hc
 split at hc
 case h_2=>simp at hc
 split at hc
 case h_2=>simp at hc
 obtain⟨hchk,_⟩:=aO hc;simp only[ai,bc]at hchk;intro i hi;have:=hchk.1 i (by rw[hwc];simp[hi]);simpa[Nat.ble_eq]using this
theorem sX{j:J}{ds w:List Nat}{s1 s1':St}{s0 s' s'':S2}{l:List V}(hr0:R2 s1 s0)(hr:R2 s1' s')(hf:xk ds w s1 s1' s0 s')(hw:∀i∈w,s0.next<=i\/i∈j.kl)(hc:xw j s0 s'=some l)(hs:uz j ds s0 l=some s''):
  ∃s1'' w',Sub s1' s1''/\R2 s1'' s''/\s''.wo=w'++s0.wo/\xk ds w' s1 s1'' s0 s''/\∀i∈w',s0.next<=i\/i∈j.kl:=by
 obtain⟨s1c,hsub,hrc,wc,hwc,hfc⟩:=Bh j.vs s1' s' hr;have hc2:=hc;rw[Cl]at hc2
 have hwcc:∀i∈wc,s0.next<=i\/i∈j.kl:=by
  unfold Bn at hc2;split at hc2
  case h_2=>simp at hc2
  split at hc2
  case h_2=>simp at hc2
  split at hc2
  case h_2=>simp at hc2
  obtain⟨hchk,_⟩:=aO hc2;simp only[ai,bc]at hchk;intro i hi;have:=hchk.1 i (by rw[hwc];simp[hi]);simpa[Nat.ble_eq]using this
 obtain⟨s1'',w',h1,h2,h3,h4,h5⟩:=Q3 (w:=wc++w) hr0 hrc (hf.trans (hfc.mono (fun t ht=>by simp at ht) fun i hi=>hi)) (fun i hi=>by
  rcases ap.1 hi with hi|hi
  .exact hwcc i hi
  .exact hw i hi) (by rw[<-Cl];exact hc) hs
 exact⟨s1'',w',hsub.trans h1,h2,h3,h4,h5⟩
theorem Hu{β:Type}{s0 s':S2}{o:rZ}{ds:List Nat}{k:rZ->S2->Option β}{z:β}:∀(e:Ex)(x:EG e),I9 s0 o s' e=some x->KK ds s0 k e x=some z->∃j∈e,∃l s'',xw j.2 s0 s'=some l/\uz j.2 ds s0 l=some s''/\k o s''=some z:=by
 have fin:∀(j:J)(p:qx (pT j))(l:List V),vU (pT j) l=some p->(match uz j ds s0 (oY (pT j) p)with|some s=>k o s|none=>none)=some z->∃s'',uz j ds s0 l=some s''/\k o s''=some z:=by
  intro j p l h1 h2;rw[pY _ _ _ h1]at h2;split at h2
  .rename_i s'' hs;exact⟨s'',hs,h2⟩
  .simp at h2
 have key:∀(r:Ex)(o1:rZ)(j:J)(x:EG.M5 j r),LL s0 o s' o1 j r=some x->P_ ds s0 k o1 j r x=some z->∃j'∈(o1,j)::r,∃l s'',xw j'.2 s0 s'=some l/\uz j'.2 ds s0 l=some s''/\k o s''=some z:=by
  intro r;induction r with
  |nil=>
   intro o1 j x hx hz;simp only[LL]at hx;obtain⟨ho,hx2⟩:=aO hx;clear hx;obtain rfl:o=o1:=by simpa using ho
   split at hx2
   .rename_i l hl;obtain⟨s'',h1,h2⟩:=fin j x l hx2 hz;exact⟨(o,j),by simp,l,s'',hl,h1,h2⟩
   .simp at hx2
  |cons q r ih=>
   obtain⟨o2,j2⟩:=q;intro o1 j x hx hz;simp only[LL]at hx;cases hd:decide (o=o1)with
   |true=>
    rw[hd,cond_true]at hx;obtain rfl:o=o1:=by simpa using hd
    split at hx
    .rename_i l hl;split at hx
     .rename_i p hp;obtain rfl:=aa hx;obtain⟨s'',h1,h2⟩:=fin j p l hp hz;exact⟨(o,j),by simp,l,s'',hl,h1,h2⟩
     .simp at hx
    .simp at hx
   |false=>
    rw[hd,cond_false]at hx;split at hx
    .rename_i y hy;obtain rfl:=aa hx;obtain⟨j',h1,h2⟩:=ih o2 j2 y hy hz;exact⟨j',aA _ h1,h2⟩
    .simp at hx
 intro e x hx hz;cases e with|nil=>exact nomatch x|cons q r=>exact key r q.1 q.2 x hx hz
def RI{β:Type}(ds:List Nat)(s1:St)(s:S2)(k:rZ->S2->Option β)(z:β)(o:rZ)(s1':St):Prop:=wk (fun s1''=>∃s',R2 s1'' s'/\Fr ds s1 s1'' s s'/\k o s'=some z) s1'
theorem Jm{P:Program}{tb:EF}(htb:pM P tb)(hg:lN):∀(c:C2){β:Type}(s1:St)(s:S2)(k:rZ->S2->Option β)(z:β),xr tb c s k=some z->R2 s1 s->W P (nz c) s1 (RI (mP c) s1 s k z):=by
 intro c;induction c with
 |skip=>intro β s1 s k z hz hr;exact wk.of (wk.of ⟨s,hr,Fr.refl,hz⟩)
 |exit id=>intro β s1 s k z hz hr;exact wk.of (wk.of ⟨s,hr,Fr.refl,hz⟩)
 |ret=>intro β s1 s k z hz hr;exact wk.of (wk.of ⟨s,hr,Fr.refl,hz⟩)
 |gu=>intro β s1 s k z hz hr;simp[xr]at hz
 |NS ops dr jn=>
  intro β s1 s k z hz hr;cases jn with
  |none=>refine W.mono (fun o s1' h=>?_) (C9 (jn:=none) htb hg (show HE tb ops dr s (fun s=>k .normal s)=some z by simpa only[xr]using hz) hr);obtain⟨rfl,s',h1,h2,h3⟩:=h;exact wk.of ⟨s',h1,h2,h3⟩
  |some j=>
   simp only[xr]at hz;obtain⟨p,hp,hz⟩:=rK hz;refine W.mono (fun o s1' h=>?_) (C9 (jn:=some j) htb hg hp (hr.wo []));obtain⟨rfl,s',h1,⟨w,h2,h3⟩,h4⟩:=h;split at h4
   .rename_i l hl;rw[pY _ _ _ h4]at hz;split at hz
    .rename_i s'' hs;have hf:xk (ops.filterMap (·.o.dst)) w s1 s1' s s':=⟨h3.le,h3.eY,h3.gl,h3.ob,h3.dT⟩
     obtain⟨s1'',w',g1,g2,g3,g4,_⟩:=sX hr h1 hf (fun i hi=>Ck h1 hl i (by rw[h2];simp[hi])) hl hs;exact⟨s1'',g1,s'',g2,⟨w',g3,g4⟩,hz⟩
    .simp at hz
   .simp at h4
 |seq a b e iha ihb=>
  intro β s1 s k z hz hr;have go:∀(o:rZ)(s1' s1'':St)(s':S2),Sub s1' s1''->R2 s1'' s'->Fr (mP a) s1 s1'' s s'->(match o with|.normal=>xr tb b s' k|o=>k o s')=some z->uk (fun s'=>W P (nz b) s' (RI (mP (.seq a b e)) s1 s k z)) (RI (mP (.seq a b e)) s1 s k z) o s1':=by intro o s1' s1'' s' hsub h1 h2 h3;have hda:∀t∈mP a,t∈mP (.seq a b e):=fun t ht=>aF _ ht;have hdb:∀t∈mP b,t∈mP (.seq a b e):=fun t ht=>aH _ ht;cases o with|normal=>refine W.sub hsub (W.mono (fun o s2 h=>?_) (ihb s1'' s' k z h3 h1));exact wk.mono h fun _⟨s3,g1,g2,g3⟩=>⟨s3,g1,(h2.mono hda).trans (g2.mono hdb),g3⟩|exit id=>exact⟨s1'',hsub,s',h1,h2.mono hda,h3⟩|ret=>exact⟨s1'',hsub,s',h1,h2.mono hda,h3⟩
  cases e with
  |nil=>simp only[xr]at hz;refine O9 (W.mono (fun o s1' h=>?_) (iha s1 s _ z hz hr));obtain⟨s1'',hsub,s',h1,h2,h3⟩:=h;exact go o s1' s1'' s' hsub h1 h2 h3
  |cons q r=>
   simp only[xr]at hz;obtain⟨x,hx,hz⟩:=rK hz;refine O9 (W.mono (fun o s1' h=>?_) (iha s1 {s with wo:=[]} _ x hx (hr.wo [])));obtain⟨s1'',hsub,s',h1,⟨w,h2,h3⟩,h4⟩:=h;obtain⟨j,_,l,s'',g1,g2,g3⟩:=Hu (q::r) x h4 hz;have hf:xk (mP a) w s1 s1'' s s':=⟨h3.le,h3.eY,h3.gl,h3.ob,h3.dT⟩
   obtain⟨s2,w',k1,k2,k3,k4,_⟩:=sX hr h1 hf (fun i hi=>Ck h1 g1 i (by rw[h2];simp[hi])) g1 g2;exact go o s1' s2 s'' (hsub.trans k1) k2 ⟨w',k3,k4⟩ g3
 |cond c a b iha ihb=>
  intro β s1 s k z hz hr;have hda:∀t∈mP a,t∈mP (.cond c a b):=fun t ht=>aF _ ht;have hdb:∀t∈mP b,t∈mP (.cond c a b):=fun t ht=>aH _ ht
  have go:∀t,kR s1.dT c=some (tB t)->(bif t then xr tb a s k else xr tb b s k)=some z->W P (nz (.cond c a b)) s1 (RI (mP (.cond c a b)) s1 s k z):=by
   intro t hc hz;refine PN (t:=t) hc (fun ht=>?_) fun ht=>?_
   .subst ht;exact W.mono (fun o s2 h=>wk.mono h fun _⟨s3,g1,g2,g3⟩=>⟨s3,g1,g2.mono hda,g3⟩) (iha s1 s k z hz hr)
   .subst ht;exact W.mono (fun o s2 h=>wk.mono h fun _⟨s3,g1,g2,g3⟩=>⟨s3,g1,g2.mono hdb,g3⟩) (ihb s1 s k z hz hr)
  simp only[xr]at hz;split at hz
  .rename_i t ht;obtain⟨x,h1,h2,_⟩:=ot hg hr ht;rw[vS h2]at h1;exact go t h1 hz
  .rename_i t ht;obtain⟨x,h1,h2,_⟩:=ot hg hr ht;rw[GX h2]at h1;exact go t h1 hz
  .simp at hz
 |block id a ih=>
  intro β s1 s k z hz hr;simp only[xr]at hz;refine Nq (W.mono (fun o s1' h=>?_) (ih s1 s _ z hz hr));cases o with
  |normal=>exact h
  |ret=>exact h
  |exit i=>
   simp only[vJ];obtain⟨s1'',hsub,s',h1,h2,h3⟩:=h;by_cases e:i=id
   .subst e;rw[if_pos rfl];simp only[beq_self_eq_true,cond_true]at h3;exact⟨s1'',hsub,s',h1,h2,h3⟩
   .rw [if_neg e];have e':(i==id)=false:=by simpa using e
    simp only[e',cond_false]at h3;exact⟨s1'',hsub,s',h1,h2,h3⟩
 |loop j e a ih=>
  intro β s1 s k z hz hr;simp only[xr]at hz;obtain⟨hkl,hz⟩:=aO hz;have hkl:∀x∈e,∀i∈j.kl,i∈x.2.kl:=fun x hx i hi=>by have:=bc.1 (bc.1 hkl x hx) i hi;simpa using this
  split at hz
  case h_2=>simp at hz
  rename_i l hl;split at hz
  case h_2=>simp at hz
  rename_i p0 hp0;obtain⟨x,hx,hz⟩:=rK hz;obtain⟨n,hn⟩:=o6.1 hx;clear hx
  generalize hf:(fun(p:qx (pT j))=>(match uz j (mP a) s (oY (pT j) p)with
     |some s1=>xr tb a {s1 with wo:=[]} fun o s'=>(match o with
      |.normal=>(match xw j s s' with|some l=>(match vU (pT j) l with|some q=>some (Sum.inl q)|none=>none)|none=>none)
      |o=>(match I9 s o s' e with|some x=>some (Sum.inr x)|none=>none))
     |none=>none:Option (qx (pT j)⊕EG e)))=f at hn
  have hrs:∀n p,jk f n p=some x->∃s2,uz j (mP a) s (oY (pT j) p)=some s2:=by
   intro n p h;cases n with
   |zero=>simp[jk]at h
   |succ n=>
    cases hq:uz j (mP a) s (oY (pT j) p)with
    |some s2=>exact⟨s2,rfl⟩
    |none=>
     have:f p=none:=by rw[<-hf];simp only[hq]
     simp[jk,this]at h
  refine⟨fun n t=>∃p s2 w,jk f n p=some x/\uz j (mP a) s (oY (pT j) p)=some s2/\R2 t s2/\xk (mP a) w s1 t s s2/\∀i∈w,s.next<=i\/i∈j.kl,n,?_,?_⟩
  .obtain ⟨s2,hs2⟩:=hrs n p0 hn;have hs3:=hs2;rw[pY _ _ _ hp0]at hs3;obtain⟨s1'',w',g1,g2,_,g4,g5⟩:=sX (w:=[]) hr (hr.wo []) ⟨au _,k7.refl _ _,rfl,fun _ _ _=>⟨rfl,fun _ _ _ h=>h⟩,fun _ _ _ h _=>h⟩ (fun i hi=>by simp at hi) hl hs3;exact⟨s1'',g1,p0,s2,w',hn,hs2,g2,g4,g5⟩
  .rintro n t ⟨p,s2,w,h1,h2,h3,h4,h5⟩;cases n with
   |zero=>simp[jk]at h1
   |succ n=>
    have hfp:f p=xr tb a {s2 with wo:=[]} fun o s'=>(match o with
      |.normal=>(match xw j s s' with|some l=>(match vU (pT j) l with|some q=>some (Sum.inl q)|none=>none)|none=>none)
      |o=>(match I9 s o s' e with|some x=>some (Sum.inr x)|none=>none)):=by
     rw[<-hf];simp only[h2]
    have hend:∀(o:rZ)(t' t'':St)(s':S2)(y:EG e),o≠.normal->Sub t' t''->R2 t'' s'->Fr (mP a) t t'' {s2 with wo:=[]} s'->I9 s o s' e=some y->y=x->RI (mP a) s1 s k z o t':=by
     rintro o t' t'' s' y _ hsub r1 ⟨wb,e1,e2⟩ hy rfl;obtain⟨j',hj',l',s'',g1,g2,g3⟩:=Hu e y hy hz;have hfw:xk (mP a) (wb++w) s1 t'' s s':=h4.trans ⟨e2.le,e2.eY,e2.gl,e2.ob,e2.dT⟩
     obtain⟨s3,w',k1,k2,k3,k4,_⟩:=sX hr r1 hfw (fun i hi=>by
      rcases ap.1 hi with hi|hi
      .exact Ck r1 g1 i (by rw[e1];simp[hi])
      .exact (h5 i hi).imp id (hkl j' hj' i)) g1 g2
     exact⟨s3,hsub.trans k1,s'',k2,⟨w',k3,k4⟩,g3⟩
    simp only[jk]at h1;cases hr1:f p with
    |none=>simp[hr1]at h1
    |some r=>
     rw[hr1]at h1;rw[hfp]at hr1;refine W.mono (fun o t' hq=>?_) (ih t _ _ r hr1 (h3.wo []));obtain⟨t'',hsub,s',r1,r2,r3⟩:=hq;cases o with
     |normal=>
      simp only at r3;split at r3
      .rename_i l2 hl2;split at r3
       .rename_i q hq;obtain rfl:=aa r3;simp only at h1;obtain⟨wb,e1,e2⟩:=r2;obtain⟨s3,hs3⟩:=hrs n q h1;have hs4:=hs3;rw[pY _ _ _ hq]at hs4;have hfw:xk (mP a) (wb++w) s1 t'' s s':=h4.trans ⟨e2.le,e2.eY,e2.gl,e2.ob,e2.dT⟩
        obtain⟨t3,w',k1,k2,_,k4,k5⟩:=sX hr r1 hfw (fun i hi=>by
         rcases ap.1 hi with hi|hi
         .exact Ck r1 hl2 i (by rw[e1];simp[hi])
         .exact h5 i hi) hl2 hs4
        exact⟨n,Nat.lt_succ_self n,t3,hsub.trans k1,q,s3,w',h1,hs3,k2,k4,k5⟩
       .simp at r3
      .simp at r3
     |exit id=>
      simp only at r3;split at r3
      .rename_i y hy;obtain rfl:=aa r3;exact hend (.exit id) t' t'' s' y (by simp) hsub r1 r2 hy (aa h1)
      .simp at r3
     |ret=>
      simp only at r3;split at r3
      .rename_i y hy;obtain rfl:=aa r3;exact hend .ret t' t'' s' y (by simp) hsub r1 r2 hy (aa h1)
      .simp at r3
section
variable{h:H2}{n:Nat}{h1:bH}
theorem Dg{id sz lo len:Nat}{ao:List (List D)}(ho:aC h1 id=some (.aM sz ao)\/aC h1 id=some (.qK sz ao))(hl:lo+len<=ao.length)(szo:Nat):
  ∃t bv rd,(∀k,eK h1 k (.fq szo id lo len)=some (t,bv,rd))/\sf t=.sl szo ((ao.drop lo).take len)/\bv.Sublist [id]/\(aC h1 id=some (.aM sz ao)->t=.sl szo ((ao.drop lo).take len)):=by
 by_cases ha:aC h1 id=some (.aM sz ao)
 .exact ⟨.sl szo ((ao.drop lo).take len),[id],[id],fun k=>by cases k<;>simp only[eK,ha,if_pos hl],rfl,bL _,fun _=>rfl⟩
 .have hi:=ho.resolve_left ha;exact⟨.d (.sl szo ((ao.drop lo).take len)),[],[id],fun k=>by cases k<;>simp only[eK,hi,if_pos hl],rfl,j9 _,fun e=>absurd e ha⟩
theorem NZ(hr:HR n h1 h){id ver:Nat}{t:Ty}{s:Sl (El t)}(ho:fO h id=some (.ar t s ver)\/fO h id=some (.im t s ver)):
  ∃q bv rd,(∀k,eK h1 k (mU (bE t) (aT t) id s)=some (q,bv,rd))/\sf q=BI (bE t) (aT t) s/\bv.Sublist [id]:=by
 cases s with
 |nil=>exact⟨_,_,_,fun k=>vb k _,rfl,j9 _⟩
 |mk l=>
  have hb:aC h1 id=some (.aM (bE t) (l.map (aT t)))\/aC h1 id=some (.qK (bE t) (l.map (aT t))):=by
   rcases ho with ho|ho
   .exact .inl ((hr.ob id _ ho).2.1.2.2 l rfl)
   .exact .inr ((hr.ob id _ ho).2.1.2.2 l rfl)
  obtain⟨q,bv,rd,g1,g2,g3,_⟩:=Dg (lo:=0) (len:=(l.map (aT t)).length) hb (by omega) (bE t);rw[vy]at g2;exact⟨q,bv,rd,g1,g2,g3⟩
theorem LZ{t:Ty}(s:Sl (Sl (El t))):sf (x_ t s)=BI 1 (aT (.sl t)) (s:Sl (El (.sl t))):=by cases s with|nil=>rfl|mk l=>simp only[x_,sf,BI,lK];congr 1;exact List.map_congr_left fun r _=>by cases r<;>rfl
theorem N0(hr:HR n h1 h){id:Nat}{t:Ty}{s:Sl (Sl (El t))}(ho:fO h id=some (.rw t s none)):
  ∃bv rd,(∀k,eK h1 k (mU 1 (aT (.sl t)) id (s:Sl (El (.sl t))))=some (x_ t s,bv,rd))/\bv.Sublist [id]:=by
 cases s with|nil=>exact⟨_,_,fun k=>vb k _,j9 _⟩|mk l=>exact⟨_,_,fun k=>TZ (k:=k) ((hr.ob id _ ho).2.1.2.2 l rfl),bL _⟩
theorem G9(hr:HR n h1 h){id ver lo:Nat}{t:Ty}{r:Sl (El t)}(hk:ft n h (.sb id ver lo t r))(ha:GH h id ver=true):
  ∃q bv rd,(∀k,eK h1 k (zW id lo t r)=some (q,bv,rd))/\sf q=BI (bE t) (aT t) r/\bv.Sublist [id]/\((∃u s v,fO h id=some (.ar u s v))->q=zU (bE t) (aT t) r):=by
 obtain⟨u,s,ho⟩:=n_ ha;obtain⟨_,hc⟩:=hk.2 u s ver ho;obtain⟨hz,hc⟩:=hc rfl;cases r with
 |nil=>exact⟨_,_,_,fun k=>vb k _,rfl,j9 _,fun _=>rfl⟩
 |mk m=>
  cases s with
  |nil=>exact hc.elim
  |mk l=>
   obtain⟨hl,he⟩:=hc
   have hb:aC h1 id=some (.aM (bE u) (l.map (aT u)))\/aC h1 id=some (.qK (bE u) (l.map (aT u))):=by
    rcases ho with ho|ho
    .exact .inl ((hr.ob id _ ho).2.1.2.2 l rfl)
    .exact .inr ((hr.ob id _ ho).2.1.2.2 l rfl)
   obtain⟨q,bv,rd,g1,g2,g3,g4⟩:=Dg (lo:=lo) (len:=(m.map (aT t)).length) hb (by simpa using hl) (bE t);rw[show(m.map (aT t)).length=m.length by simp,he]at g2 g4;refine⟨q,bv,rd,fun k=>?_,g2,g3,?_⟩
   .have:=g1 k;simpa[zW]using this
   .rintro ⟨u',s',v',ho'⟩;rcases ho with ho|ho
    .exact g4 ((hr.ob id _ ho).2.1.2.2 l rfl)
    .rw [ho']at ho;simp at ho
theorem I1(ds:List D):(ds.map T.d).map sf=ds:=by induction ds with|nil=>rfl|cons d ds ih=>simp only[aB,sf,ih]
theorem L1(hr:HR n h1 h):∀(v w:V)(l:List Nat)(cs:List C),kN h v=some (w,l)->fC h v cs->ft n h v->iD h v=true->
  ∃ts bv rd,(∀k,cs.length<=k->iJ h1 k cs=some (ts,bv,rd))/\fC h w ((ts.map sf).map .d)/\bv.Sublist l/\cs.length=ts.length/\te w=te v:=by
 have done:∀(v:V)(ds:List D),fC h v (ds.map .d)->∃ts bv rd,(∀k,(ds.map C.d).length<=k->iJ h1 k (ds.map .d)=some (ts,bv,rd))/\fC h v ((ts.map sf).map .d)/\bv.Sublist ([]:List Nat)/\(ds.map C.d).length=ts.length/\te v=te v:=fun v ds hv=>⟨ds.map .d,[],[],fun k hk=>p9 ds k (by simpa using hk),by rw[I1];exact hv,bL _,by simp,rfl⟩
 have one:∀(c:C)(q:T)(bv rd:List Nat),(∀k,eK h1 k c=some (q,bv,rd))->∀k,[c].length<=k->iJ h1 k [c]=some ([q],bv,rd):=fun c q bv rd hq k hk=>by
  obtain⟨k,rfl⟩:∃k',k=k'+1:=⟨k-1,by simp at hk;omega⟩
  exact u9 (hq k)
 intro v;induction v with
 |so id=>
  intro w l cs hf hv hk ha;simp only[kN]at hf;split at hf
  .rename_i t s l' hs;obtain⟨rfl,rfl⟩:=ad (aa hf);obtain⟨ver,ho,e⟩:=vW hs;have e:l'=[id]:=e;subst e;obtain⟨c,rfl,hc,_⟩:=hv;rw[hc _ (mS ho)];obtain⟨q,bv,rd,q1,q2,q3⟩:=NZ hr ho;have hd:kY t=true:=by rcases ho with ho|ho<;>exact(hr.ob id _ ho).2.1.1
   exact⟨[q],bv,rd,one _ q bv rd q1,⟨hd,by simp only[aB,aW,q2];rfl⟩,q3,rfl,rfl⟩
  .simp at hf
 |sr id=>
  intro w l cs hf hv hk ha;simp only[kN]at hf;split at hf
  .rename_i t s ho;obtain⟨rfl,rfl⟩:=ad (aa hf);obtain⟨c,rfl,hc,_⟩:=hv;rw[hc _ (sB ho)];obtain⟨bv,rd,q1,q3⟩:=N0 hr ho;exact⟨[_],bv,rd,one _ _ bv rd q1,⟨(hr.ob id _ ho).2.1.1,by simp only[aB,aW,LZ];rfl⟩,q3,rfl,rfl⟩
  .simp at hf
 |sb id ver lo t r=>intro w l cs hf hv hk ha;simp only[kN,t_]at hf;obtain⟨rfl,rfl⟩:=ad (aa hf);obtain⟨hd,ha⟩:=dR.1 ha;have ha:GH h id ver=true:=ha;obtain⟨c,rfl,hc,_⟩:=hv;rw[hc ha];obtain⟨q,bv,rd,q1,q2,q3,_⟩:=G9 hr hk ha;exact⟨[q],bv,rd,one _ q bv rd q1,⟨hd,by simp only[aB,aW,q2];rfl⟩,q3,rfl,rfl⟩
 |rc r ih=>
  intro w l cs hf hv hk ha;simp only[kN]at hf;split at hf
  .rename_i w' l' hw;obtain⟨rfl,rfl⟩:=ad (aa hf);obtain⟨ts,bv,rd,a1,a2,a3,a4,_⟩:=ih w' l' cs hw hv hk ha;exact⟨ts,bv,rd,a1,a2,a3,a4,rfl⟩
  .simp at hf
 |co a r iha ihr=>
  intro w l cs hf hv hk ha;simp only[kN]at hf;split at hf
  .rename_i x l1 y l2 hx hy;obtain⟨rfl,rfl⟩:=ad (aa hf);obtain⟨ca,cr,rfl,h2,h3⟩:=hv;simp only[iD,ai]at ha;obtain⟨ts,bv,rd,a1,a2,a3,a4,_⟩:=iha x l1 ca hx h2 hk.1 ha.1;obtain⟨us,own2,rd2,b1,b2,b3,b4,_⟩:=ihr y l2 cr hy h3 hk.2 ha.2;refine⟨ts++us,bv++own2,rd++rd2,fun k hk=>?_,⟨_,_,by simp,a2,b2⟩,a3.append b3,by simp[a4,b4],rfl⟩;simp only[av]at hk;exact u_ (a1 k (by omega)) (b1 _ (by omega)) (by omega)
  .simp at hf
 |x t v=>intro w l cs hf hv hk ha;obtain⟨rfl,rfl⟩:=ad (aa hf);obtain⟨hd,rfl⟩:=hv;exact done _ _ ⟨hd,rfl⟩
 |kb c=>intro w l cs hf hv hk ha;obtain⟨rfl,rfl⟩:=ad (aa hf);obtain rfl:=hv;exact done (.kb c) [_] rfl
 |nl k=>intro w l cs hf hv hk ha;obtain⟨rfl,rfl⟩:=ad (aa hf);obtain rfl:=hv;exact done (.nl k) [_] rfl
 |fl q=>
  intro w l cs hf hv hk ha;obtain⟨rfl,rfl⟩:=ad (aa hf);obtain⟨hp,rfl⟩:=hv;have e:fB q=(q.map D.lit).map C.d:=by simp[fB]
  rw[e];exact done (.fl q) (q.map D.lit) ⟨hp,e.symm⟩
 |ni=>intro w l cs hf hv hk ha;obtain⟨rfl,rfl⟩:=ad (aa hf);obtain rfl:=hv;exact done .ni [] rfl
 |pt t v=>intro w l cs hf hv hk ha;obtain⟨rfl,rfl⟩:=ad (aa hf);obtain⟨hd,rfl⟩:=hv;exact done (.pt t v) [_] ⟨hd,rfl⟩
 |fn z f q ih=>intro w l cs hf hv hk ha;cases z with|true=>obtain⟨rfl,rfl⟩:=ad (aa hf);obtain⟨ds,hd,rfl⟩:=hv;exact done (.fn true f q) [_] ⟨ds,hd,rfl⟩|false=>simp[kN]at hf
 |_=>intro w l cs hf hv hk ha;simp[kN]at hf
def F0:Sh->Bool
 |.x _=>true
 |_=>false
theorem MZ:∀(c:Sh)(ln:Bool)(v:V)(l:List V)(i:List Nat),dZ h c ln v=some (l,i)->l.length=(OG c).length:=by
 intro c;induction c with
 |x t=>
  intro ln v l i ha;cases ln with
  |true=>simp[dZ]at ha
  |false=>
   simp only[dZ]at ha;split at ha
   .obtain ⟨rfl,_⟩:=ad (aa ha);rfl
   .simp at ha
 |os t=>
  intro ln v l i ha;cases ln with
  |true=>simp[dZ]at ha
  |false=>
   cases v with
   |so id=>
    simp only[dZ]at ha;split at ha
    .split at ha
     .obtain ⟨rfl,_⟩:=ad (aa ha);rfl
     .simp at ha
    .simp at ha
   |nl k=>cases k with|zero=>obtain⟨rfl,_⟩:=ad (aa ha);rfl|succ=>simp[dZ]at ha
   |_=>simp[dZ]at ha
 |rw t=>
  intro ln v l i ha;cases ln with
  |true=>simp[dZ]at ha
  |false=>
   cases v with
   |sr id=>
    simp only[dZ]at ha;split at ha
    .split at ha
     .obtain ⟨rfl,_⟩:=ad (aa ha);rfl
     .simp at ha
    .simp at ha
   |nl k=>cases k with|zero=>obtain⟨rfl,_⟩:=ad (aa ha);rfl|succ=>simp[dZ]at ha
   |_=>simp[dZ]at ha
 |pb t c ih=>
  intro ln v l i ha;cases ln with
  |true=>simp[dZ]at ha
  |false=>
   cases v with
   |op id u p=>
    cases p with
    |cons=>simp[dZ]at ha
    |nil=>
     simp only[dZ]at ha;split at ha
     .obtain ⟨_,ha⟩:=aO ha;split at ha
      .rename_i hh;obtain⟨rfl,_⟩:=ad (aa ha);exact ih _ _ _ _ hh
      .simp at ha
     .simp at ha
   |_=>simp[dZ]at ha
 |nl k=>
  intro ln v l i ha;cases ln with
  |true=>simp[dZ]at ha
  |false=>cases v with|nl k'=>simp only[dZ]at ha;obtain⟨_,ha⟩:=aO ha;obtain⟨rfl,_⟩:=ad (aa ha);rfl|_=>simp[dZ]at ha
 |st c ih=>
  intro ln v l i ha;cases ln with
  |true=>simp[dZ]at ha
  |false=>
   cases v with
   |rc q=>exact ih true q l i ha
   |x t v=>cases t with|st u=>exact ih true _ l i ha|_=>simp[dZ]at ha
   |_=>simp[dZ]at ha
 |pr a c iha ihc=>
  intro ln v l i ha;cases ln with
  |false=>simp[dZ]at ha
  |true=>
   cases v with
   |co x r=>
    simp only[dZ]at ha;split at ha
    .rename_i l1 i1 l2 i2 h2 h3;obtain⟨rfl,rfl⟩:=ad (aa ha)
     have hA:l1.length=(OG a).length:=by
      split at h2
      .unfold Qo at h2;split at h2
       .obtain ⟨rfl,_⟩:=ad (aa h2);rfl
       .simp at h2
      .exact iha _ _ _ _ h2
     rw[av,hA,ihc _ _ _ _ h3];simp[OG]
    .simp at ha
   |_=>simp[dZ]at ha
 |ni=>
  intro ln v l i ha;cases ln with
  |false=>cases v<;>simp[dZ]at ha
  |true=>cases v with|ni=>obtain⟨rfl,_⟩:=ad (aa ha);rfl|_=>simp[dZ]at ha
 |_=>intro ln v l i ha;cases ln<;>cases v<;>simp[dZ]at ha
theorem OZ{c:Sh}{v:V}{l:List V}{i:List Nat}(ha:dZ h c false v=some (l,i))(hx:F0 c=false):te v=xz c/\gy h v=sx h v:=by
 cases c with
 |x t=>simp[F0]at hx
 |os t=>cases v<;>first|exact⟨rfl,rfl⟩|simp[dZ]at ha
 |rw t=>cases v<;>first|exact⟨rfl,rfl⟩|simp[dZ]at ha
 |pb t c=>cases v<;>first|exact⟨rfl,rfl⟩|simp[dZ]at ha
 |nl k=>cases v<;>first|exact⟨rfl,rfl⟩|simp[dZ]at ha
 |st c=>
  cases v with
  |rc q=>exact⟨rfl,rfl⟩
  |x t v=>cases t with|st u=>exact⟨rfl,rfl⟩|_=>simp[dZ]at ha
  |_=>simp[dZ]at ha
 |_=>cases v<;>simp[dZ]at ha
theorem sG{c:C}{ts:List T}{bv rd:List Nat}(hp:iJ h1 301 [c]=some (ts,bv,rd)):∃t rd',eK h1 300 c=some (t,bv,rd')/\ts=[t]:=by
 simp only[iJ,pj]at hp;split at hp
 .rename_i t a i xs b j hc hn;obtain⟨rfl,e⟩:=ad (aa hp);obtain⟨rfl,rfl⟩:=ad e;obtain⟨rfl,e⟩:=ad (aa hn);obtain⟨rfl,rfl⟩:=ad e;exact⟨t,i,by simpa using hc,rfl⟩
 .simp at hp
theorem KB(hr:HR n h1 h){c:Sh}{v:V}{l:List V}{i:List Nat}{x:TV}(hc:NQ h c v=some (l,i))(hx:gy h v x)(hk:ft n h v)(ha:iD h v=true)(hf:jf (qy c) 300=true):
  l.length=(OG c).length/\∃r0 bv,rR h1 x=some (r0,bv)/\bv.Sublist i/\∀rest,(bif F0 c then Jd r0 else r0)=(bif xz c then .agg (fF c (l++rest)).1 else .c ((fF c (l++rest)).1.headD default))/\(fF c (l++rest)).2=rest:=by
 have hf:qy c<=300:=je hf;have main:F0 c=false->dZ h c false v=some (l,i)->l.length=(OG c).length/\∃r0 bv,rR h1 x=some (r0,bv)/\bv.Sublist i/\∀rest,(bif F0 c then Jd r0 else r0)=(bif xz c then .agg (fF c (l++rest)).1 else .c ((fF c (l++rest)).1.headD default))/\(fF c (l++rest)).2=rest:=by intro hX hc;obtain⟨hag,htv⟩:=OZ hc hX;rw[htv]at hx;obtain⟨cs,h2,h3,h4⟩:=hx;obtain⟨ts,bv,rd,g1,g2,g3,_,_,g6,_⟩:=wO hr c false v l i cs hc h2 hk;refine⟨MZ _ _ _ _ _ hc,?_⟩;cases hg:xz c with|true=>obtain rfl:=h3 (hag.trans hg);refine⟨.agg ts,bv,by simp only[rR,g1 300 hf],g3,fun rest=>?_⟩;rw[g2 rest,hX];exact⟨rfl,rfl⟩|false=>obtain⟨c1,rfl,rfl⟩:=h4 (hag.trans hg);obtain⟨t,rd',p1,rfl⟩:=sG (g1 301 (by omega));refine⟨.c t,bv,by simp only[rR,p1],g3,fun rest=>?_⟩;rw[g2 rest,hX];exact⟨rfl,rfl⟩
 cases c with
 |x t=>
  simp only[NQ]at hc;split at hc
  .rename_i w l' hw;split at hc
   .rename_i y hy;obtain⟨rfl,rfl⟩:=ad (aa hc);have h5:sx h v x:=by cases v with|tp q=>simp[kN]at hw|no=>simp[iD]at ha|gn=>simp[iD]at ha|_=>exact hx
    obtain⟨cs,h2,h3,h4⟩:=h5;obtain⟨ts,bv,rd,g1,g2,g3,g4,g5⟩:=L1 hr v w l' cs hw h2 hk ha;have e:=jI w false t y _ hy g2;have e:=pA e;have hag:te v=nv t:=g5.symm.trans (wG hy);have hlen:cs.length=bE t:=by rw[g4,<-bJ t y,<-e,List.length_map]
    have hf2:bE t+1<=300:=hf;refine⟨rfl,?_⟩;cases hg:nv t with|true=>obtain rfl:=h3 (hag.trans hg);refine⟨.agg ts,bv,by simp only[rR,g1 300 (by omega)],g3,fun rest=>⟨?_,rfl⟩⟩;simp only[F0,cond_true,Jd,xz,hg,fF,aU,bk,R.agg.injEq];rw[<-e,lK];rfl|false=>obtain⟨c1,rfl,rfl⟩:=h4 (hag.trans hg);obtain⟨q,rd',p1,rfl⟩:=sG (g1 301 (by simp));refine⟨.c q,bv,by simp only[rR,p1],g3,fun rest=>⟨?_,rfl⟩⟩;simp only[F0,cond_true,Jd,xz,hg,cond_false,fF,aU,bk,R.c.injEq];rw[<-e];rfl
   .simp at hc
  .simp at hc
 |os t=>
  cases v with
  |sb id ver lo u r=>
   simp only[NQ]at hc;split at hc
   .rename_i u0 s0 v0 ho;split at hc
    .rename_i s hs;obtain⟨rfl,rfl⟩:=ad (aa hc);obtain⟨e,rfl⟩:=du hs;cases e;obtain rfl:=qg hx ha;obtain⟨q,bv,rd,q1,_,q3,q4⟩:=G9 hr hk (dR.1 ha).2;obtain rfl:=q4 ⟨_,_,_,ho⟩;exact⟨rfl,.c (zU (bE t) (aT t) r),bv,by simp only[rR,q1],q3,fun rest=>⟨rfl,rfl⟩⟩
    .simp at hc
   .simp at hc
  |_=>exact main rfl hc
 |_=>exact main rfl hc
theorem Fu(hr:HR n h1 h):∀(cs:List Sh)(vs:List V)(l:List V)(i:List Nat)(xs:List TV),AJ h cs vs=some (l,i)->mN h vs xs->(∀v∈vs,ft n h v/\iD h v=true)->cs.all (fun c=>jf (qy c) 300)=true->
  l.length=(gZ cs).length/\∃rs0 bv,uD h1 xs=some (rs0,bv)/\bv.Sublist i/\uf (cs.map F0) rs0=mK cs l:=by
 intro cs;induction cs with
 |nil=>intro vs l i xs hc hx _ _;cases vs with|cons=>simp[AJ]at hc|nil=>obtain⟨rfl,rfl⟩:=ad (aa hc);rw[lU hx];exact⟨rfl,[],[],rfl,bL _,rfl⟩
 |cons c cs ih=>
  intro vs l i xs hc hx hk hf;cases vs with
  |nil=>simp[AJ]at hc
  |cons v vs=>
   simp only[AJ]at hc;split at hc
   .rename_i l1 i1 l2 i2 h2 h3;obtain⟨rfl,rfl⟩:=ad (aa hc);obtain⟨y,ys,rfl,hy,hys⟩:=gU hx;simp only[iM,ai]at hf;obtain⟨e1,r0,bv,a1,a2,a3⟩:=KB hr h2 hy (hk v (by simp)).1 (hk v (by simp)).2 hf.1;obtain⟨e2,rs0,own2,b1,b2,b3⟩:=ih vs l2 i2 ys h3 hys (fun w hw=>hk w (by simp[hw])) hf.2;refine⟨by simp[gZ,e1,e2],r0::rs0,bv++own2,by simp only[uD,a1,b1],a2.append b2,?_⟩;obtain⟨c1,c2⟩:=a3 l2;simp only[aB,uf,mK,c2,b3];rw[<-c1];cases F0 c<;>rfl
   .simp at hc
theorem Ft(hr:HR n h1 h):∀(cs:List Sh)(g:V)(l:List V)(i:List Nat)(xs:List C),AI h cs (AA g)=some (l,i)->J1 h g xs->ft n h g->cs.all (fun c=>jf (qy c) 300&&!F0 c)=true->
  ∃bv,vI h1 xs (lp cs l) bv/\bv.Sublist i:=by
 intro cs;induction cs with
 |nil=>intro g l i xs hc hx _ _;cases g with|ni=>obtain⟨rfl,rfl⟩:=ad (aa hc);obtain rfl:=hx;exact⟨[],.nil,bL _⟩|co a r=>simp[AA,AI]at hc|_=>exact hx.elim
 |cons c cs ih=>
  intro g l i xs hc hx hk hf;cases g with
  |ni=>simp[AA,AI]at hc
  |co a r=>
   simp only[AA,AI]at hc;split at hc
   .rename_i l1 i1 l2 i2 h2 h3;obtain⟨rfl,rfl⟩:=ad (aa hc);obtain⟨y,ys,rfl,hy,hys⟩:=hx;simp only[iM,ai,Bool.not_eq_true']at hf;obtain⟨own2,b1,b2⟩:=ih r l2 i2 ys h3 hys hk.2 (by simpa using hf.2);have EN:(bif iD h a then dZ h c false a else none)=some (l1,i1)->∃bv,vI h1 (y::ys) (lp (c::cs) (l1++l2)) bv/\bv.Sublist (i1++i2):=by intro h2;obtain⟨ha,h2⟩:=aO h2;obtain⟨ts,bv,rd,g1,g2,g3,_⟩:=wO hr c false a l1 i1 [y] h2 (hy ha) hk.1;have hfu:qy c<=300:=je hf.1.1;obtain⟨t,rd',p1,rfl⟩:=sG (g1 301 (by omega));refine⟨bv++own2,?_,g3.append b2⟩;simp only[lp,g2 l2,bX];exact .cons p1 b1
    cases c with|gn=>obtain⟨rfl,rfl⟩:=ad (aa (show some (([]:List V),([]:List Nat))=some (l1,i1)from h2));exact⟨own2,.uI b1,b2⟩|_=>exact EN h2
   .simp at hc
  |_=>exact hx.elim
end
theorem Is(hg:lN){s1:St}{s:S2}(hr:R2 s1 s){r:RV}{v:V}(h:NP s r=some v):∃x,wZ s1 r=some x/\gy s.heap v x/\ft s.next s.heap v/\iD s.heap v=true:=by
 cases r with
 |tmp t=>exact ot hg hr (o:=.tmp t) h
 |cell t g n=>
  simp only[NP]at h;split at h
  .rename_i p hp;split at h
   .rename_i w l hl;obtain⟨hc,h⟩:=aO h;obtain rfl:=aa h;obtain⟨x,h1,h2,h3,h4⟩:=ot hg hr hp;obtain⟨y,h5,h6,h7⟩:=wm (nx:=0) (c:=qk) hr.hr hl hc h2 h3;refine⟨y,?_,h6,h7,(oD hc).2.2.2⟩;have h1:cA s1.dT t=some x:=h1;simp only[wZ,h1];cases x with
    |c pc=>
     simp only[cQ]at h5;split at h5
     .rename_i z aD hz;obtain⟨rfl,_⟩:=ad (aa h5);simp only[hz]
     .simp at h5
    |_=>simp[cQ]at h5
   .simp at h
  .simp at h
theorem I2(hg:lN){s1:St}{s:S2}(hr:R2 s1 s):∀(kJ:List RV)(vs:List V),Od (NP s) kJ=some vs->∃xs,eH (kJ.map (wZ s1))=some xs/\mN s.heap vs xs/\∀v∈vs,ft s.next s.heap v/\iD s.heap v=true:=by
 intro kJ;induction kJ with
 |nil=>intro vs h;obtain rfl:=aa h;exact⟨[],rfl,trivial,fun v hv=>by simp at hv⟩
 |cons r kJ ih=>
  intro vs h;simp only[Od]at h;split at h
  .rename_i x y hx hy;obtain rfl:=aa h;obtain⟨x1,a1,a2,a3⟩:=Is hg hr hx;obtain⟨xs,b1,b2,b3⟩:=ih y hy;refine⟨x1::xs,by simp only[aB,eH,a1,b1],⟨a2,b2⟩,fun v hv=>?_⟩;rcases aP.1 hv with rfl|hv
   .exact a3
   .exact b3 v hv
  .simp at h
def Sm(al:Wy):Bool:=al.all fun w=>w.1.all (fun c=>jf (qy c) 300)&&w.2.all (fun c=>jf (qy c) 300&&!F0 c)
theorem Ji(hg:lN){s1:St}{s:S2}(hr:R2 s1 s){kJ:List RV}{rs os:List Sh}{l:List V}(h:Jj kJ rs os s=some l)(hf1:rs.all (fun c=>jf (qy c) 300)=true)(hf2:os.all (fun c=>jf (qy c) 300&&!F0 c)=true):
  ∃rs0,wR kJ s1 rs0 (lp os (l.drop (gZ rs).length))/\uf (rs.map F0) rs0=mK rs (l.take (gZ rs).length):=by
 unfold Jj at h;split at h
 .rename_i vs hvs;split at h
  .rename_i l1 i m j h2 h3;obtain⟨hn,h⟩:=aO h;obtain rfl:=aa h;obtain⟨xs,a1,a2,a3⟩:=I2 hg hr kJ vs hvs;obtain⟨e,rs0,bv,b1,b2,b3⟩:=Fu hr.hr rs vs l1 i xs h2 a2 a3 hf1;obtain⟨own2,c1,c2⟩:=Ft hr.hr os s.gh m j s1.gh h3 hr.gh.1 hr.gh.2 hf2;rw[<-e,List.take_left,List.drop_left];exact⟨rs0,⟨xs,bv,own2,a1,b1,c1,(b2.append c2).nodup (Dy hn)⟩,b3⟩
  .simp at h
 .simp at h
section
variable{h1:bH}
theorem HY:∀(c:Sh)(l:List V)(w:V)(l':List V),CH c l=some (w,l')->qw w=some (qR c l).1/\l'=(qR c l).2:=by
 intro c;induction c with
 |ni=>intro l w l' h;obtain⟨rfl,rfl⟩:=ad (aa h);exact⟨rfl,rfl⟩
 |pr a c _ ih=>
  intro l w l' h;cases a with
  |pt t=>
   match l with
   |.x u v::l=>
    simp only[CH]at h;obtain⟨hc,hh⟩:=aO h;clear h;simp only[ai,decide_eq_true_eq]at hc;obtain⟨rfl,hd⟩:=hc;split at hh
    .rename_i w2 l2 hw;obtain⟨rfl,rfl⟩:=ad (aa hh);obtain⟨h2,h3⟩:=ih l w2 l2 hw;refine⟨?_,h3⟩;simp only[qw,hd,if_true,h2,qR]
    .simp at hh
   |[]|.kb _::_|.nl _::_|.so _::_|.sb _ _ _ _ _::_|.op _ _ _::_|.ep _ _ _ _::_|.pt _ _::_|.fn _ _ _::_|.om _::_|.rc _::_|.tp _::_|.ni::_|.co _ _::_|.fl _::_|.no::_|.gn::_=>simp[CH]at h
  |_=>simp[CH]at h
 |_=>intro l w l' h;simp[CH]at h
theorem JG:∀{w:V}{ds:List D},qw w=some ds->Ct w=true:=by
 intro w;induction w with
 |pt t v=>
  intro ds h;simp only[qw]at h;split at h
  .assumption
  .simp at h
 |ni=>intro ds _;rfl
 |co a r iha ihr=>
  intro ds h;simp only[qw]at h;split at h
  .rename_i x y hx hy;simp only[Ct,iha hx,ihr hy,Bool.and_self]
  .simp at h
 |_=>intro ds h;simp[qw]at h
theorem Pq{h:H2}{n:Nat}{i:Nat}{u:Ty}{v:El u}(hd:kY u=true)(hs:(xz (.x u)||yC (.x u))=true):∃x,gy h (.x u v) x/\ft n h (.x u v)/\
  ∀(r:List A)(k:Nat),enter ((bif xz (.x u)then A.agg (aT u v)else A.d ((aT u v).headD default))::r) i k=((i,x)::(enter r (i+1) k).1,(enter r (i+1) k).2.1,(enter r (i+1) k).2.2.1,(enter r (i+1) k).2.2.2):=by
 cases hg:nv u with
 |true=>refine⟨.agg ((aT u v).map .d),ct ⟨_,⟨hd,rfl⟩,fun _=>rfl,fun e=>(by rw[show te (.x u v)=nv u from rfl,hg]at e;cases e)⟩,trivial,fun r k=>?_⟩;simp only[xz,hg,cond_true,enter]
 |false=>
  have h1:bE u=1:=by simpa[xz,hg,yC]using hs
  have hl:=bJ u v;rw[h1]at hl
  match he:aT u v,hl with|[d],_=>refine⟨.c (.d d),ct ⟨[.d d],⟨hd,by rw[he];rfl⟩,fun e=>(by rw[show te (.x u v)=nv u from rfl,hg]at e;cases e),fun _=>⟨_,rfl,rfl⟩⟩,trivial,fun r k=>?_⟩;simp only[xz,hg,cond_false,enter,bX]
theorem xa{α:Type}{a t:Nat}{x:α}{l:List (Nat×α)}(h:a≠t):cA ((a,x)::l) t=cA l t:=by simp only[cA];rw[show(a==t)=false by simpa using h,cond_false]
theorem qb{α:Type}{a:Nat}{x:α}{l:List (Nat×α)}:cA ((a,x)::l) a=some x:=by simp[cA]
theorem Jr:∀(ps:List (Bool×Sh))(i:Nat)(l:List V)(s:S2)(h1:bH)(e:List (Nat×V))(s':S2),sT ps i l s=some (e,s')->BP ps=true->HR s.next h1 s.heap->s.gh=.ni->
  HR s'.next ((enter (gX ps l) i s.next).2.1++h1) s'.heap/\k7 s.next s.heap s'.heap/\s.next<=s'.next/\(∀p∈(enter (gX ps l) i s.next).2.1,s.next<=p.1/\p.1<s'.next)/\
  (∀t v,cA e t=some v->ft s'.next s'.heap v/\∃x,cA (enter (gX ps l) i s.next).1 t=some x/\gy s'.heap v x)/\
  s'.next=(enter (gX ps l) i s.next).2.2.1/\J1 s'.heap s'.gh (enter (gX ps l) i s.next).2.2.2/\ft s'.next s'.heap s'.gh:=by
 intro ps;induction ps with
 |nil=>
  intro i l s h1 e s' he _ hr hg;cases l with
  |cons=>simp[sT]at he
  |nil=>
   obtain⟨rfl,rfl⟩:=ad (aa he);simp only[gX,enter,bk];refine⟨hr,k7.refl _ _,au _,fun p hp=>by simp at hp,fun t v h=>by simp[cA]at h,trivial,?_,?_⟩
   .rw [hg];rfl
   .rw [hg];trivial
 |cons p ps ih=>
  obtain⟨b,c⟩:=p;intro i l s h1 e s' he hp hr hg;simp only[BP,ai]at hp;obtain⟨hc,hps⟩:=hp
  -- data: one more temporary
  have data:∀(l2:List V)(w:V)(a:A)(x:TV),gX ((b,c)::ps) l=a::gX ps l2->(∀(r:List A)(k:Nat),enter (a::r) i k=((i,x)::(enter r (i+1) k).1,(enter r (i+1) k).2.1,(enter r (i+1) k).2.2.1,(enter r (i+1) k).2.2.2))->
    (∀h,gy h w x)->(∀n h,ft n h w)->(match sT ps (i+1) l2 s with|some (e,s)=>some ((i,w)::e,s)|none=>none)=some (e,s')->
    HR s'.next ((enter (gX ((b,c)::ps) l) i s.next).2.1++h1) s'.heap/\k7 s.next s.heap s'.heap/\s.next<=s'.next/\(∀p∈(enter (gX ((b,c)::ps) l) i s.next).2.1,s.next<=p.1/\p.1<s'.next)/\
    (∀t v,cA e t=some v->ft s'.next s'.heap v/\∃x,cA (enter (gX ((b,c)::ps) l) i s.next).1 t=some x/\gy s'.heap v x)/\
    s'.next=(enter (gX ((b,c)::ps) l) i s.next).2.2.1/\J1 s'.heap s'.gh (enter (gX ((b,c)::ps) l) i s.next).2.2.2/\ft s'.next s'.heap s'.gh:=by
   intro l2 w a x ha hen hx hk he;split at he
   .rename_i e1 s1 h2;obtain⟨rfl,rfl⟩:=ad (aa he);obtain⟨a1,a2,a3,a4,a5,a6,a7,a8⟩:=ih (i+1) l2 s h1 e1 s1 h2 hps hr hg;rw[ha,hen];refine⟨a1,a2,a3,a4,fun t v h=>?_,a6,a7,a8⟩;by_cases et:i=t
    .subst et;rw[qb]at h;obtain rfl:=aa h;exact⟨hk _ _,x,qb,hx _⟩
    .rw [xa et]at h|-;exact a5 t v h
   .simp at he
  cases b with
  |true=>
   simp only[cond_true,ai]at hc;simp only[sT]at he;split at he
   .rename_i w l2 s1 hm;split at he
    .rename_i e1 s2 h2;obtain⟨rfl,rfl⟩:=ad (aa he);obtain⟨g1,g2,g3,g4,g5,_⟩:=vj c false l s w l2 s1 h1 hm hr;have hone:yC c=true:=by have:=hc.1;cases c<;>simp[vn]at this<;>rfl
     have hlen:=Cc hm hone
     match ht:(fF c l).1,hlen with
     |[t0],_=>
      have hu:iE s.next [t0]=([(k8 s.next t0).1],(k8 s.next t0).2.1++[],(k8 s.next t0).2.2):=rfl;rw[ht,hu]at g1 g3 g4;simp only[bB]at g1 g3 g4;obtain⟨k1,k2,k3,k4,k5,k6,_⟩:=g3;obtain⟨a1,a2,a3,a4,a5,a6,a7,a8⟩:=ih (i+1) l2 s1 ((k8 s.next t0).2.1++h1) e1 s2 h2 hps k1 (k4.trans hg);have hen:enter (gX ((true,c)::ps) l) i s.next=((i,.c (k8 s.next t0).1)::(enter (gX ps l2) (i+1) s1.next).1,(k8 s.next t0).2.1++(enter (gX ps l2) (i+1) s1.next).2.1,(enter (gX ps l2) (i+1) s1.next).2.2.1,(k8 s.next t0).1::(enter (gX ps l2) (i+1) s1.next).2.2.2):=by simp only[gX,ht,bX,<-g5,enter,<-g4]
      rw[hen];have hk:=gS a3 a2 g2;have hcel:=lH a2 g2 g1;refine⟨a1.ext fun j=>wj (fun p hp q hq e=>?_) j,k7.trans k5 k2 a2,fc k5 a3,fun p hp=>?_,fun t v h=>?_,a6,⟨_,_,rfl,fun _=>hcel,a7⟩,⟨hk,a8⟩⟩
      .have:=(k6 p hp).2;have:=(a4 q hq).1;omega
      .rcases ap.1 hp with hp|hp
       .exact ⟨(k6 p hp).1,Nat.lt_of_lt_of_le (k6 p hp).2 a3⟩
       .exact ⟨fc k5 (a4 p hp).1,(a4 p hp).2⟩
      .by_cases et:i=t
       .subst et;rw[qb]at h;obtain rfl:=aa h;refine⟨hk,_,qb,?_⟩;have hag:te w=false:=by have:=vj c false l s w l2 s1 h1 hm hr;rw[this.2.2.2.2.2 rfl];have:=hc.1;cases c<;>simp[vn]at this<;>rfl
        exact ct ⟨_,hcel,fun e=>(by rw[hag]at e;cases e),fun _=>⟨_,rfl,rfl⟩⟩
       .rw [xa et]at h|-;exact a5 t v h
    .simp at he
   .simp at he
  |false=>
   simp only[cond_false,ai]at hc;cases c with
   |x t=>
    match l,he with
    |.x u v::l,he=>
     simp only[sT]at he;obtain⟨hd,he2⟩:=aO he;simp only[ai,decide_eq_true_eq]at hd;obtain⟨rfl,hd⟩:=hd;obtain⟨x,_,_,h3⟩:=Pq (h:=[]) (n:=0) (i:=i) (v:=v) hd hc.1
     have hx:∀h,gy h (.x u v) x:=fun h=>by
      obtain⟨x',h1,_,h3'⟩:=Pq (h:=h) (n:=0) (i:=i) (v:=v) hd hc.1;have e1:=h3 [] 0;rw[h3' [] 0]at e1;have:x'=x:=by have:=(ad e1).1;exact(ad (List.cons.inj this).1).2
      rw[<-this];exact h1
     exact data l (.x u v) _ x rfl h3 hx (fun _ _=>trivial) he2
    |[],he|.kb _::_,he|.nl _::_,he|.so _::_,he|.sb _ _ _ _ _::_,he|.op _ _ _::_,he|.ep _ _ _ _::_,he|.pt _ _::_,he|.fn _ _ _::_,he|.om _::_,he|.rc _::_,he|.tp _::_,he|.ni::_,he|.co _ _::_,he|.fl _::_,he|.no::_,he|.gn::_,he=>simp[sT]at he
   |pt t=>match l,he with|.x u v::l,he=>simp only[sT]at he;obtain⟨hd,he2⟩:=aO he;simp only[ai,decide_eq_true_eq]at hd;obtain⟨rfl,hd⟩:=hd;refine data l (.pt u v) (.d (.pt (aT u v))) (.c (.d (.pt (aT u v)))) rfl (fun r k=>by simp only[enter]) (fun h=>ct (dV rfl ⟨hd,rfl⟩)) (fun _ _=>trivial) he2|[],he|.kb _::_,he|.nl _::_,he|.so _::_,he|.sb _ _ _ _ _::_,he|.op _ _ _::_,he|.ep _ _ _ _::_,he|.pt _ _::_,he|.fn _ _ _::_,he|.om _::_,he|.rc _::_,he|.tp _::_,he|.ni::_,he|.co _ _::_,he|.fl _::_,he|.no::_,he|.gn::_,he=>simp[sT]at he
   |nl k=>
    have he:(match sT ps (i+1) l s with|some (e,s)=>some ((i,V.nl k)::e,s)|none=>none)=some (e,s'):=by cases l<;>exact he
    refine data l (.nl k) (.d (Pg k)) (.c (.d (Pg k))) (by cases l<;>rfl) (fun r k=>by simp only[enter]) (fun h=>ct (dV rfl rfl)) (fun _ _=>trivial) he
   |fn f c2=>
    have he:(match CH c2 l with|some (w,l)=>(match sT ps (i+1) l s with|some (e,s)=>some ((i,V.fn true f w)::e,s)|none=>none)|none=>none)=some (e,s'):=by cases l<;>exact he
    split at he
    .rename_i w l2 hw;obtain⟨h2,rfl⟩:=HY c2 l w l2 hw;refine data _ (.fn true f w) (.d (.fn f (qR c2 l).1)) (.c (.d (.fn f (qR c2 l).1))) (by cases l<;>rfl) (fun r k=>by simp only[enter]) (fun h=>ct (dV rfl ⟨_,h2,rfl⟩)) (fun n h=>?_) he;exact(zF (h:=h) w (JG h2)).2 n
    .simp at he
   |_=>cases l<;>simp[sT]at he
theorem Jq{ps:List (Bool×Sh)}{l:List V}{s:S2}(h:QN ps l=some s)(hp:BP ps=true):R2 (pd (gX ps l)) s:=by
 unfold QN at h;split at h
 .rename_i e s1 he;obtain rfl:=aa h;obtain⟨a1,a2,a3,a4,a5,a6,a7,a8⟩:=Jr ps 0 l ⟨[],[],0,[],.ni⟩ [] e s1 he hp ⟨fun i o ho=>by simp[fO,cA]at ho⟩ rfl;rw[bB]at a1;exact⟨fun t v ht=>⟨(a5 t v ht).1,fun _=>(a5 t v ht).2⟩,a1,Nat.le_of_eq a6.symm,a7,a8⟩
 .simp at h
end
theorem Js:∀(ps:List (Bool×Sh))(l:List V),(gX ps l).length=ps.length:=by intro ps;induction ps with|nil=>intro l;rfl|cons p ps ih=>obtain⟨b,c⟩:=p;intro l;cases b<;>simp[gX,ih]
theorem MJ{P:Program}{de:As}{nt:Nat}{an:List (Nat×An)}:∀(c:Code)(n:Nat)(s:St)(Q:rZ->St->Prop),W P (nz (pI P de nt an c n).1) s Q->W P (pS P de nt c) s Q:=by
 intro c;induction c with
 |skip=>intro n s Q h;exact h
 |exit id=>intro n s Q h;exact h
 |ret=>intro n s Q h;exact h
 |region o ops draw=>
  intro n s Q h;have hm:(ops.toList.map (Qg P de nt ops)).map (·.o)=ops.toList.map (gE P de nt ops):=by rw[lK];rfl
  cases draw with
  |false=>simp only[pI,aS,if_false,nz,hm]at h;simpa only[pS,aS,if_false]using h
  |true=>
   simp only[pI,if_true]at h;simp only[pS,if_true,wH];split at h
   .rename_i hc;simp only[nz,hm]at h;rw[if_pos (by simpa using hc)];exact h
   .exact h.elim
 |seq a b iha ihb=>intro n s Q h;simp only[pI,nz]at h;exact iha _ s _ (W.mono (uk.mono (fun s1 h1=>ihb _ s1 Q h1) fun _ _ h=>h) h)
 |cond x a b iha ihb=>intro n s Q h;simp only[pI,nz]at h;obtain⟨s1,h0,t,h1,h2,h3⟩:=h;exact⟨s1,h0,t,h1,fun ht=>iha _ s1 Q (h2 ht),fun ht=>ihb _ s1 Q (h3 ht)⟩
 |block id a ih=>intro n s Q h;simp only[pI,nz]at h;exact ih _ s _ h
 |loop a ih=>
  intro n s Q h;simp only[pI]at h;split at h
  .simp only[nz]at h;obtain⟨I,m,h1,h2⟩:=h;exact⟨I,m,h1,fun k s1 hI=>ih _ s1 _ (h2 k s1 hI)⟩
  .exact h.elim
 |scope a ih=>intro n s Q h;exact ih _ s Q h
 |label l=>intro n s Q h;exact h
 |_=>intro n s Q h;exact h.elim
theorem Gt{P:Program}{de:As}{f np:Nat}{an:List (Nat×An)}{F:F2}(h:Bi P de f np an=some F):∃G,zr P de f np=some G/\G.np=np/\G.kJ=F.kJ/\∀s Q,W P (nz F.body) s Q->W P G.body s Q:=by
 unfold Bi at h;split at h
 .simp at h
 rename_i g hg;split at h
 .simp at h
 rename_i code hb;split at h
 case isFalse=>simp at h
 rename_i hc;split at h
 case h_2=>simp at h
 rename_i kJ hrv;obtain rfl:=aa h;unfold zr;simp only[hg,hb,hrv];rw[if_pos (by simpa using hc)];exact⟨_,rfl,rfl,rfl,fun s Q hw=>MJ code 0 s Q hw⟩
theorem PL{kJ:List RV}:∀(al:Wy)(z:vH al),∃r o l,(r,o)∈al/\(∀s,Ow kJ s al=some z->Jj kJ r o s=some l)/\∀Q:List Sh->List Sh->List V->Prop,Q r o l->Nn Q al z:=by
 have key:∀(w:Wy)(r o:List Sh)(z:vH.GJ r o w),∃r' o' l,(r',o')∈(r,o)::w/\(∀s,Jk kJ s r o w=some z->Jj kJ r' o' s=some l)/\∀Q:List Sh->List Sh->List V->Prop,Q r' o' l->Nm Q r o w z:=by
  intro w;induction w with
  |nil=>
   intro r o z;refine⟨r,o,oY (gZ r++gZ o) z,by simp,fun s hz=>?_,fun Q hQ=>hQ⟩;simp only[Jk]at hz;split at hz
   .rename_i l hl;rw[pY _ _ _ hz];exact hl
   .simp at hz
  |cons p w ih=>
   obtain⟨r',o'⟩:=p;intro r o z;cases z with
   |inl y=>
    refine⟨r,o,oY (gZ r++gZ o) y,by simp,fun s hz=>?_,fun Q hQ=>hQ⟩;simp only[Jk]at hz;split at hz
    .rename_i l hl;split at hz
     .rename_i y2 hy;have e:y2=y:=by have:=aa hz;cases this;rfl
      subst e;rw[pY _ _ _ hy];exact hl
     .simp at hz
    .split at hz
     .have:=aa hz;cases this
     .simp at hz
   |inr y=>
    obtain⟨r2,o2,l,h1,h2,h3⟩:=ih r' o' y;refine⟨r2,o2,l,aA _ h1,fun s hz=>?_,fun Q hQ=>h3 Q hQ⟩;simp only[Jk]at hz;split at hz
    .split at hz
     .have:=aa hz;cases this
     .simp at hz
    .split at hz
     .rename_i y2 hy;have e:y2=y:=by have:=aa hz;cases this;rfl
      subst e;exact h2 s hy
     .simp at hz
 intro al z;cases al with|nil=>exact nomatch z|cons p w=>exact key w p.1 p.2 z
theorem Mj{P:Program}(hm:P.follows .mixedOrders=true){de:As}{f np:Nat}{an:List (Nat×An)}{F:F2}{tb:EF}(htb:pM P tb)(hg:lN)(hF:Bi P de f np an=some F){ps:List (Bool×Sh)}{al:Wy}(hnp:ps.length=np)(hps:BP ps=true)(hal:Sm al=true)
  {p:qx (gZ (ps.map (·.2)))} {z:vH al} (hz:Sp tb (some F) ps al p=some z):
  Nn (fun rs os l=>sh P f (gX ps (oY (gZ (ps.map (·.2))) p)) (mK rs (l.take (gZ rs).length)) (lp os (l.drop (gZ rs).length))) al z:=by
 obtain⟨G,hG,hGn,hGr,hGb⟩:=Gt hF;simp only[Sp]at hz;split at hz
 case h_2=>simp at hz
 rename_i s hs;have hr:=Jq hs hps
 -- the ways that the run may end in
 have hend:∀o s1',RI (mP F.body) (pd (gX ps (oY _ p))) s (fun o s=>match o with|.exit _=>none|_=>Ow F.kJ s al) z o s1'->wk (fun s1''=>∃s',R2 s1'' s'/\s1''.gh.length=(pd (gX ps (oY _ p))).gh.length/\(∀i,o≠.exit i)/\Ow F.kJ s' al=some z) s1':=by
  intro o s1' h;refine wk.mono h fun s1''⟨s',h1,⟨w,h2,h3⟩,h4⟩=>⟨s',h1,h3.gl,fun i e=>?_,?_⟩
  .subst e;simp at h4
  .cases o with|exit i=>simp at h4|_=>exact h4
 have hW:=W.mono hend (Jm htb hg F.body _ s _ z hz hr);obtain⟨r,o,l,h1,h2,h3⟩:=PL (kJ:=F.kJ) al z;refine h3 _ (Ot hm hG (m:=r.map F0) ⟨?_,hGb _ _ (W.mono (fun dY s1' h=>?_) hW)⟩)
 .rw [Js,hnp,hGn]
 .have hf:=bc.1 hal (r,o) h1;simp only[ai]at hf;have fin:wk (fun s=>s.gh.length=(pd (gX ps (oY (gZ (ps.map (·.2))) p))).gh.length/\∃rs0,wR G.kJ s rs0 (lp o (l.drop (gZ r).length))/\uf (r.map F0) rs0=mK r (l.take (gZ r).length)) s1':=by refine wk.mono h fun s1''⟨s',k1,k2,_,k4⟩=>⟨k2,?_⟩;rw[hGr];exact Ji hg k1 (h2 s' k4) hf.1 hf.2
  cases dY with|normal=>exact fin|ret=>exact fin|exit i=>obtain⟨_,_,_,_,_,k,_⟩:=h;exact absurd rfl (k i)
theorem cH{P:Program}(hm:P.follows .mixedOrders=true)(hg:lN){de:As}{f np:Nat}{an:List (Nat×An)}{tb:EF}(htb:pM P tb){sp:lB}
  (h1:(Nl sp&&kW sp.ps.length np&&Sm sp.al)=true) (h3:(fun p=>Sp tb (Bi P de f np an) sp.ps sp.al p)=sp.fn):cY P f sp:=by
 simp only[ai]at h1;obtain⟨⟨h4,h5⟩,h6⟩:=h1;refine⟨h4,fun p z hz=>?_⟩;have hp:BP sp.ps=true:=by simp only[Nl,ai]at h4;exact h4.1.1.2
 rw[<-h3]at hz;have hz:Sp tb (Bi P de f np an) sp.ps sp.al p=some z:=hz;cases hF:Bi P de f np an with|none=>rw[hF]at hz;simp[Sp]at hz|some F=>rw[hF]at hz;exact Mj hm htb hg hF (dA h5) hp h6 hz
theorem Hw{v:V}{d:D}(hv:∀g w,LW g=some w->g=0/\w=v)(h0:QC 0=some d)(hd:∀h n,gy h v (.c (.d d))/\ft n h v/\iD h v=true):lN:=fun g w hg=>by obtain⟨rfl,rfl⟩:=hv g w hg;exact⟨d,h0,hd⟩
section
variable{P:Program}{sz:Nat}{z:List Value}{ao:List (List D)}{i j:Int}
end
section
variable{H:bH}{nx:Nat}
end
section
variable{P:Program}{z:List Value}{ao:List (List D)}{x:List D}{i:Int}
end
open Go.ChangeShapes Go.WideShapes Go.ChangeAt Go.RowKit
def wA:(t:Ty)->El t->Prop
 |.i k,x=>k.min<=x/\x<=k.max
 |.s,s=>s.size<=maxLen
 |.f k,b=>(Lit.float k b).wf=true
 |.sl t,s=>s.l.length<=maxLen/\∀x∈s.l,wA t x
 |.pr a c,v=>wA a v.1/\wA c v.2
 |.st t,v=>wA t v
 |.ar _ t,v=>∀x∈v.1,wA t x
 |_,_=>True
def IQ(P:Program)(ok:TypeId->Bool)(sz:TypeId->Nat):List Field->Nat->Nat->Bool
 |[],off,PU=>kW off PU
 |f::r,off,PU=>ok f.type&&kW f.offset off&&kW (P.cellsOf f.type) (sz f.type)&&IQ P ok sz r (off+sz f.type) PU
def Hd(P:Program):Nat->TypeId->Bool
 |0,_=>false
 |n+1,t=>match P.underlying t with|some (.int _)|some .bool|some .string|some (.float _)=>true|some (.slice e)=>Hd P n e&&Nat.blt 0 (bE (eN P n e))&&kW (P.cellsOf e) (bE (eN P n e))|some (.struct fs)=>IQ P (Hd P n) (fun t=>bE (eN P n t)) fs.toList 0 (P.cellsOf t)|some (.array m e)=>Hd P n e&&kW (P.cellsOf e) (bE (eN P n e))&&kW (P.cellsOf t) (m*bE (eN P n e))|_=>false
theorem KN{P:Program}:∀(n:Nat)(t:TypeId),Hd P n t=true->qV P t (aT (eN P n t)) (wA (eN P n t)):=by
 intro n;induction n with
 |zero=>intro t h;simp[Hd]at h
 |succ n ih=>
  intro t h;simp only[Hd]at h;split at h
  .rename_i k hu;rw[show eN P (n+1) t=.i k by simp only[eN,hu]];exact IJ hu
  .rename_i hu;rw[show eN P (n+1) t=.b by simp only[eN,hu]];exact FI hu
  .rename_i hu;rw[show eN P (n+1) t=.s by simp only[eN,hu]];exact BT hu
  .rename_i k hu;rw[show eN P (n+1) t=.f k by simp only[eN,hu]];exact Dm hu
  .rename_i e hu;simp only[ai]at h;obtain⟨⟨h1,h2⟩,h3⟩:=h;rw[show eN P (n+1) t=.sl (eN P n e)by simp only[eN,hu]];exact Dl (enc:=aT (eN P n e)) hu (dA h3) (by simpa[Nat.blt_eq]using h2) (fun a=>bJ _ a) (ih e h1)
  .rename_i fs hu;rw[show eN P (n+1) t=.st (eN.SE (fs.toList.map fun f=>eN P n f.type))by simp only[eN,hu]];intro H en w fuel cs x hx;have hl:=E2 hu hx
   have key:∀(suf:List Field)(i off:Nat),(∀j,fs[i+j]?=suf[j]?)->IQ P (Hd P n) (fun t=>bE (eN P n t)) suf off (P.cellsOf t)=true->
     ∃v:El (eN.SE (suf.map fun f=>eN P n f.type)),wA _ v/\kU w (cs.drop off) (aT _ v):=by
    intro suf;induction suf with
    |nil=>intro i off _ hok;have e:=dA hok;exact⟨(),trivial,kU.nil (by rw[fI,hl,e];omega)⟩
    |cons f r ihr=>
     intro i off hi hok;simp only[IQ,ai]at hok;obtain⟨⟨⟨k1,k2⟩,k3⟩,k4⟩:=hok;have k2:=dA k2;have k3:=dA k3;have hf:fs[i]?=some f:=by have:=hi 0;simpa using this
     obtain⟨a,f1,c1⟩:=Dn hu hx hf (ih f.type k1);rw[k2,k3]at c1;obtain⟨v,f2,c2⟩:=ihr (i+1) (off+bE (eN P n f.type)) (fun j=>by have:=hi (j+1);rw[show i+1+j=i+(j+1)by omega,this];rfl) k4
     have hle:off+bE (eN P n f.type)<=cs.length:=by
      have hmono:∀(suf:List Field)(off:Nat),IQ P (Hd P n) (fun t=>bE (eN P n t)) suf off (P.cellsOf t)=true->off<=P.cellsOf t:=by intro suf;induction suf with|nil=>intro off h;exact Nat.le_of_eq (dA h)|cons g r ih=>intro off h;simp only[IQ,ai]at h;have:=ih _ h.2;omega
      rw[hl];exact hmono r _ k4
     have hfield:=kU.field c1 rfl c2 hle;cases r with|nil=>have e:aT (eN.SE (([]:List Field).map fun f=>eN P n f.type)) v=[]:=rfl;rw[e,bB]at hfield;exact⟨a,f1,hfield⟩|cons g r=>exact⟨(a,v),⟨f1,f2⟩,hfield⟩
   obtain⟨v,f1,c1⟩:=key fs.toList 0 0 (fun j=>by simp) h;exact⟨v,f1,by rw[cT]at c1;exact c1⟩
  .rename_i m e hu;simp only[ai]at h;obtain⟨⟨h1,h2⟩,h3⟩:=h;have h2:=dA h2;have h3:=dA h3;rw[show eN P (n+1) t=.ar m (eN P n e)by simp only[eN,hu]];intro H en w fuel cs x hx;have hl:=JS hu hx
   have key:∀j,j<=m->∃l:List (El (eN P n e)),l.length=j/\(∀y∈l,wA _ y)/\kU w (cs.drop ((m-j)*bE (eN P n e))) (l.flatMap (aT (eN P n e))):=by
    intro j;induction j with
    |zero=>intro _;exact⟨[],rfl,fun y hy=>by simp at hy,kU.nil (by rw[fI,hl,h3];simp)⟩
    |succ j ihj=>
     intro hj;obtain⟨l,l1,l2,l3⟩:=ihj (by omega);obtain⟨a,f1,c1⟩:=FH hu hx (i:=m-(j+1)) (by omega) (ih e h1);rw[h2]at c1;have hs:(m-(j+1))*bE (eN P n e)+bE (eN P n e)=(m-j)*bE (eN P n e):=by rw[show m-j=(m-(j+1))+1 by omega,Nat.succ_mul]
     refine⟨a::l,by simp[l1],fun y hy=>?_,?_⟩
     .rcases aP.1 hy with rfl|hy
      .exact f1
      .exact l2 y hy
     .rw [List.flatMap_cons];refine kU.field c1 hs l3 ?_;rw[hl,h3];exact Nat.mul_le_mul_right _ (by omega)
   obtain⟨l,l1,l2,l3⟩:=key m (au _);rw[Nat.sub_self,Nat.zero_mul,cT]at l3;exact⟨⟨l,l1⟩,l2,l3⟩
  .simp at h
def EK:List Ty->List V->Prop
 |[],l=>l=[]
 |a::r,l=>∃(v:El a)(m:List V),l=.x a v::m/\wA a v/\EK r m
theorem HM{a:Ty}(v:El a):ui a (.x a v)=some v:=by simp[ui,gN]
theorem EK.iS:∀{cs:List Ty}{l:List V},EK cs l->∃p,vU cs l=some p/\oY cs p=l:=by
 have key:∀(r:List Ty)(a:Ty)(l:List V),EK (a::r) l->∃p,EV a r l=some p:=by intro r;induction r with|nil=>rintro a l ⟨v,m,rfl,_,hm⟩;have hm:m=[]:=hm;subst hm;exact⟨v,HM v⟩|cons c r ih=>rintro a l ⟨v,m,rfl,_,hm⟩;obtain⟨p,hp⟩:=ih c m hm;refine⟨(v,p),?_⟩;show H4 (ui a (.x a v)) (EV c r m)=_;rw[HM,hp];rfl
 intro cs l h;cases cs with|nil=>have h:l=[]:=h;subst h;exact⟨(),rfl,rfl⟩|cons a r=>obtain⟨p,hp⟩:=key r a l h;exact⟨p,hp,pY (a::r) l p hp⟩
theorem Rf{P:Program}{n:Nat}{t:TypeId}(ho:Hd P n t=true)(h1:(nv (eN P n t)||kW (bE (eN P n t)) 1)=true){w:World}{r:Reach}{b:Nat}{v:Value}(hv:Value.okWide P w r b t v)
  {H:Type} {en:TypeId×Value->H} {x:DataW H} {ps:List MemPlace} (h:DataW.Trod en P w 0 (fun _=>true) true t v x ps):∃a:El (eN P n t),wA _ a/\RA (S0 w) w (bif nv (eN P n t)then .agg (aT _ a)else .d ((aT _ a).headD default)) v []:=by
 have hop:=KN n t ho;cases hag:nv (eN P n t)with
 |true=>
  simp only[cond_true];cases n with
  |zero=>simp[Hd]at ho
  |succ n=>
   simp only[Hd]at ho;split at ho
   .rename_i hu;simp[eN,hu,nv]at hag
   .rename_i hu;simp[eN,hu,nv]at hag
   .rename_i hu;simp[eN,hu,nv]at hag
   .rename_i hu;simp[eN,hu,nv]at hag
   .rename_i hu;simp[eN,hu,nv]at hag
   .rename_i fs hu;exact OY hop hv hu h
   .rename_i m e hu;exact OX hop hv hu h
   .simp at ho
 |false=>
  simp only[cond_false];have hsz:bE (eN P n t)=1:=by rw[hag,Bool.false_or]at h1;exact dA h1
  have he:(fun a=>[(aT (eN P n t) a).headD default])=aT (eN P n t):=by
   funext a;have hl:=bJ (eN P n t) a;rw[hsz]at hl
   match hh:aT (eN P n t) a,hl with|[d],_=>rfl
  have hs:match P.underlying t with|some (.struct _)|some (.array _ _)|some (.interface _)|some (.func ..)|some (.chan ..)|some .unsafePointer|some (.map _ _)=>False|_=>True:=by
   cases n with
   |zero=>simp[Hd]at ho
   |succ n=>
    simp only[Hd]at ho;split at ho
    .rename_i hu;rw[hu];trivial
    .rename_i hu;rw[hu];trivial
    .rename_i hu;rw[hu];trivial
    .rename_i hu;rw[hu];trivial
    .rename_i hu;rw[hu];trivial
    .rename_i fs hu;simp[eN,hu,nv]at hag
    .rename_i m e hu;simp[eN,hu,nv]at hag
    .simp at ho
  exact SH (d:=fun a=>(aT (eN P n t) a).headD default) (fit:=wA (eN P n t)) (by rw[he];exact hop) hv hs h
def SP(P:Program)(ts:List TypeId):Bool:=ts.all fun t=>Hd P Jv t&&(nv (eN P Jv t)||kW (bE (eN P Jv t)) 1)
theorem OW{P:Program}{W:World}{aR:Nat}{H:Type}{en:TypeId×Value->H}:∀(ts:List TypeId)(vs:List Value)(ds:List (DataW H))(ps:List MemPlace),DataW.TrodAll en P W 0 (fun _=>true) true ts vs ds ps->SP P ts=true->
  (∀(j:Nat)t v,ts[j]?=some t->vs[j]?=some v->Value.okWide P W .any aR t v)->∃l,EK (ts.map (eN P Jv)) l/\Nk (S0 W) W (gX (ts.map fun t=>(false,Sh.x (eN P Jv t))) l) vs []:=by
 intro ts;induction ts with
 |nil=>intro vs ds ps h _ _;cases vs with|nil=>exact⟨[],rfl,rfl⟩|cons=>cases ds<;>exact h.elim
 |cons t ts ih=>
  intro vs ds ps h hok hv;cases vs with
  |nil=>cases ds<;>exact h.elim
  |cons v vs=>cases ds with|nil=>exact h.elim|cons d ds=>obtain⟨p,q,h1,h2,rfl⟩:=h;simp only[SP,iM,ai]at hok;obtain⟨a,f1,r1⟩:=Rf hok.1.1 (by simpa using hok.1.2) (hv 0 t v rfl rfl) h1;obtain⟨l,f2,r2⟩:=ih vs ds q h2 (by simpa[SP]using hok.2) fun j t' v' ht hv'=>hv (j+1) t' v' (by simpa using ht) (by simpa using hv');exact⟨.x _ a::l,⟨a,l,rfl,f1,f2⟩,[],[],rfl,r1,r2⟩
theorem QY:∀(tys:List Ty),gZ ((tys.map fun t=>(false,Sh.x t)).map (·.2))=tys:=by intro tys;induction tys with|nil=>rfl|cons a r ih=>show a::gZ ((r.map fun t=>(false,Sh.x t)).map (·.2))=a::r;rw[ih]
theorem JA{P:Program}{f:FuncId}{fn:Func}{s:ChangeSpec}{me gM handsOn again:Bool}{tb:TypeId}{H:Type}{en:TypeId×Value->H}(hl:laidOutB P=true)(hfn:P.funcs[f]?=some fn)(hbody:fn.body.isSome=true)(hname:(fn.name== "runtime.NumGoroutine")=false)
  (hts:fn.params.toList.all (fun t=>P.readableRec t&&decide (t<P.types.size))=true) (hrt:fn.resultTypes= #[tb]) (htb:P.underlying tb=some .bool) (hvars:s.vars=[])
  {W:World} {args:Array Value} {ds gs:List (DataW H)} {eX:List MemPlace} (hW:DataW.Whole en P fn.params.toList s.vars me W args.toList ds gs eX)
  (hspec:(s.fn H (ds++gs)).results=[.lit (.bool true)]/\(s.fn H (ds++gs)).args=ds/\(s.fn H (ds++gs)).vars=[])
  (hgl:uQ (S0 W) W) {aR:Nat} (hval:∀(j:Nat)t v,fn.params[j]?=some t->args[j]?=some v->Value.okWide P W .any aR t v)
  {tys:List Ty} (hty:fn.params.toList.map (eN P Jv)=tys) (hok:SP P fn.params.toList=true) {ro:Bool} {ke:List Bool} {g:qx (gZ ((tys.map fun t=>(false,Sh.x t)).map (·.2)))->Option (vH [([.x .b],[])])}
  (hsp:cY P f ⟨tys.map fun t=>(false,Sh.x t),[([.x .b],[])],ro,ke,g⟩) (law:∀p,EK (gZ ((tys.map fun t=>(false,Sh.x t)).map (·.2))) (oY _ p)->g p=some true):
  Calls P f args W fun e W'=>∃v,e=.returned v/\s.post en P fn me gM handsOn again W args v W':=by
 have hW':=hW;obtain⟨p,q,hA0,hV,hpq,hfz,hnd⟩:=hW;have hA:DataW.TrodAll en P W 0 (fun _=>true) true fn.params.toList args.toList ds p:=hA0;obtain⟨l,h1,h2⟩:=OW (aR:=aR) _ _ _ _ hA hok fun j t v ht hv=>hval j t v (by simpa using ht) (by simpa using hv);have h3:fn.params.toList.map (fun t=>(false,Sh.x (eN P Jv t)))=tys.map fun t=>(false,Sh.x t):=by rw[<-hty,lK];rfl
 rw[h3]at h2;rw[hty,<-QY tys]at h1;obtain⟨pl,hp,hu⟩:=h1.iS;have hg:=hsp.2 pl true (law pl (by rw[hu];exact h1));rw[<-hu]at h2;exact Ek hl hfn hbody hname hts hrt htb hvars hW' hspec hgl ⟨_,h2,hg⟩
end Go.Ev
