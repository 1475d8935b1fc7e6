/- Code: what is evaluated is what the abstract machine does. Conditions: as stated. -/
import Derived.Test.YtingpmogbibghaaKh
import Derived.Test.YtingpmogbibghaaEvY
open Bool renaming and_eq_true->ai,and_eq_true_iff->cH,false_eq_true->aO
open List renaming all_cons->gk,all_eq_true->aT,append_nil->aV,cons_append->aU,drop_zero->eG,headD_cons->bL,length_append->au,length_drop->cD,map_cons->aD,map_map->gR,map_nil->aZ,mem_append->ap,mem_append_left->aA,mem_append_right->aC,mem_cons->aJ,mem_cons_of_mem->av,nil_append->bi,nil_sublist->kV
open List.Sublist renaming refl->cf
open Nat renaming beq->lS,ble->jQ,eq_of_beq_eq_true->dw,le_of_ble_eq_true->jP,le_refl->am,le_trans->bt
open Option.some renaming inj->aa
open Prod.mk renaming inj->af
namespace Go.Ev
theorem Dq(j:J)(s0 s:S2):yF j s0 s=Ck j s0 (Br j.vs s):=rfl
theorem Dp{j:J}{s1':St}{s0 s':S2}{l:List V}(hr:R2 s1' s')(hc:yF j s0 s'=some l):∀i∈s'.wo,s0.next<=i\/i∈j.kl:=by
 obtain⟨s1c,_,_,wc,hwc,_⟩:=Ce j.vs s1' s' hr;rw[Dq]at hc;unfold Ck at hc;split at hc
 case h_2=>simp at hc
 split at hc
 case h_2=>simp at hc
 split at hc
 case h_2=>simp at hc
 obtain⟨hchk,_⟩:=aM hc;simp only[ai,aT]at hchk;intro i hi;have:=hchk.1 i (by rw[hwc];simp[hi]);simpa[Nat.ble_eq]using this
theorem uo{j:J}{ds w:List Nat}{s1 s1':St}{s0 s' s'':S2}{l:List V}(hr0:R2 s1 s0)(hr:R2 s1' s')(hf:yv ds w s1 s1' s0 s')(hw:∀i∈w,s0.next<=i\/i∈j.kl)(hc:yF j s0 s'=some l)(hs:vy j ds s0 l=some s''):
  ∃s1'' w',Sub s1' s1''/\R2 s1'' s''/\s''.wo=w'++s0.wo/\yv ds w' s1 s1'' s0 s''/\∀i∈w',s0.next<=i\/i∈j.kl:=by
 obtain⟨s1c,hsub,hrc,wc,hwc,hfc⟩:=Ce j.vs s1' s' hr;have hc2:=hc;rw[Dq]at hc2
 have hwcc:∀i∈wc,s0.next<=i\/i∈j.kl:=by
  unfold Ck at hc2;split at hc2
  case h_2=>simp at hc2
  split at hc2
  case h_2=>simp at hc2
  split at hc2
  case h_2=>simp at hc2
  obtain⟨hchk,_⟩:=aM hc2;simp only[ai,aT]at hchk;intro i hi;have:=hchk.1 i (by rw[hwc];simp[hi]);simpa[Nat.ble_eq]using this
 obtain⟨s1'',w',h1,h2,h3,h4,h5⟩:=RL (w:=wc++w) hr0 hrc (hf.trans (hfc.mono (fun t ht=>by simp at ht) fun i hi=>hi)) (fun i hi=>by
  rcases ap.1 hi with hi|hi
  .exact hwcc i hi
  .exact hw i hi) (by rw[<-Dq];exact hc) hs
 exact⟨s1'',w',hsub.trans h1,h2,h3,h4,h5⟩
theorem IG{β:Type}{s0 s':S2}{o:tO}{ds:List Nat}{k:tO->S2->Option β}{z:β}:∀(e:Ex)(x:FV e),J5 s0 o s' e=some x->LG ds s0 k e x=some z->∃j∈e,∃l s'',yF j.2 s0 s'=some l/\vy j.2 ds s0 l=some s''/\k o s''=some z:=by
 have rO:∀(j:J)(p:rR (qS j))(l:List V),xj (qS j) l=some p->(match vy j ds s0 (pY (qS j) p)with|some s=>k o s|none=>none)=some z->∃s'',vy j ds s0 l=some s''/\k o s''=some z:=by
  intro j p l h1 h2;rw[qY _ _ _ h1]at h2;split at h2
  .rename_i s'' hs;exact⟨s'',hs,h2⟩
  .simp at h2
 have key:∀(r:Ex)(o1:tO)(j:J)(x:FV.NF j r),MD s0 o s' o1 j r=some x->QK ds s0 k o1 j r x=some z->∃j'∈(o1,j)::r,∃l s'',yF j'.2 s0 s'=some l/\vy j'.2 ds s0 l=some s''/\k o s''=some z:=by
  intro r;induction r with
  |nil=>
   intro o1 j x hx hz;simp only[MD]at hx;obtain⟨ho,hx2⟩:=aM hx;clear hx;obtain rfl:o=o1:=by simpa using ho
   split at hx2
   .rename_i l hl;obtain⟨s'',h1,h2⟩:=rO j x l hx2 hz;exact⟨(o,j),by simp,l,s'',hl,h1,h2⟩
   .simp at hx2
  |cons q r ih=>
   obtain⟨o2,j2⟩:=q;intro o1 j x hx hz;simp only[MD]at hx;cases hd:decide (o=o1)with
   |true=>
    rw[hd,cond_true]at hx;obtain rfl:o=o1:=by simpa using hd
    split at hx
    .rename_i l hl;split at hx
     .rename_i p hp;obtain rfl:=aa hx;obtain⟨s'',h1,h2⟩:=rO j p l hp hz;exact⟨(o,j),by simp,l,s'',hl,h1,h2⟩
     .simp at hx
    .simp at hx
   |false=>
    rw[hd,cond_false]at hx;split at hx
    .rename_i y hy;obtain rfl:=aa hx;obtain⟨j',h1,h2⟩:=ih o2 j2 y hy hz;exact⟨j',av _ h1,h2⟩
    .simp at hx
 intro e x hx hz;cases e with|nil=>exact nomatch x|cons q r=>exact key r q.1 q.2 x hx hz
def Sj{β:Type}(ds:List Nat)(s1:St)(s:S2)(k:tO->S2->Option β)(z:β)(o:tO)(s1':St):Prop:=wk (fun s1''=>∃s',R2 s1'' s'/\Fr ds s1 s1'' s s'/\k o s'=some z) s1'
theorem Kk{P:Program}{tb:FU}(htb:qP P tb)(hg:nd):∀(c:C2){β:Type}(s1:St)(s:S2)(k:tO->S2->Option β)(z:β),yD tb c s k=some z->R2 s1 s->W P (oN c) s1 (Sj (nT c) s1 s k z):=by
 intro c;induction c with
 |skip=>intro β s1 s k z hz hr;exact wk.of (wk.of ⟨s,hr,Fr.refl,hz⟩)
 |exit id=>intro β s1 s k z hz hr;exact wk.of (wk.of ⟨s,hr,Fr.refl,hz⟩)
 |ret=>intro β s1 s k z hz hr;exact wk.of (wk.of ⟨s,hr,Fr.refl,hz⟩)
 |gG=>intro β s1 s k z hz hr;simp[yD]at hz
 |Ot ops dr jn=>
  intro β s1 s k z hz hr;cases jn with
  |none=>refine W.mono (fun o s1' h=>?_) (Ei (jn:=none) htb hg (show IT tb ops dr s (fun s=>k .normal s)=some z by simpa only[yD]using hz) hr);obtain⟨rfl,s',h1,h2,h3⟩:=h;exact wk.of ⟨s',h1,h2,h3⟩
  |some j=>
   simp only[yD]at hz;obtain⟨p,hp,hz⟩:=qh hz;refine W.mono (fun o s1' h=>?_) (Ei (jn:=some j) htb hg hp (hr.wo []));obtain⟨rfl,s',h1,⟨w,h2,h3⟩,h4⟩:=h;split at h4
   .rename_i l hl;rw[qY _ _ _ h4]at hz;split at hz
    .rename_i s'' hs;have hf:yv (ops.filterMap (·.o.dst)) w s1 s1' s s':=⟨h3.le,h3.eE,h3.gl,h3.ob,h3.dF⟩
     obtain⟨s1'',w',g1,g2,g3,g4,_⟩:=uo hr h1 hf (fun i hi=>Dp h1 hl i (by rw[h2];simp[hi])) hl hs;exact⟨s1'',g1,s'',g2,⟨w',g3,g4⟩,hz⟩
    .simp at hz
   .simp at h4
 |seq a b e iha ihb=>
  intro β s1 s k z hz hr;have go:∀(o:tO)(s1' s1'':St)(s':S2),Sub s1' s1''->R2 s1'' s'->Fr (nT a) s1 s1'' s s'->(match o with|.normal=>yD tb b s' k|o=>k o s')=some z->vf (fun s'=>W P (oN b) s' (Sj (nT (.seq a b e)) s1 s k z)) (Sj (nT (.seq a b e)) s1 s k z) o s1':=by intro o s1' s1'' s' hsub h1 h2 h3;have hda:∀t∈nT a,t∈nT (.seq a b e):=fun t ht=>aA _ ht;have hdb:∀t∈nT b,t∈nT (.seq a b e):=fun t ht=>aC _ ht;cases o with|normal=>refine W.sub hsub (W.mono (fun o s2 h=>?_) (ihb s1'' s' k z h3 h1));exact wk.mono h fun _⟨s3,g1,g2,g3⟩=>⟨s3,g1,(h2.mono hda).trans (g2.mono hdb),g3⟩|exit id=>exact⟨s1'',hsub,s',h1,h2.mono hda,h3⟩|ret=>exact⟨s1'',hsub,s',h1,h2.mono hda,h3⟩
  cases e with
  |nil=>simp only[yD]at hz;refine PO (W.mono (fun o s1' h=>?_) (iha s1 s _ z hz hr));obtain⟨s1'',hsub,s',h1,h2,h3⟩:=h;exact go o s1' s1'' s' hsub h1 h2 h3
  |cons q r=>
   simp only[yD]at hz;obtain⟨x,hx,hz⟩:=qh hz;refine PO (W.mono (fun o s1' h=>?_) (iha s1 {s with wo:=[]} _ x hx (hr.wo [])));obtain⟨s1'',hsub,s',h1,⟨w,h2,h3⟩,h4⟩:=h;obtain⟨j,_,l,s'',g1,g2,g3⟩:=IG (q::r) x h4 hz;have hf:yv (nT a) w s1 s1'' s s':=⟨h3.le,h3.eE,h3.gl,h3.ob,h3.dF⟩
   obtain⟨s2,w',k1,k2,k3,k4,_⟩:=uo hr h1 hf (fun i hi=>Dp h1 g1 i (by rw[h2];simp[hi])) g1 g2;exact go o s1' s2 s'' (hsub.trans k1) k2 ⟨w',k3,k4⟩ g3
 |cond c a b iha ihb=>
  intro β s1 s k z hz hr;have hda:∀t∈nT a,t∈nT (.cond c a b):=fun t ht=>aA _ ht;have hdb:∀t∈nT b,t∈nT (.cond c a b):=fun t ht=>aC _ ht
  have go:∀t,lN s1.dF c=some (tB t)->(bif t then yD tb a s k else yD tb b s k)=some z->W P (oN (.cond c a b)) s1 (Sj (nT (.cond c a b)) s1 s k z):=by
   intro t hc hz;refine Qk (t:=t) hc (fun ht=>?_) fun ht=>?_
   .subst ht;exact W.mono (fun o s2 h=>wk.mono h fun _⟨s3,g1,g2,g3⟩=>⟨s3,g1,g2.mono hda,g3⟩) (iha s1 s k z hz hr)
   .subst ht;exact W.mono (fun o s2 h=>wk.mono h fun _⟨s3,g1,g2,g3⟩=>⟨s3,g1,g2.mono hdb,g3⟩) (ihb s1 s k z hz hr)
  simp only[yD]at hz;split at hz
  .rename_i t ht;obtain⟨x,h1,h2,_⟩:=pq hg hr ht;rw[xg h2]at h1;exact go t h1 hz
  .rename_i t ht;obtain⟨x,h1,h2,_⟩:=pq hg hr ht;rw[HY h2]at h1;exact go t h1 hz
  .simp at hz
 |block id a ih=>
  intro β s1 s k z hz hr;simp only[yD]at hz;refine NV (W.mono (fun o s1' h=>?_) (ih s1 s _ z hz hr));cases o with
  |normal=>exact h
  |ret=>exact h
  |exit i=>
   simp only[wX];obtain⟨s1'',hsub,s',h1,h2,h3⟩:=h;by_cases e:i=id
   .subst e;rw[if_pos rfl];simp only[beq_self_eq_true,cond_true]at h3;exact⟨s1'',hsub,s',h1,h2,h3⟩
   .rw [if_neg e];have e':(i==id)=false:=by simpa using e
    simp only[e',cond_false]at h3;exact⟨s1'',hsub,s',h1,h2,h3⟩
 |loop j e a ih=>
  intro β s1 s k z hz hr;simp only[yD]at hz;obtain⟨hkl,hz⟩:=aM hz;have hkl:∀x∈e,∀i∈j.kl,i∈x.2.kl:=fun x hx i hi=>by have:=aT.1 (aT.1 hkl x hx) i hi;simpa using this
  split at hz
  case h_2=>simp at hz
  rename_i l hl;split at hz
  case h_2=>simp at hz
  rename_i p0 hp0;obtain⟨x,hx,hz⟩:=qh hz;obtain⟨n,hn⟩:=p7.1 hx;clear hx
  generalize hf:(fun(p:rR (qS j))=>(match vy j (nT a) s (pY (qS j) p)with
     |some s1=>yD tb a {s1 with wo:=[]} fun o s'=>(match o with
      |.normal=>(match yF j s s' with|some l=>(match xj (qS j) l with|some q=>some (Sum.inl q)|none=>none)|none=>none)
      |o=>(match J5 s o s' e with|some x=>some (Sum.inr x)|none=>none))
     |none=>none:Option (rR (qS j)⊕FV e)))=f at hn
  have hrs:∀n p,lL f n p=some x->∃s2,vy j (nT a) s (pY (qS j) p)=some s2:=by
   intro n p h;cases n with
   |zero=>simp[lL]at h
   |succ n=>
    cases hq:vy j (nT a) s (pY (qS j) p)with
    |some s2=>exact⟨s2,rfl⟩
    |none=>
     have:f p=none:=by rw[<-hf];simp only[hq]
     simp[lL,this]at h
  refine⟨fun n t=>∃p s2 w,lL f n p=some x/\vy j (nT a) s (pY (qS j) p)=some s2/\R2 t s2/\yv (nT a) w s1 t s s2/\∀i∈w,s.next<=i\/i∈j.kl,n,?_,?_⟩
  .obtain ⟨s2,hs2⟩:=hrs n p0 hn;have hs3:=hs2;rw[qY _ _ _ hp0]at hs3;obtain⟨s1'',w',g1,g2,_,g4,g5⟩:=uo (w:=[]) hr (hr.wo []) ⟨am _,ke.refl _ _,rfl,fun _ _ _=>⟨rfl,fun _ _ _ h=>h⟩,fun _ _ _ h _=>h⟩ (fun i hi=>by simp at hi) hl hs3;exact⟨s1'',g1,p0,s2,w',hn,hs2,g2,g4,g5⟩
  .rintro n t ⟨p,s2,w,h1,h2,h3,h4,h5⟩;cases n with
   |zero=>simp[lL]at h1
   |succ n=>
    have hfp:f p=yD tb a {s2 with wo:=[]} fun o s'=>(match o with
      |.normal=>(match yF j s s' with|some l=>(match xj (qS j) l with|some q=>some (Sum.inl q)|none=>none)|none=>none)
      |o=>(match J5 s o s' e with|some x=>some (Sum.inr x)|none=>none)):=by
     rw[<-hf];simp only[h2]
    have hend:∀(o:tO)(t' t'':St)(s':S2)(y:FV e),o≠.normal->Sub t' t''->R2 t'' s'->Fr (nT a) t t'' {s2 with wo:=[]} s'->J5 s o s' e=some y->y=x->Sj (nT a) s1 s k z o t':=by
     rintro o t' t'' s' y _ hsub r1 ⟨wb,e1,e2⟩ hy rfl;obtain⟨j',hj',l',s'',g1,g2,g3⟩:=IG e y hy hz;have hfw:yv (nT a) (wb++w) s1 t'' s s':=h4.trans ⟨e2.le,e2.eE,e2.gl,e2.ob,e2.dF⟩
     obtain⟨s3,w',k1,k2,k3,k4,_⟩:=uo hr r1 hfw (fun i hi=>by
      rcases ap.1 hi with hi|hi
      .exact Dp r1 g1 i (by rw[e1];simp[hi])
      .exact (h5 i hi).imp id (hkl j' hj' i)) g1 g2
     exact⟨s3,hsub.trans k1,s'',k2,⟨w',k3,k4⟩,g3⟩
    simp only[lL]at h1;cases hr1:f p with
    |none=>simp[hr1]at h1
    |some r=>
     rw[hr1]at h1;rw[hfp]at hr1;refine W.mono (fun o t' hq=>?_) (ih t _ _ r hr1 (h3.wo []));obtain⟨t'',hsub,s',r1,r2,r3⟩:=hq;cases o with
     |normal=>
      simp only at r3;split at r3
      .rename_i l2 hl2;split at r3
       .rename_i q hq;obtain rfl:=aa r3;simp only at h1;obtain⟨wb,e1,e2⟩:=r2;obtain⟨s3,hs3⟩:=hrs n q h1;have hs4:=hs3;rw[qY _ _ _ hq]at hs4;have hfw:yv (nT a) (wb++w) s1 t'' s s':=h4.trans ⟨e2.le,e2.eE,e2.gl,e2.ob,e2.dF⟩
        obtain⟨t3,w',k1,k2,_,k4,k5⟩:=uo hr r1 hfw (fun i hi=>by
         rcases ap.1 hi with hi|hi
         .exact Dp r1 hl2 i (by rw[e1];simp[hi])
         .exact h5 i hi) hl2 hs4
        exact⟨n,Nat.lt_succ_self n,t3,hsub.trans k1,q,s3,w',h1,hs3,k2,k4,k5⟩
       .simp at r3
      .simp at r3
     |exit id=>
      simp only at r3;split at r3
      .rename_i y hy;obtain rfl:=aa r3;exact hend (.exit id) t' t'' s' y (by simp) hsub r1 r2 hy (aa h1)
      .simp at r3
     |ret=>
      simp only at r3;split at r3
      .rename_i y hy;obtain rfl:=aa r3;exact hend .ret t' t'' s' y (by simp) hsub r1 r2 hy (aa h1)
      .simp at r3
section
variable{h:H2}{n:Nat}{h1:bD}
theorem Eu{id sz lo len:Nat}{rows:List (List D)}(ho:az h1 id=some (.aL sz rows)\/az h1 id=some (.qH sz rows))(hl:lo+len<=rows.length)(szo:Nat):
  ∃t bq rd,(∀k,fc h1 k (.fK szo id lo len)=some (t,bq,rd))/\tN t=.sl szo ((rows.drop lo).take len)/\bq.Sublist [id]/\(az h1 id=some (.aL sz rows)->t=.sl szo ((rows.drop lo).take len)):=by
 by_cases ha:az h1 id=some (.aL sz rows)
 .exact ⟨.sl szo ((rows.drop lo).take len),[id],[id],fun k=>by cases k<;>simp only[fc,ha,if_pos hl],rfl,cf _,fun _=>rfl⟩
 .have hi:=ho.resolve_left ha;exact⟨.d (.sl szo ((rows.drop lo).take len)),[],[id],fun k=>by cases k<;>simp only[fc,hi,if_pos hl],rfl,kV _,fun e=>absurd e ha⟩
theorem OB(hr:HR n h1 h){id ver:Nat}{t:Ty}{s:Sl (El t)}(ho:fO h id=some (.ar t s ver)\/fO h id=some (.im t s ver)):
  ∃q bq rd,(∀k,fc h1 k (ny (bY t) (aS t) id s)=some (q,bq,rd))/\tN q=xl (bY t) (aS t) s/\bq.Sublist [id]:=by
 cases s with
 |nil=>exact⟨_,_,_,fun k=>wl k _,rfl,kV _⟩
 |mk l=>
  have hb:az h1 id=some (.aL (bY t) (l.map (aS t)))\/az h1 id=some (.qH (bY t) (l.map (aS t))):=by
   rcases ho with ho|ho
   .exact .inl ((hr.ob id _ ho).2.1.2.2 l rfl)
   .exact .inr ((hr.ob id _ ho).2.1.2.2 l rfl)
  obtain⟨q,bq,rd,g1,g2,g3,_⟩:=Eu (lo:=0) (len:=(l.map (aS t)).length) hb (by omega) (bY t);rw[uK]at g2;exact⟨q,bq,rd,g1,g2,g3⟩
theorem MJ{t:Ty}(s:Sl (Sl (El t))):tN (zy t s)=xl 1 (aS (.sl t)) (s:Sl (El (.sl t))):=by cases s with|nil=>rfl|mk l=>simp only[zy,tN,xl,gR];congr 1;exact List.map_congr_left fun r _=>by cases r<;>rfl
theorem OC(hr:HR n h1 h){id:Nat}{t:Ty}{s:Sl (Sl (El t))}(ho:fO h id=some (.rw t s none)):
  ∃bq rd,(∀k,fc h1 k (ny 1 (aS (.sl t)) id (s:Sl (El (.sl t))))=some (zy t s,bq,rd))/\bq.Sublist [id]:=by
 cases s with|nil=>exact⟨_,_,fun k=>wl k _,kV _⟩|mk l=>exact⟨_,_,fun k=>UQ (k:=k) ((hr.ob id _ ho).2.1.2.2 l rfl),cf _⟩
theorem Ij(hr:HR n h1 h){id ver lo:Nat}{t:Ty}{r:Sl (El t)}(hk:fB n h (.sb id ver lo t r))(ha:Dw h id ver=true):
  ∃q bq rd,(∀k,fc h1 k (zG id lo t r)=some (q,bq,rd))/\tN q=xl (bY t) (aS t) r/\bq.Sublist [id]/\((∃u s v,fO h id=some (.ar u s v))->q=Qz (bY t) (aS t) r):=by
 obtain⟨u,s,ho⟩:=mH ha;obtain⟨_,hc⟩:=hk.2 u s ver ho;obtain⟨hz,hc⟩:=hc rfl;cases r with
 |nil=>exact⟨_,_,_,fun k=>wl k _,rfl,kV _,fun _=>rfl⟩
 |mk m=>
  cases s with
  |nil=>exact hc.elim
  |mk l=>
   obtain⟨hl,he⟩:=hc
   have hb:az h1 id=some (.aL (bY u) (l.map (aS u)))\/az h1 id=some (.qH (bY u) (l.map (aS u))):=by
    rcases ho with ho|ho
    .exact .inl ((hr.ob id _ ho).2.1.2.2 l rfl)
    .exact .inr ((hr.ob id _ ho).2.1.2.2 l rfl)
   obtain⟨q,bq,rd,g1,g2,g3,g4⟩:=Eu (lo:=lo) (len:=(m.map (aS t)).length) hb (by simpa using hl) (bY t);rw[show(m.map (aS t)).length=m.length by simp,he]at g2 g4;refine⟨q,bq,rd,fun k=>?_,g2,g3,?_⟩
   .have:=g1 k;simpa[zG]using this
   .rintro ⟨u',s',v',ho'⟩;rcases ho with ho|ho
    .exact g4 ((hr.ob id _ ho).2.1.2.2 l rfl)
    .rw [ho']at ho;simp at ho
theorem J2(ds:List D):(ds.map T.d).map tN=ds:=by induction ds with|nil=>rfl|cons d ds ih=>simp only[aD,tN,ih]
theorem ML(hr:HR n h1 h):∀(v w:V)(l:List Nat)(cs:List C),jW h v=some (w,l)->fD h v cs->fB n h v->iZ h v=true->
  ∃ts bq rd,(∀k,cs.length<=k->jk h1 k cs=some (ts,bq,rd))/\fD h w ((ts.map tN).map .d)/\bq.Sublist l/\cs.length=ts.length/\uq w=uq v:=by
 have done:∀(v:V)(ds:List D),fD h v (ds.map .d)->∃ts bq rd,(∀k,(ds.map C.d).length<=k->jk h1 k (ds.map .d)=some (ts,bq,rd))/\fD h v ((ts.map tN).map .d)/\bq.Sublist ([]:List Nat)/\(ds.map C.d).length=ts.length/\uq v=uq v:=fun v ds hv=>⟨ds.map .d,[],[],fun k hk=>rg ds k (by simpa using hk),by rw[J2];exact hv,cf _,by simp,rfl⟩
 have one:∀(c:C)(q:T)(bq rd:List Nat),(∀k,fc h1 k c=some (q,bq,rd))->∀k,[c].length<=k->jk h1 k [c]=some ([q],bq,rd):=fun c q bq rd hq k hk=>by
  obtain⟨k,rfl⟩:∃k',k=k'+1:=⟨k-1,by simp at hk;omega⟩
  exact wi (hq k)
 intro v;induction v with
 |so id=>
  intro w l cs hf hv hk ha;simp only[jW]at hf;split at hf
  .rename_i t s l' hs;obtain⟨rfl,rfl⟩:=af (aa hf);obtain⟨ver,ho,e⟩:=vr hs;have e:l'=[id]:=e;subst e;obtain⟨c,rfl,hc,_⟩:=hv;rw[hc _ (nw ho)];obtain⟨q,bq,rd,q1,q2,q3⟩:=OB hr ho;have hd:lJ t=true:=by rcases ho with ho|ho<;>exact(hr.ob id _ ho).2.1.1
   exact⟨[q],bq,rd,one _ q bq rd q1,⟨hd,by simp only[aD,aZ,q2];rfl⟩,q3,rfl,rfl⟩
  .simp at hf
 |sr id=>
  intro w l cs hf hv hk ha;simp only[jW]at hf;split at hf
  .rename_i t s ho;obtain⟨rfl,rfl⟩:=af (aa hf);obtain⟨c,rfl,hc,_⟩:=hv;rw[hc _ (tY ho)];obtain⟨bq,rd,q1,q3⟩:=OC hr ho;exact⟨[_],bq,rd,one _ _ bq rd q1,⟨(hr.ob id _ ho).2.1.1,by simp only[aD,aZ,MJ];rfl⟩,q3,rfl,rfl⟩
  .simp at hf
 |sb id ver lo t r=>intro w l cs hf hv hk ha;simp only[jW,uQ]at hf;obtain⟨rfl,rfl⟩:=af (aa hf);obtain⟨hd,ha⟩:=cH.1 ha;have ha:Dw h id ver=true:=ha;obtain⟨c,rfl,hc,_⟩:=hv;rw[hc ha];obtain⟨q,bq,rd,q1,q2,q3,_⟩:=Ij hr hk ha;exact⟨[q],bq,rd,one _ q bq rd q1,⟨hd,by simp only[aD,aZ,q2];rfl⟩,q3,rfl,rfl⟩
 |rc r ih=>
  intro w l cs hf hv hk ha;simp only[jW]at hf;split at hf
  .rename_i w' l' hw;obtain⟨rfl,rfl⟩:=af (aa hf);obtain⟨ts,bq,rd,a1,a2,a3,a4,_⟩:=ih w' l' cs hw hv hk ha;exact⟨ts,bq,rd,a1,a2,a3,a4,rfl⟩
  .simp at hf
 |co a r iha ihr=>
  intro w l cs hf hv hk ha;simp only[jW]at hf;split at hf
  .rename_i x l1 y l2 hx hy;obtain⟨rfl,rfl⟩:=af (aa hf);obtain⟨ca,cr,rfl,h2,h3⟩:=hv;simp only[iZ,ai]at ha;obtain⟨ts,bq,rd,a1,a2,a3,a4,_⟩:=iha x l1 ca hx h2 hk.1 ha.1;obtain⟨us,own2,rd2,b1,b2,b3,b4,_⟩:=ihr y l2 cr hy h3 hk.2 ha.2;refine⟨ts++us,bq++own2,rd++rd2,fun k hk=>?_,⟨_,_,by simp,a2,b2⟩,a3.append b3,by simp[a4,b4],rfl⟩;simp only[au]at hk;exact wj (a1 k (by omega)) (b1 _ (by omega)) (by omega)
  .simp at hf
 |x t v=>intro w l cs hf hv hk ha;obtain⟨rfl,rfl⟩:=af (aa hf);obtain⟨hd,rfl⟩:=hv;exact done _ _ ⟨hd,rfl⟩
 |kb c=>intro w l cs hf hv hk ha;obtain⟨rfl,rfl⟩:=af (aa hf);obtain rfl:=hv;exact done (.kb c) [_] rfl
 |nl k=>intro w l cs hf hv hk ha;obtain⟨rfl,rfl⟩:=af (aa hf);obtain rfl:=hv;exact done (.nl k) [_] rfl
 |fl q=>
  intro w l cs hf hv hk ha;obtain⟨rfl,rfl⟩:=af (aa hf);obtain⟨hp,rfl⟩:=hv;have e:fL q=(q.map D.lit).map C.d:=by simp[fL]
  rw[e];exact done (.fl q) (q.map D.lit) ⟨hp,e.symm⟩
 |ni=>intro w l cs hf hv hk ha;obtain⟨rfl,rfl⟩:=af (aa hf);obtain rfl:=hv;exact done .ni [] rfl
 |pt t v=>intro w l cs hf hv hk ha;obtain⟨rfl,rfl⟩:=af (aa hf);obtain⟨hd,rfl⟩:=hv;exact done (.pt t v) [_] ⟨hd,rfl⟩
 |fn z f q ih=>intro w l cs hf hv hk ha;cases z with|true=>obtain⟨rfl,rfl⟩:=af (aa hf);obtain⟨ds,hd,rfl⟩:=hv;exact done (.fn true f q) [_] ⟨ds,hd,rfl⟩|false=>simp[jW]at hf
 |_=>intro w l cs hf hv hk ha;simp[jW]at hf
def Ha:Sh->Bool
 |.x _=>true
 |_=>false
theorem Nx:∀(c:Sh)(ln:Bool)(v:V)(l:List V)(i:List Nat),eJ h c ln v=some (l,i)->l.length=(Pk c).length:=by
 intro c;induction c with
 |x t=>
  intro ln v l i ha;cases ln with
  |true=>simp[eJ]at ha
  |false=>
   simp only[eJ]at ha;split at ha
   .obtain ⟨rfl,_⟩:=af (aa ha);rfl
   .simp at ha
 |os t=>
  intro ln v l i ha;cases ln with
  |true=>simp[eJ]at ha
  |false=>
   cases v with
   |so id=>
    simp only[eJ]at ha;split at ha
    .split at ha
     .obtain ⟨rfl,_⟩:=af (aa ha);rfl
     .simp at ha
    .simp at ha
   |nl k=>cases k with|zero=>obtain⟨rfl,_⟩:=af (aa ha);rfl|succ=>simp[eJ]at ha
   |_=>simp[eJ]at ha
 |rw t=>
  intro ln v l i ha;cases ln with
  |true=>simp[eJ]at ha
  |false=>
   cases v with
   |sr id=>
    simp only[eJ]at ha;split at ha
    .split at ha
     .obtain ⟨rfl,_⟩:=af (aa ha);rfl
     .simp at ha
    .simp at ha
   |nl k=>cases k with|zero=>obtain⟨rfl,_⟩:=af (aa ha);rfl|succ=>simp[eJ]at ha
   |_=>simp[eJ]at ha
 |pb t c ih=>
  intro ln v l i ha;cases ln with
  |true=>simp[eJ]at ha
  |false=>
   cases v with
   |op id u p=>
    cases p with
    |cons=>simp[eJ]at ha
    |nil=>
     simp only[eJ]at ha;split at ha
     .obtain ⟨_,ha⟩:=aM ha;split at ha
      .rename_i hh;obtain⟨rfl,_⟩:=af (aa ha);exact ih _ _ _ _ hh
      .simp at ha
     .simp at ha
   |_=>simp[eJ]at ha
 |nl k=>
  intro ln v l i ha;cases ln with
  |true=>simp[eJ]at ha
  |false=>cases v with|nl k'=>simp only[eJ]at ha;obtain⟨_,ha⟩:=aM ha;obtain⟨rfl,_⟩:=af (aa ha);rfl|_=>simp[eJ]at ha
 |st c ih=>
  intro ln v l i ha;cases ln with
  |true=>simp[eJ]at ha
  |false=>
   cases v with
   |rc q=>exact ih true q l i ha
   |x t v=>cases t with|st u=>exact ih true _ l i ha|_=>simp[eJ]at ha
   |_=>simp[eJ]at ha
 |pr a c iha ihc=>
  intro ln v l i ha;cases ln with
  |false=>simp[eJ]at ha
  |true=>
   cases v with
   |co x r=>
    simp only[eJ]at ha;split at ha
    .rename_i l1 i1 l2 i2 h2 h3;obtain⟨rfl,rfl⟩:=af (aa ha)
     have hA:l1.length=(Pk a).length:=by
      split at h2
      .unfold Q3 at h2;split at h2
       .obtain ⟨rfl,_⟩:=af (aa h2);rfl
       .simp at h2
      .exact iha _ _ _ _ h2
     rw[au,hA,ihc _ _ _ _ h3];simp[Pk]
    .simp at ha
   |_=>simp[eJ]at ha
 |ni=>
  intro ln v l i ha;cases ln with
  |false=>cases v<;>simp[eJ]at ha
  |true=>cases v with|ni=>obtain⟨rfl,_⟩:=af (aa ha);rfl|_=>simp[eJ]at ha
 |_=>intro ln v l i ha;cases ln<;>cases v<;>simp[eJ]at ha
theorem PE{c:Sh}{v:V}{l:List V}{i:List Nat}(ha:eJ h c false v=some (l,i))(hx:Ha c=false):uq v=yK c/\gm h v=tX h v:=by
 cases c with
 |x t=>simp[Ha]at hx
 |os t=>cases v<;>first|exact⟨rfl,rfl⟩|simp[eJ]at ha
 |rw t=>cases v<;>first|exact⟨rfl,rfl⟩|simp[eJ]at ha
 |pb t c=>cases v<;>first|exact⟨rfl,rfl⟩|simp[eJ]at ha
 |nl k=>cases v<;>first|exact⟨rfl,rfl⟩|simp[eJ]at ha
 |st c=>
  cases v with
  |rc q=>exact⟨rfl,rfl⟩
  |x t v=>cases t with|st u=>exact⟨rfl,rfl⟩|_=>simp[eJ]at ha
  |_=>simp[eJ]at ha
 |_=>cases v<;>simp[eJ]at ha
theorem t_{c:C}{ts:List T}{bq rd:List Nat}(hp:jk h1 301 [c]=some (ts,bq,rd)):∃t rd',fc h1 300 c=some (t,bq,rd')/\ts=[t]:=by
 simp only[jk,ql]at hp;split at hp
 .rename_i t a i xs b j hc hn;obtain⟨rfl,e⟩:=af (aa hp);obtain⟨rfl,rfl⟩:=af e;obtain⟨rfl,e⟩:=af (aa hn);obtain⟨rfl,rfl⟩:=af e;exact⟨t,i,by simpa using hc,rfl⟩
 .simp at hp
theorem Ls(hr:HR n h1 h){c:Sh}{v:V}{l:List V}{i:List Nat}{x:TV}(hc:Oo h c v=some (l,i))(hx:gm h v x)(hk:fB n h v)(ha:iZ h v=true)(hf:jQ (rS c) 300=true):
  l.length=(Pk c).length/\∃r0 bq,tF h1 x=some (r0,bq)/\bq.Sublist i/\∀rest,(bif Ha c then Ka r0 else r0)=(bif yK c then .agg (fP c (l++rest)).1 else .c ((fP c (l++rest)).1.headD default))/\(fP c (l++rest)).2=rest:=by
 have hf:rS c<=300:=jP hf;have main:Ha c=false->eJ h c false v=some (l,i)->l.length=(Pk c).length/\∃r0 bq,tF h1 x=some (r0,bq)/\bq.Sublist i/\∀rest,(bif Ha c then Ka r0 else r0)=(bif yK c then .agg (fP c (l++rest)).1 else .c ((fP c (l++rest)).1.headD default))/\(fP c (l++rest)).2=rest:=by intro hX hc;obtain⟨hag,htv⟩:=PE hc hX;rw[htv]at hx;obtain⟨cs,h2,h3,h4⟩:=hx;obtain⟨ts,bq,rd,g1,g2,g3,_,_,g6,_⟩:=xY hr c false v l i cs hc h2 hk;refine⟨Nx _ _ _ _ _ hc,?_⟩;cases hg:yK c with|true=>obtain rfl:=h3 (hag.trans hg);refine⟨.agg ts,bq,by simp only[tF,g1 300 hf],g3,fun rest=>?_⟩;rw[g2 rest,hX];exact⟨rfl,rfl⟩|false=>obtain⟨c1,rfl,rfl⟩:=h4 (hag.trans hg);obtain⟨t,rd',p1,rfl⟩:=t_ (g1 301 (by omega));refine⟨.c t,bq,by simp only[tF,p1],g3,fun rest=>?_⟩;rw[g2 rest,hX];exact⟨rfl,rfl⟩
 cases c with
 |x t=>
  simp only[Oo]at hc;split at hc
  .rename_i w l' hw;split at hc
   .rename_i y hy;obtain⟨rfl,rfl⟩:=af (aa hc);have h5:tX h v x:=by cases v with|tp q=>simp[jW]at hw|no=>simp[iZ]at ha|gn=>simp[iZ]at ha|_=>exact hx
    obtain⟨cs,h2,h3,h4⟩:=h5;obtain⟨ts,bq,rd,g1,g2,g3,g4,g5⟩:=ML hr v w l' cs hw h2 hk ha;have e:=jH w false t y _ hy g2;have e:=qD e;have hag:uq v=oI t:=g5.symm.trans (xS hy);have hlen:cs.length=bY t:=by rw[g4,<-bO t y,<-e,List.length_map]
    have hf2:bY t+1<=300:=hf;refine⟨rfl,?_⟩;cases hg:oI t with|true=>obtain rfl:=h3 (hag.trans hg);refine⟨.agg ts,bq,by simp only[tF,g1 300 (by omega)],g3,fun rest=>⟨?_,rfl⟩⟩;simp only[Ha,cond_true,Ka,yK,hg,fP,aU,bi,R.agg.injEq];rw[<-e,gR];rfl|false=>obtain⟨c1,rfl,rfl⟩:=h4 (hag.trans hg);obtain⟨q,rd',p1,rfl⟩:=t_ (g1 301 (by simp));refine⟨.c q,bq,by simp only[tF,p1],g3,fun rest=>⟨?_,rfl⟩⟩;simp only[Ha,cond_true,Ka,yK,hg,cond_false,fP,aU,bi,R.c.injEq];rw[<-e];rfl
   .simp at hc
  .simp at hc
 |os t=>
  cases v with
  |sb id ver lo u r=>
   simp only[Oo]at hc;split at hc
   .rename_i u0 s0 v0 ho;split at hc
    .rename_i s hs;obtain⟨rfl,rfl⟩:=af (aa hc);obtain⟨e,rfl⟩:=da hs;cases e;obtain rfl:=rA hx ha;obtain⟨q,bq,rd,q1,_,q3,q4⟩:=Ij hr hk (cH.1 ha).2;obtain rfl:=q4 ⟨_,_,_,ho⟩;exact⟨rfl,.c (Qz (bY t) (aS t) r),bq,by simp only[tF,q1],q3,fun rest=>⟨rfl,rfl⟩⟩
    .simp at hc
   .simp at hc
  |_=>exact main rfl hc
 |_=>exact main rfl hc
theorem GE(hr:HR n h1 h):∀(cs:List Sh)(vs:List V)(l:List V)(i:List Nat)(xs:List TV),BM h cs vs=some (l,i)->nv h vs xs->(∀v∈vs,fB n h v/\iZ h v=true)->cs.all (fun c=>jQ (rS c) 300)=true->
  l.length=(jh cs).length/\∃rs0 bq,vA h1 xs=some (rs0,bq)/\bq.Sublist i/\u_ (cs.map Ha) rs0=pW cs l:=by
 intro cs;induction cs with
 |nil=>intro vs l i xs hc hx _ _;cases vs with|cons=>simp[BM]at hc|nil=>obtain⟨rfl,rfl⟩:=af (aa hc);rw[lY hx];exact⟨rfl,[],[],rfl,cf _,rfl⟩
 |cons c cs ih=>
  intro vs l i xs hc hx hk hf;cases vs with
  |nil=>simp[BM]at hc
  |cons v vs=>
   simp only[BM]at hc;split at hc
   .rename_i l1 i1 l2 i2 h2 h3;obtain⟨rfl,rfl⟩:=af (aa hc);obtain⟨y,ys,rfl,hy,hys⟩:=gz hx;simp only[gk,ai]at hf;obtain⟨e1,r0,bq,a1,a2,a3⟩:=Ls hr h2 hy (hk v (by simp)).1 (hk v (by simp)).2 hf.1;obtain⟨e2,rs0,own2,b1,b2,b3⟩:=ih vs l2 i2 ys h3 hys (fun w hw=>hk w (by simp[hw])) hf.2;refine⟨by simp[jh,e1,e2],r0::rs0,bq++own2,by simp only[vA,a1,b1],a2.append b2,?_⟩;obtain⟨c1,c2⟩:=a3 l2;simp only[aD,u_,pW,c2,b3];rw[<-c1];cases Ha c<;>rfl
   .simp at hc
theorem GD(hr:HR n h1 h):∀(cs:List Sh)(g:V)(l:List V)(i:List Nat)(xs:List C),BL h cs (By g)=some (l,i)->KS h g xs->fB n h g->cs.all (fun c=>jQ (rS c) 300&&!Ha c)=true->
  ∃bq,wW h1 xs (lO cs l) bq/\bq.Sublist i:=by
 intro cs;induction cs with
 |nil=>intro g l i xs hc hx _ _;cases g with|ni=>obtain⟨rfl,rfl⟩:=af (aa hc);obtain rfl:=hx;exact⟨[],.nil,cf _⟩|co a r=>simp[By,BL]at hc|_=>exact hx.elim
 |cons c cs ih=>
  intro g l i xs hc hx hk hf;cases g with
  |ni=>simp[By,BL]at hc
  |co a r=>
   simp only[By,BL]at hc;split at hc
   .rename_i l1 i1 l2 i2 h2 h3;obtain⟨rfl,rfl⟩:=af (aa hc);obtain⟨y,ys,rfl,hy,hys⟩:=hx;simp only[gk,ai,Bool.not_eq_true']at hf;obtain⟨own2,b1,b2⟩:=ih r l2 i2 ys h3 hys hk.2 (by simpa using hf.2);have F3:(bif iZ h a then eJ h c false a else none)=some (l1,i1)->∃bq,wW h1 (y::ys) (lO (c::cs) (l1++l2)) bq/\bq.Sublist (i1++i2):=by intro h2;obtain⟨ha,h2⟩:=aM h2;obtain⟨ts,bq,rd,g1,g2,g3,_⟩:=xY hr c false a l1 i1 [y] h2 (hy ha) hk.1;have hfu:rS c<=300:=jP hf.1.1;obtain⟨t,rd',p1,rfl⟩:=t_ (g1 301 (by omega));refine⟨bq++own2,?_,g3.append b2⟩;simp only[lO,g2 l2,bL];exact .cons p1 b1
    cases c with|gn=>obtain⟨rfl,rfl⟩:=af (aa (show some (([]:List V),([]:List Nat))=some (l1,i1)from h2));exact⟨own2,.wK b1,b2⟩|_=>exact F3 h2
   .simp at hc
  |_=>exact hx.elim
end
theorem Ju(hg:nd){s1:St}{s:S2}(hr:R2 s1 s){r:RV}{v:V}(h:On s r=some v):∃x,yd s1 r=some x/\gm s.heap v x/\fB s.next s.heap v/\iZ s.heap v=true:=by
 cases r with
 |tmp t=>exact pq hg hr (o:=.tmp t) h
 |cell t g n=>
  simp only[On]at h;split at h
  .rename_i p hp;split at h
   .rename_i w l hl;obtain⟨hc,h⟩:=aM h;obtain rfl:=aa h;obtain⟨x,h1,h2,h3,h4⟩:=pq hg hr hp;obtain⟨y,h5,h6,h7⟩:=xF (nx:=0) (c:=rJ) hr.hr hl hc h2 h3;refine⟨y,?_,h6,h7,(pE hc).2.2.2⟩;have h1:cn s1.dF t=some x:=h1;simp only[yd,h1];cases x with
    |c pc=>
     simp only[cI]at h5;split at h5
     .rename_i z aw hz;obtain⟨rfl,_⟩:=af (aa h5);simp only[hz]
     .simp at h5
    |_=>simp[cI]at h5
   .simp at h
  .simp at h
theorem J3(hg:nd){s1:St}{s:S2}(hr:R2 s1 s):∀(lX:List RV)(vs:List V),z_ (On s) lX=some vs->∃xs,eX (lX.map (yd s1))=some xs/\nv s.heap vs xs/\∀v∈vs,fB s.next s.heap v/\iZ s.heap v=true:=by
 intro lX;induction lX with
 |nil=>intro vs h;obtain rfl:=aa h;exact⟨[],rfl,trivial,fun v hv=>by simp at hv⟩
 |cons r lX ih=>
  intro vs h;simp only[z_]at h;split at h
  .rename_i x y hx hy;obtain rfl:=aa h;obtain⟨x1,a1,a2,a3⟩:=Ju hg hr hx;obtain⟨xs,b1,b2,b3⟩:=ih y hy;refine⟨x1::xs,by simp only[aD,eX,a1,b1],⟨a2,b2⟩,fun v hv=>?_⟩;rcases aJ.1 hv with rfl|hv
   .exact a3
   .exact b3 v hv
  .simp at h
def Tc(al:Wy):Bool:=al.all fun w=>w.1.all (fun c=>jQ (rS c) 300)&&w.2.all (fun c=>jQ (rS c) 300&&!Ha c)
theorem Ke(hg:nd){s1:St}{s:S2}(hr:R2 s1 s){lX:List RV}{rs os:List Sh}{l:List V}(h:Kf lX rs os s=some l)(hf1:rs.all (fun c=>jQ (rS c) 300)=true)(hf2:os.all (fun c=>jQ (rS c) 300&&!Ha c)=true):
  ∃rs0,x5 lX s1 rs0 (lO os (l.drop (jh rs).length))/\u_ (rs.map Ha) rs0=pW rs (l.take (jh rs).length):=by
 unfold Kf at h;split at h
 .rename_i vs hvs;split at h
  .rename_i l1 i m j h2 h3;obtain⟨hn,h⟩:=aM h;obtain rfl:=aa h;obtain⟨xs,a1,a2,a3⟩:=J3 hg hr lX vs hvs;obtain⟨e,rs0,bq,b1,b2,b3⟩:=GE hr.hr rs vs l1 i xs h2 a2 a3 hf1;obtain⟨own2,c1,c2⟩:=GD hr.hr os s.gh m j s1.gh h3 hr.gh.1 hr.gh.2 hf2;rw[<-e,List.take_left,List.drop_left];exact⟨rs0,⟨xs,bq,own2,a1,b1,c1,(b2.append c2).nodup (EQ hn)⟩,b3⟩
  .simp at h
 .simp at h
section
variable{h1:bD}
theorem I7:∀(c:Sh)(l:List V)(w:V)(l':List V),DO c l=some (w,l')->rQ w=some (Y2 c l).1/\l'=(Y2 c l).2:=by
 intro c;induction c with
 |ni=>intro l w l' h;obtain⟨rfl,rfl⟩:=af (aa h);exact⟨rfl,rfl⟩
 |pr a c _ ih=>
  intro l w l' h;cases a with
  |pt t=>
   match l with
   |.x u v::l=>
    simp only[DO]at h;obtain⟨hc,hh⟩:=aM h;clear h;simp only[ai,decide_eq_true_eq]at hc;obtain⟨rfl,hd⟩:=hc;split at hh
    .rename_i w2 l2 hw;obtain⟨rfl,rfl⟩:=af (aa hh);obtain⟨h2,h3⟩:=ih l w2 l2 hw;refine⟨?_,h3⟩;simp only[rQ,hd,if_true,h2,Y2]
    .simp at hh
   |[]|.kb _::_|.nl _::_|.so _::_|.sb _ _ _ _ _::_|.op _ _ _::_|.ep _ _ _ _::_|.pt _ _::_|.fn _ _ _::_|.om _::_|.rc _::_|.tp _::_|.ni::_|.co _ _::_|.fl _::_|.no::_|.gn::_=>simp[DO]at h
  |_=>simp[DO]at h
 |_=>intro l w l' h;simp[DO]at h
theorem KB:∀{w:V}{ds:List D},rQ w=some ds->Dv w=true:=by
 intro w;induction w with
 |pt t v=>
  intro ds h;simp only[rQ]at h;split at h
  .assumption
  .simp at h
 |ni=>intro ds _;rfl
 |co a r iha ihr=>
  intro ds h;simp only[rQ]at h;split at h
  .rename_i x y hx hy;simp only[Dv,iha hx,ihr hy,Bool.and_self]
  .simp at h
 |_=>intro ds h;simp[rQ]at h
theorem P6{h:H2}{n:Nat}{i:Nat}{u:Ty}{v:El u}(hd:lJ u=true)(hs:(yK (.x u)||zY (.x u))=true):∃x,gm h (.x u v) x/\fB n h (.x u v)/\
  ∀(r:List A)(k:Nat),enter ((bif yK (.x u)then A.agg (aS u v)else A.d ((aS u v).headD default))::r) i k=((i,x)::(enter r (i+1) k).1,(enter r (i+1) k).2.1,(enter r (i+1) k).2.2.1,(enter r (i+1) k).2.2.2):=by
 cases hg:oI u with
 |true=>refine⟨.agg ((aS u v).map .d),cj ⟨_,⟨hd,rfl⟩,fun _=>rfl,fun e=>(by rw[show uq (.x u v)=oI u from rfl,hg]at e;cases e)⟩,trivial,fun r k=>?_⟩;simp only[yK,hg,cond_true,enter]
 |false=>
  have h1:bY u=1:=by simpa[yK,hg,zY]using hs
  have hl:=bO u v;rw[h1]at hl
  match he:aS u v,hl with|[d],_=>refine⟨.c (.d d),cj ⟨[.d d],⟨hd,by rw[he];rfl⟩,fun e=>(by rw[show uq (.x u v)=oI u from rfl,hg]at e;cases e),fun _=>⟨_,rfl,rfl⟩⟩,trivial,fun r k=>?_⟩;simp only[yK,hg,cond_false,enter,bL]
theorem yn{α:Type}{a t:Nat}{x:α}{l:List (Nat×α)}(h:a≠t):cn ((a,x)::l) t=cn l t:=by simp only[cn];rw[show(a==t)=false by simpa using h,cond_false]
theorem rj{α:Type}{a:Nat}{x:α}{l:List (Nat×α)}:cn ((a,x)::l) a=some x:=by simp[cn]
theorem Kq:∀(ps:List (Bool×Sh))(i:Nat)(l:List V)(s:S2)(h1:bD)(e:List (Nat×V))(s':S2),uj ps i l s=some (e,s')->CO ps=true->HR s.next h1 s.heap->s.gh=.ni->
  HR s'.next ((enter (ik ps l) i s.next).2.1++h1) s'.heap/\ke s.next s.heap s'.heap/\s.next<=s'.next/\(∀p∈(enter (ik ps l) i s.next).2.1,s.next<=p.1/\p.1<s'.next)/\
  (∀t v,cn e t=some v->fB s'.next s'.heap v/\∃x,cn (enter (ik ps l) i s.next).1 t=some x/\gm s'.heap v x)/\
  s'.next=(enter (ik ps l) i s.next).2.2.1/\KS s'.heap s'.gh (enter (ik ps l) i s.next).2.2.2/\fB s'.next s'.heap s'.gh:=by
 intro ps;induction ps with
 |nil=>
  intro i l s h1 e s' he _ hr hg;cases l with
  |cons=>simp[uj]at he
  |nil=>
   obtain⟨rfl,rfl⟩:=af (aa he);simp only[ik,enter,bi];refine⟨hr,ke.refl _ _,am _,fun p hp=>by simp at hp,fun t v h=>by simp[cn]at h,trivial,?_,?_⟩
   .rw [hg];rfl
   .rw [hg];trivial
 |cons p ps ih=>
  obtain⟨b,c⟩:=p;intro i l s h1 e s' he hp hr hg;simp only[CO,ai]at hp;obtain⟨hc,hps⟩:=hp
  -- data: one JW temporary
  have data:∀(l2:List V)(w:V)(a:A)(x:TV),ik ((b,c)::ps) l=a::ik ps l2->(∀(r:List A)(k:Nat),enter (a::r) i k=((i,x)::(enter r (i+1) k).1,(enter r (i+1) k).2.1,(enter r (i+1) k).2.2.1,(enter r (i+1) k).2.2.2))->
    (∀h,gm h w x)->(∀n h,fB n h w)->(match uj ps (i+1) l2 s with|some (e,s)=>some ((i,w)::e,s)|none=>none)=some (e,s')->
    HR s'.next ((enter (ik ((b,c)::ps) l) i s.next).2.1++h1) s'.heap/\ke s.next s.heap s'.heap/\s.next<=s'.next/\(∀p∈(enter (ik ((b,c)::ps) l) i s.next).2.1,s.next<=p.1/\p.1<s'.next)/\
    (∀t v,cn e t=some v->fB s'.next s'.heap v/\∃x,cn (enter (ik ((b,c)::ps) l) i s.next).1 t=some x/\gm s'.heap v x)/\
    s'.next=(enter (ik ((b,c)::ps) l) i s.next).2.2.1/\KS s'.heap s'.gh (enter (ik ((b,c)::ps) l) i s.next).2.2.2/\fB s'.next s'.heap s'.gh:=by
   intro l2 w a x ha hen hx hk he;split at he
   .rename_i e1 s1 h2;obtain⟨rfl,rfl⟩:=af (aa he);obtain⟨a1,a2,a3,a4,a5,a6,a7,a8⟩:=ih (i+1) l2 s h1 e1 s1 h2 hps hr hg;rw[ha,hen];refine⟨a1,a2,a3,a4,fun t v h=>?_,a6,a7,a8⟩;by_cases et:i=t
    .subst et;rw[rj]at h;obtain rfl:=aa h;exact⟨hk _ _,x,rj,hx _⟩
    .rw [yn et]at h|-;exact a5 t v h
   .simp at he
  cases b with
  |true=>
   simp only[cond_true,ai]at hc;simp only[uj]at he;split at he
   .rename_i w l2 s1 hm;split at he
    .rename_i e1 s2 h2;obtain⟨rfl,rfl⟩:=af (aa he);obtain⟨g1,g2,g3,g4,g5,_⟩:=wC c false l s w l2 s1 h1 hm hr;have hone:zY c=true:=by have:=hc.1;cases c<;>simp[wG]at this<;>rfl
     have hlen:=Dk hm hone
     match ht:(fP c l).1,hlen with
     |[t0],_=>
      have hu:jb s.next [t0]=([(lW s.next t0).1],(lW s.next t0).2.1++[],(lW s.next t0).2.2):=rfl;rw[ht,hu]at g1 g3 g4;simp only[aV]at g1 g3 g4;obtain⟨k1,k2,k3,k4,k5,k6,_⟩:=g3;obtain⟨a1,a2,a3,a4,a5,a6,a7,a8⟩:=ih (i+1) l2 s1 ((lW s.next t0).2.1++h1) e1 s2 h2 hps k1 (k4.trans hg);have hen:enter (ik ((true,c)::ps) l) i s.next=((i,.c (lW s.next t0).1)::(enter (ik ps l2) (i+1) s1.next).1,(lW s.next t0).2.1++(enter (ik ps l2) (i+1) s1.next).2.1,(enter (ik ps l2) (i+1) s1.next).2.2.1,(lW s.next t0).1::(enter (ik ps l2) (i+1) s1.next).2.2.2):=by simp only[ik,ht,bL,<-g5,enter,<-g4]
      rw[hen];have hk:=hZ a3 a2 g2;have hcel:=mG a2 g2 g1;refine⟨a1.ext fun j=>xD (fun p hp q hq e=>?_) j,ke.trans k5 k2 a2,bt k5 a3,fun p hp=>?_,fun t v h=>?_,a6,⟨_,_,rfl,fun _=>hcel,a7⟩,⟨hk,a8⟩⟩
      .have:=(k6 p hp).2;have:=(a4 q hq).1;omega
      .rcases ap.1 hp with hp|hp
       .exact ⟨(k6 p hp).1,Nat.lt_of_lt_of_le (k6 p hp).2 a3⟩
       .exact ⟨bt k5 (a4 p hp).1,(a4 p hp).2⟩
      .by_cases et:i=t
       .subst et;rw[rj]at h;obtain rfl:=aa h;refine⟨hk,_,rj,?_⟩;have hag:uq w=false:=by have:=wC c false l s w l2 s1 h1 hm hr;rw[this.2.2.2.2.2 rfl];have:=hc.1;cases c<;>simp[wG]at this<;>rfl
        exact cj ⟨_,hcel,fun e=>(by rw[hag]at e;cases e),fun _=>⟨_,rfl,rfl⟩⟩
       .rw [yn et]at h|-;exact a5 t v h
    .simp at he
   .simp at he
  |false=>
   simp only[cond_false,ai]at hc;cases c with
   |x t=>
    match l,he with
    |.x u v::l,he=>
     simp only[uj]at he;obtain⟨hd,he2⟩:=aM he;simp only[ai,decide_eq_true_eq]at hd;obtain⟨rfl,hd⟩:=hd;obtain⟨x,_,_,h3⟩:=P6 (h:=[]) (n:=0) (i:=i) (v:=v) hd hc.1
     have hx:∀h,gm h (.x u v) x:=fun h=>by
      obtain⟨x',h1,_,h3'⟩:=P6 (h:=h) (n:=0) (i:=i) (v:=v) hd hc.1;have e1:=h3 [] 0;rw[h3' [] 0]at e1;have:x'=x:=by have:=(af e1).1;exact(af (List.cons.inj this).1).2
      rw[<-this];exact h1
     exact data l (.x u v) _ x rfl h3 hx (fun _ _=>trivial) he2
    |[],he|.kb _::_,he|.nl _::_,he|.so _::_,he|.sb _ _ _ _ _::_,he|.op _ _ _::_,he|.ep _ _ _ _::_,he|.pt _ _::_,he|.fn _ _ _::_,he|.om _::_,he|.rc _::_,he|.tp _::_,he|.ni::_,he|.co _ _::_,he|.fl _::_,he|.no::_,he|.gn::_,he=>simp[uj]at he
   |pt t=>match l,he with|.x u v::l,he=>simp only[uj]at he;obtain⟨hd,he2⟩:=aM he;simp only[ai,decide_eq_true_eq]at hd;obtain⟨rfl,hd⟩:=hd;refine data l (.pt u v) (.d (.pt (aS u v))) (.c (.d (.pt (aS u v)))) rfl (fun r k=>by simp only[enter]) (fun h=>cj (dV rfl ⟨hd,rfl⟩)) (fun _ _=>trivial) he2|[],he|.kb _::_,he|.nl _::_,he|.so _::_,he|.sb _ _ _ _ _::_,he|.op _ _ _::_,he|.ep _ _ _ _::_,he|.pt _ _::_,he|.fn _ _ _::_,he|.om _::_,he|.rc _::_,he|.tp _::_,he|.ni::_,he|.co _ _::_,he|.fl _::_,he|.no::_,he|.gn::_,he=>simp[uj]at he
   |nl k=>
    have he:(match uj ps (i+1) l s with|some (e,s)=>some ((i,V.nl k)::e,s)|none=>none)=some (e,s'):=by cases l<;>exact he
    refine data l (.nl k) (.d (PX k)) (.c (.d (PX k))) (by cases l<;>rfl) (fun r k=>by simp only[enter]) (fun h=>cj (dV rfl rfl)) (fun _ _=>trivial) he
   |fn f c2=>
    have he:(match DO c2 l with|some (w,l)=>(match uj ps (i+1) l s with|some (e,s)=>some ((i,V.fn true f w)::e,s)|none=>none)|none=>none)=some (e,s'):=by cases l<;>exact he
    split at he
    .rename_i w l2 hw;obtain⟨h2,rfl⟩:=I7 c2 l w l2 hw;refine data _ (.fn true f w) (.d (.fn f (Y2 c2 l).1)) (.c (.d (.fn f (Y2 c2 l).1))) (by cases l<;>rfl) (fun r k=>by simp only[enter]) (fun h=>cj (dV rfl ⟨_,h2,rfl⟩)) (fun n h=>?_) he;exact(AT (h:=h) w (KB h2)).2 n
    .simp at he
   |_=>cases l<;>simp[uj]at he
theorem Zo{ps:List (Bool×Sh)}{l:List V}{s:S2}(h:Rt ps l=some s)(hp:CO ps=true):R2 (qe (ik ps l)) s:=by
 unfold Rt at h;split at h
 .rename_i e s1 he;obtain rfl:=aa h;obtain⟨a1,a2,a3,a4,a5,a6,a7,a8⟩:=Kq ps 0 l ⟨[],[],0,[],.ni⟩ [] e s1 he hp ⟨fun i o ho=>by simp[fO,cn]at ho⟩ rfl;rw[aV]at a1;exact⟨fun t v ht=>⟨(a5 t v ht).1,fun _=>(a5 t v ht).2⟩,a1,Nat.le_of_eq a6.symm,a7,a8⟩
 .simp at h
end
theorem Kr:∀(ps:List (Bool×Sh))(l:List V),(ik ps l).length=ps.length:=by intro ps;induction ps with|nil=>intro l;rfl|cons p ps ih=>obtain⟨b,c⟩:=p;intro l;cases b<;>simp[ik,ih]
theorem Nf{P:Program}{cE:Cq}{nt:Nat}{an:List (Nat×An)}:∀(c:Code)(n:Nat)(s:St)(Q:tO->St->Prop),W P (oN (qL P cE nt an c n).1) s Q->W P (qR P cE nt c) s Q:=by
 intro c;induction c with
 |skip=>intro n s Q h;exact h
 |exit id=>intro n s Q h;exact h
 |ret=>intro n s Q h;exact h
 |region o ops draw=>
  intro n s Q h;have hm:(ops.toList.map (QR P cE nt ops)).map (·.o)=ops.toList.map (gL P cE nt ops):=by rw[gR];rfl
  cases draw with
  |false=>simp only[qL,aO,if_false,oN,hm]at h;simpa only[qR,aO,if_false]using h
  |true=>
   simp only[qL,if_true]at h;simp only[qR,if_true,xT];split at h
   .rename_i hc;simp only[oN,hm]at h;rw[if_pos (by simpa using hc)];exact h
   .exact h.elim
 |seq a b iha ihb=>intro n s Q h;simp only[qL,oN]at h;exact iha _ s _ (W.mono (vf.mono (fun s1 h1=>ihb _ s1 Q h1) fun _ _ h=>h) h)
 |cond x a b iha ihb=>intro n s Q h;simp only[qL,oN]at h;obtain⟨s1,h0,t,h1,h2,h3⟩:=h;exact⟨s1,h0,t,h1,fun ht=>iha _ s1 Q (h2 ht),fun ht=>ihb _ s1 Q (h3 ht)⟩
 |block id a ih=>intro n s Q h;simp only[qL,oN]at h;exact ih _ s _ h
 |loop a ih=>
  intro n s Q h;simp only[qL]at h;split at h
  .simp only[oN]at h;obtain⟨I,m,h1,h2⟩:=h;exact⟨I,m,h1,fun k s1 hI=>ih _ s1 _ (h2 k s1 hI)⟩
  .exact h.elim
 |scope a ih=>intro n s Q h;exact ih _ s Q h
 |label l=>intro n s Q h;exact h
 |_=>intro n s Q h;exact h.elim
theorem Hw{P:Program}{cE:Cq}{f np:Nat}{an:List (Nat×An)}{F:F2}(h:Cf P cE f np an=some F):∃G,AE P cE f np=some G/\G.np=np/\G.lX=F.lX/\∀s Q,W P (oN F.body) s Q->W P G.body s Q:=by
 unfold Cf at h;split at h
 .simp at h
 rename_i g hg;split at h
 .simp at h
 rename_i code hb;split at h
 case isFalse=>simp at h
 rename_i hc;split at h
 case h_2=>simp at h
 rename_i lX hrv;obtain rfl:=aa h;unfold AE;simp only[hg,hb,hrv];rw[if_pos (by simpa using hc)];exact⟨_,rfl,rfl,rfl,fun s Q hw=>Nf code 0 s Q hw⟩
theorem Qi{lX:List RV}:∀(al:Wy)(z:wV al),∃r o l,(r,o)∈al/\(∀s,O9 lX s al=some z->Kf lX r o s=some l)/\∀Q:List Sh->List Sh->List V->Prop,Q r o l->NT Q al z:=by
 have key:∀(w:Wy)(r o:List Sh)(z:wV.HN r o w),∃r' o' l,(r',o')∈(r,o)::w/\(∀s,Kg lX s r o w=some z->Kf lX r' o' s=some l)/\∀Q:List Sh->List Sh->List V->Prop,Q r' o' l->NS Q r o w z:=by
  intro w;induction w with
  |nil=>
   intro r o z;refine⟨r,o,pY (jh r++jh o) z,by simp,fun s hz=>?_,fun Q hQ=>hQ⟩;simp only[Kg]at hz;split at hz
   .rename_i l hl;rw[qY _ _ _ hz];exact hl
   .simp at hz
  |cons p w ih=>
   obtain⟨r',o'⟩:=p;intro r o z;cases z with
   |inl y=>
    refine⟨r,o,pY (jh r++jh o) y,by simp,fun s hz=>?_,fun Q hQ=>hQ⟩;simp only[Kg]at hz;split at hz
    .rename_i l hl;split at hz
     .rename_i y2 hy;have e:y2=y:=by have:=aa hz;cases this;rfl
      subst e;rw[qY _ _ _ hy];exact hl
     .simp at hz
    .split at hz
     .have:=aa hz;cases this
     .simp at hz
   |inr y=>
    obtain⟨r2,o2,l,h1,h2,h3⟩:=ih r' o' y;refine⟨r2,o2,l,av _ h1,fun s hz=>?_,fun Q hQ=>h3 Q hQ⟩;simp only[Kg]at hz;split at hz
    .split at hz
     .have:=aa hz;cases this
     .simp at hz
    .split at hz
     .rename_i y2 hy;have e:y2=y:=by have:=aa hz;cases this;rfl
      subst e;exact h2 s hy
     .simp at hz
 intro al z;cases al with|nil=>exact nomatch z|cons p w=>exact key w p.1 p.2 z
theorem M0{P:Program}(hm:P.follows .mixedOrders=true){cE:Cq}{f np:Nat}{an:List (Nat×An)}{F:F2}{tb:FU}(htb:qP P tb)(hg:nd)(hF:Cf P cE f np an=some F){ps:List (Bool×Sh)}{al:Wy}(hnp:ps.length=np)(hps:CO ps=true)(hal:Tc al=true)
  {p:rR (jh (ps.map (·.2)))} {z:wV al} (hz:Tg tb (some F) ps al p=some z):
  NT (fun rs os l=>AW P f (ik ps (pY (jh (ps.map (·.2))) p)) (pW rs (l.take (jh rs).length)) (lO os (l.drop (jh rs).length))) al z:=by
 obtain⟨G,hG,hGn,hGr,hGb⟩:=Hw hF;simp only[Tg]at hz;split at hz
 case h_2=>simp at hz
 rename_i s hs;have hr:=Zo hs hps
 -- the ways that the run may end in
 have hend:∀o s1',Sj (nT F.body) (qe (ik ps (pY _ p))) s (fun o s=>match o with|.exit _=>none|_=>O9 F.lX s al) z o s1'->wk (fun s1''=>∃s',R2 s1'' s'/\s1''.gh.length=(qe (ik ps (pY _ p))).gh.length/\(∀i,o≠.exit i)/\O9 F.lX s' al=some z) s1':=by
  intro o s1' h;refine wk.mono h fun s1''⟨s',h1,⟨w,h2,h3⟩,h4⟩=>⟨s',h1,h3.gl,fun i e=>?_,?_⟩
  .subst e;simp at h4
  .cases o with|exit i=>simp at h4|_=>exact h4
 have hW:=W.mono hend (Kk htb hg F.body _ s _ z hz hr);obtain⟨r,o,l,h1,h2,h3⟩:=Qi (lX:=F.lX) al z;refine h3 _ (O6 hm hG (m:=r.map Ha) ⟨?_,hGb _ _ (W.mono (fun ez s1' h=>?_) hW)⟩)
 .rw [Kr,hnp,hGn]
 .have hf:=aT.1 hal (r,o) h1;simp only[ai]at hf;have rO:wk (fun s=>s.gh.length=(qe (ik ps (pY (jh (ps.map (·.2))) p))).gh.length/\∃rs0,x5 G.lX s rs0 (lO o (l.drop (jh r).length))/\u_ (r.map Ha) rs0=pW r (l.take (jh r).length)) s1':=by refine wk.mono h fun s1''⟨s',k1,k2,_,k4⟩=>⟨k2,?_⟩;rw[hGr];exact Ke hg k1 (h2 s' k4) hf.1 hf.2
  cases ez with|normal=>exact rO|ret=>exact rO|exit i=>obtain⟨_,_,_,_,_,k,_⟩:=h;exact absurd rfl (k i)
theorem bM{P:Program}(hm:P.follows .mixedOrders=true)(hg:nd){cE:Cq}{f np:Nat}{an:List (Nat×An)}{tb:FU}(htb:qP P tb){sp:kD}
  (h1:(NR sp&&lS sp.ps.length np&&Tc sp.al)=true) (h3:(fun p=>Tg tb (Cf P cE f np an) sp.ps sp.al p)=sp.fn):cm P f sp:=by
 simp only[ai]at h1;obtain⟨⟨h4,h5⟩,h6⟩:=h1;refine⟨h4,fun p z hz=>?_⟩;have hp:CO sp.ps=true:=by simp only[NR,ai]at h4;exact h4.1.1.2
 rw[<-h3]at hz;have hz:Tg tb (Cf P cE f np an) sp.ps sp.al p=some z:=hz;cases hF:Cf P cE f np an with|none=>rw[hF]at hz;simp[Tg]at hz|some F=>rw[hF]at hz;exact M0 hm htb hg hF (dw h5) hp h6 hz
theorem Re(h:∀g,Rf g=none):nd:=fun g v hg=>by rw[h g]at hg;simp at hg
open Go.ChangeShapes Go.WideShapes Go.ChangeAt Go.RowKit
def yC:(t:Ty)->El t->Prop
 |.i k,x=>k.min<=x/\x<=k.max
 |.s,s=>s.size<=maxLen
 |.f k,b=>(Lit.float k b).wf=true
 |.sl t,s=>s.l.length<=maxLen/\∀x∈s.l,yC t x
 |.pr a c,v=>yC a v.1/\yC c v.2
 |.st t,v=>yC t v
 |.ar _ t,v=>∀x∈v.1,yC t x
 |_,_=>True
def JQ(P:Program)(ok:TypeId->Bool)(sz:TypeId->Nat):List Field->Nat->Nat->Bool
 |[],off,Qs=>lS off Qs
 |f::r,off,Qs=>ok f.type&&lS f.offset off&&lS (P.cellsOf f.type) (sz f.type)&&JQ P ok sz r (off+sz f.type) Qs
def Ip(P:Program):Nat->TypeId->Bool
 |0,_=>false
 |n+1,t=>match P.underlying t with|some (.int _)|some .bool|some .string|some (.float _)=>true|some (.slice e)=>Ip P n e&&Nat.blt 0 (bY (fk P n e))&&lS (P.cellsOf e) (bY (fk P n e))|some (.struct fs)=>JQ P (Ip P n) (fun t=>bY (fk P n t)) fs.toList 0 (P.cellsOf t)|some (.array m e)=>Ip P n e&&lS (P.cellsOf e) (bY (fk P n e))&&lS (P.cellsOf t) (m*bY (fk P n e))|_=>false
theorem LH{P:Program}:∀(n:Nat)(t:TypeId),Ip P n t=true->sE P t (aS (fk P n t)) (yC (fk P n t)):=by
 intro n;induction n with
 |zero=>intro t h;simp[Ip]at h
 |succ n ih=>
  intro t h;simp only[Ip]at h;split at h
  .rename_i k hu;rw[show fk P (n+1) t=.i k by simp only[fk,hu]];exact JJ hu
  .rename_i hu;rw[show fk P (n+1) t=.b by simp only[fk,hu]];exact GT hu
  .rename_i hu;rw[show fk P (n+1) t=.s by simp only[fk,hu]];exact CT hu
  .rename_i k hu;rw[show fk P (n+1) t=.f k by simp only[fk,hu]];exact ED hu
  .rename_i e hu;simp only[ai]at h;obtain⟨⟨h1,h2⟩,h3⟩:=h;rw[show fk P (n+1) t=.sl (fk P n e)by simp only[fk,hu]];exact EC (enc:=aS (fk P n e)) hu (dw h3) (by simpa[Nat.blt_eq]using h2) (fun a=>bO _ a) (ih e h1)
  .rename_i fs hu;rw[show fk P (n+1) t=.st (fk.Tv (fs.toList.map fun f=>fk P n f.type))by simp only[fk,hu]];intro H en w fuel cs x hx;have hl:=Ge hu hx
   have key:∀(suf:List Field)(i off:Nat),(∀j,fs[i+j]?=suf[j]?)->JQ P (Ip P n) (fun t=>bY (fk P n t)) suf off (P.cellsOf t)=true->
     ∃v:El (fk.Tv (suf.map fun f=>fk P n f.type)),yC _ v/\lR w (cs.drop off) (aS _ v):=by
    intro suf;induction suf with
    |nil=>intro i off _ hok;have e:=dw hok;exact⟨(),trivial,lR.nil (by rw[cD,hl,e];omega)⟩
    |cons f r ihr=>
     intro i off hi hok;simp only[JQ,ai]at hok;obtain⟨⟨⟨k1,k2⟩,k3⟩,k4⟩:=hok;have k2:=dw k2;have k3:=dw k3;have hf:fs[i]?=some f:=by have:=hi 0;simpa using this
     obtain⟨a,f1,c1⟩:=EE hu hx hf (ih f.type k1);rw[k2,k3]at c1;obtain⟨v,f2,c2⟩:=ihr (i+1) (off+bY (fk P n f.type)) (fun j=>by have:=hi (j+1);rw[show i+1+j=i+(j+1)by omega,this];rfl) k4
     have hle:off+bY (fk P n f.type)<=cs.length:=by
      have hmono:∀(suf:List Field)(off:Nat),JQ P (Ip P n) (fun t=>bY (fk P n t)) suf off (P.cellsOf t)=true->off<=P.cellsOf t:=by intro suf;induction suf with|nil=>intro off h;exact Nat.le_of_eq (dw h)|cons g r ih=>intro off h;simp only[JQ,ai]at h;have:=ih _ h.2;omega
      rw[hl];exact hmono r _ k4
     have hfield:=lR.field c1 rfl c2 hle;cases r with|nil=>have e:aS (fk.Tv (([]:List Field).map fun f=>fk P n f.type)) v=[]:=rfl;rw[e,aV]at hfield;exact⟨a,f1,hfield⟩|cons g r=>exact⟨(a,v),⟨f1,f2⟩,hfield⟩
   obtain⟨v,f1,c1⟩:=key fs.toList 0 0 (fun j=>by simp) h;exact⟨v,f1,by rw[eG]at c1;exact c1⟩
  .rename_i m e hu;simp only[ai]at h;obtain⟨⟨h1,h2⟩,h3⟩:=h;have h2:=dw h2;have h3:=dw h3;rw[show fk P (n+1) t=.ar m (fk P n e)by simp only[fk,hu]];intro H en w fuel cs x hx;have hl:=KJ hu hx
   have key:∀j,j<=m->∃l:List (El (fk P n e)),l.length=j/\(∀y∈l,yC _ y)/\lR w (cs.drop ((m-j)*bY (fk P n e))) (l.flatMap (aS (fk P n e))):=by
    intro j;induction j with
    |zero=>intro _;exact⟨[],rfl,fun y hy=>by simp at hy,lR.nil (by rw[cD,hl,h3];simp)⟩
    |succ j ihj=>
     intro hj;obtain⟨l,l1,l2,l3⟩:=ihj (by omega);obtain⟨a,f1,c1⟩:=GS hu hx (i:=m-(j+1)) (by omega) (ih e h1);rw[h2]at c1;have hs:(m-(j+1))*bY (fk P n e)+bY (fk P n e)=(m-j)*bY (fk P n e):=by rw[show m-j=(m-(j+1))+1 by omega,Nat.succ_mul]
     refine⟨a::l,by simp[l1],fun y hy=>?_,?_⟩
     .rcases aJ.1 hy with rfl|hy
      .exact f1
      .exact l2 y hy
     .rw [List.flatMap_cons];refine lR.field c1 hs l3 ?_;rw[hl,h3];exact Nat.mul_le_mul_right _ (by omega)
   obtain⟨l,l1,l2,l3⟩:=key m (am _);rw[Nat.sub_self,Nat.zero_mul,eG]at l3;exact⟨⟨l,l1⟩,l2,l3⟩
  .simp at h
def FZ:List Ty->List V->Prop
 |[],l=>l=[]
 |a::r,l=>∃(v:El a)(m:List V),l=.x a v::m/\yC a v/\FZ r m
theorem I0{a:Ty}(v:El a):vd a (.x a v)=some v:=by simp[vd,gN]
theorem FZ.jA:∀{cs:List Ty}{l:List V},FZ cs l->∃p,xj cs l=some p/\pY cs p=l:=by
 have key:∀(r:List Ty)(a:Ty)(l:List V),FZ (a::r) l->∃p,Ga a r l=some p:=by intro r;induction r with|nil=>rintro a l ⟨v,m,rfl,_,hm⟩;have hm:m=[]:=hm;subst hm;exact⟨v,I0 v⟩|cons c r ih=>rintro a l ⟨v,m,rfl,_,hm⟩;obtain⟨p,hp⟩:=ih c m hm;refine⟨(v,p),?_⟩;show Ja (vd a (.x a v)) (Ga c r m)=_;rw[I0,hp];rfl
 intro cs l h;cases cs with|nil=>have h:l=[]:=h;subst h;exact⟨(),rfl,rfl⟩|cons a r=>obtain⟨p,hp⟩:=key r a l h;exact⟨p,hp,qY (a::r) l p hp⟩
theorem RZ{P:Program}{n:Nat}{t:TypeId}(ho:Ip P n t=true)(h1:(oI (fk P n t)||lS (bY (fk P n t)) 1)=true){w:World}{r:Reach}{b:Nat}{v:Value}(hv:Value.okWide P w r b t v)
  {H:Type} {en:TypeId×Value->H} {x:DataW H} {ps:List MemPlace} (h:DataW.Trod en P w 0 (fun _=>true) true t v x ps):∃a:El (fk P n t),yC _ a/\RA (S0 w) w (bif oI (fk P n t)then .agg (aS _ a)else .d ((aS _ a).headD default)) v []:=by
 have hop:=LH n t ho;cases hag:oI (fk P n t)with
 |true=>
  simp only[cond_true];cases n with
  |zero=>simp[Ip]at ho
  |succ n=>
   simp only[Ip]at ho;split at ho
   .rename_i hu;simp[fk,hu,oI]at hag
   .rename_i hu;simp[fk,hu,oI]at hag
   .rename_i hu;simp[fk,hu,oI]at hag
   .rename_i hu;simp[fk,hu,oI]at hag
   .rename_i hu;simp[fk,hu,oI]at hag
   .rename_i fs hu;exact PD hop hv hu h
   .rename_i m e hu;exact PC hop hv hu h
   .simp at ho
 |false=>
  simp only[cond_false];have hsz:bY (fk P n t)=1:=by rw[hag,Bool.false_or]at h1;exact dw h1
  have he:(fun a=>[(aS (fk P n t) a).headD default])=aS (fk P n t):=by
   funext a;have hl:=bO (fk P n t) a;rw[hsz]at hl
   match hh:aS (fk P n t) a,hl with|[d],_=>rfl
  have hs:match P.underlying t with|some (.struct _)|some (.array _ _)|some (.interface _)|some (.func ..)|some (.chan ..)|some .unsafePointer|some (.map _ _)=>False|_=>True:=by
   cases n with
   |zero=>simp[Ip]at ho
   |succ n=>
    simp only[Ip]at ho;split at ho
    .rename_i hu;rw[hu];trivial
    .rename_i hu;rw[hu];trivial
    .rename_i hu;rw[hu];trivial
    .rename_i hu;rw[hu];trivial
    .rename_i hu;rw[hu];trivial
    .rename_i fs hu;simp[fk,hu,oI]at hag
    .rename_i m e hu;simp[fk,hu,oI]at hag
    .simp at ho
  exact TA (d:=fun a=>(aS (fk P n t) a).headD default) (fit:=yC (fk P n t)) (by rw[he];exact hop) hv hs h
def TF(P:Program)(ts:List TypeId):Bool:=ts.all fun t=>Ip P Ks t&&(oI (fk P Ks t)||lS (bY (fk P Ks t)) 1)
theorem PB{P:Program}{W:World}{aN:Nat}{H:Type}{en:TypeId×Value->H}:∀(ts:List TypeId)(vs:List Value)(ds:List (DataW H))(ps:List MemPlace),DataW.TrodAll en P W 0 (fun _=>true) true ts vs ds ps->TF P ts=true->
  (∀(j:Nat)t v,ts[j]?=some t->vs[j]?=some v->Value.okWide P W .any aN t v)->∃l,FZ (ts.map (fk P Ks)) l/\NP (S0 W) W (ik (ts.map fun t=>(false,Sh.x (fk P Ks t))) l) vs []:=by
 intro ts;induction ts with
 |nil=>intro vs ds ps h _ _;cases vs with|nil=>exact⟨[],rfl,rfl⟩|cons=>cases ds<;>exact h.elim
 |cons t ts ih=>
  intro vs ds ps h hok hv;cases vs with
  |nil=>cases ds<;>exact h.elim
  |cons v vs=>cases ds with|nil=>exact h.elim|cons d ds=>obtain⟨p,q,h1,h2,rfl⟩:=h;simp only[TF,gk,ai]at hok;obtain⟨a,f1,r1⟩:=RZ hok.1.1 (by simpa using hok.1.2) (hv 0 t v rfl rfl) h1;obtain⟨l,f2,r2⟩:=ih vs ds q h2 (by simpa[TF]using hok.2) fun j t' v' ht hv'=>hv (j+1) t' v' (by simpa using ht) (by simpa using hv');exact⟨.x _ a::l,⟨a,l,rfl,f1,f2⟩,[],[],rfl,r1,r2⟩
theorem RI:∀(tys:List Ty),jh ((tys.map fun t=>(false,Sh.x t)).map (·.2))=tys:=by intro tys;induction tys with|nil=>rfl|cons a r ih=>show a::jh ((r.map fun t=>(false,Sh.x t)).map (·.2))=a::r;rw[ih]
theorem Kw{P:Program}{f:FuncId}{fn:Func}{s:ChangeSpec}{nc gV handsOn again:Bool}{tb:TypeId}{H:Type}{en:TypeId×Value->H}(hl:laidOutB P=true)(hfn:P.funcs[f]?=some fn)(hbody:fn.body.isSome=true)(hname:(fn.name== "runtime.NumGoroutine")=false)
  (hts:fn.params.toList.all (fun t=>P.readableRec t&&decide (t<P.types.size))=true) (hrt:fn.resultTypes= #[tb]) (htb:P.underlying tb=some .bool) (hvars:s.vars=[])
  {W:World} {args:Array Value} {ds gs:List (DataW H)} {fz:List MemPlace} (hW:DataW.Whole en P fn.params.toList s.vars nc W args.toList ds gs fz)
  (hspec:(s.fn H (ds++gs)).results=[.lit (.bool true)]/\(s.fn H (ds++gs)).args=ds/\(s.fn H (ds++gs)).vars=[])
  (hgl:DB (S0 W) W) {aN:Nat} (hval:∀(j:Nat)t v,fn.params[j]?=some t->args[j]?=some v->Value.okWide P W .any aN t v)
  {tys:List Ty} (hty:fn.params.toList.map (fk P Ks)=tys) (hok:TF P fn.params.toList=true) {ro:Bool} {ld:List Bool} {g:rR (jh ((tys.map fun t=>(false,Sh.x t)).map (·.2)))->Option (wV [([.x .b],[])])}
  (hsp:cm P f ⟨tys.map fun t=>(false,Sh.x t),[([.x .b],[])],ro,ld,g⟩) (law:∀p,FZ (jh ((tys.map fun t=>(false,Sh.x t)).map (·.2))) (pY _ p)->g p=some true):
  Calls P f args W fun e W'=>∃v,e=.returned v/\s.post en P fn nc gV handsOn again W args v W':=by
 have hW':=hW;obtain⟨p,q,hA0,hV,hpq,hfz,hnd⟩:=hW;have hA:DataW.TrodAll en P W 0 (fun _=>true) true fn.params.toList args.toList ds p:=hA0;obtain⟨l,h1,h2⟩:=PB (aN:=aN) _ _ _ _ hA hok fun j t v ht hv=>hval j t v (by simpa using ht) (by simpa using hv);have h3:fn.params.toList.map (fun t=>(false,Sh.x (fk P Ks t)))=tys.map fun t=>(false,Sh.x t):=by rw[<-hty,gR];rfl
 rw[h3]at h2;rw[hty,<-RI tys]at h1;obtain⟨pl,hp,hu⟩:=h1.jA;have hg:=hsp.2 pl true (law pl (by rw[hu];exact h1));rw[<-hu]at h2;exact Nd hl hfn hbody hname hts hrt htb hvars hW' hspec hgl ⟨_,h2,hg⟩
end Go.Ev
