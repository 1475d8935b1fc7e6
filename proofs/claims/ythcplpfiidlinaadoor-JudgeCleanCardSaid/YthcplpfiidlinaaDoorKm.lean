/- Code: what is evaluated is what the abstract machine does. Conditions: as stated. -/
import Derived.Test.YthcplpfiidlinaaDoorKh
import Derived.Test.YthcplpfiidlinaaDoorEvY
open Bool renaming and_eq_true->ai,and_eq_true_iff->dl,false_eq_true->aS
open List renaming all_cons->iI,all_eq_true->bc,append_nil->bC,cons_append->aT,drop_zero->cP,headD_cons->bT,length_append->az,length_drop->gQ,map_cons->aD,map_map->lF,map_nil->aV,mem_append->ap,mem_append_left->aE,mem_append_right->aH,mem_cons->aM,mem_cons_of_mem->aC,nil_append->br,nil_sublist->j6
open List.Sublist renaming refl->bW
open Nat renaming beq->kR,ble->iY,eq_of_beq_eq_true->dz,le_of_ble_eq_true->iX,le_refl->au,le_trans->e_
open Option.some renaming inj->aa
open Prod.mk renaming inj->ad
namespace Go.Ev
theorem Ca(j:J)(s0 s:S2):xm j s0 s=A_ j s0 (Ab j.vs s):=rfl
theorem B_{j:J}{s1':St}{s0 s':S2}{l:List V}(hr:R2 s1' s')(hc:xm j s0 s'=some l):∀i∈s'.wo,s0.next<=i\/i∈j.kl:=by
 obtain⟨s1c,_,_,wc,hwc,_⟩:=A5 j.vs s1' s' hr;rw[Ca]at hc;unfold A_ at hc;split at hc
 case h_2=>simp at hc
 split at hc
 case h_2=>simp at hc
 split at hc
 case h_2=>simp at hc
 obtain⟨hchk,_⟩:=aO hc;simp only[ai,bc]at hchk;intro i hi;have:=hchk.1 i (by rw[hwc];simp[hi]);simpa[Nat.ble_eq]using this
theorem sS{j:J}{ds w:List Nat}{s1 s1':St}{s0 s' s'':S2}{l:List V}(hr0:R2 s1 s0)(hr:R2 s1' s')(hf:w_ ds w s1 s1' s0 s')(hw:∀i∈w,s0.next<=i\/i∈j.kl)(hc:xm j s0 s'=some l)(hs:uw j ds s0 l=some s''):
  ∃s1'' w',Sub s1' s1''/\R2 s1'' s''/\s''.wo=w'++s0.wo/\w_ ds w' s1 s1'' s0 s''/\∀i∈w',s0.next<=i\/i∈j.kl:=by
 obtain⟨s1c,hsub,hrc,wc,hwc,hfc⟩:=A5 j.vs s1' s' hr;have hc2:=hc;rw[Ca]at hc2
 have hwcc:∀i∈wc,s0.next<=i\/i∈j.kl:=by
  unfold A_ at hc2;split at hc2
  case h_2=>simp at hc2
  split at hc2
  case h_2=>simp at hc2
  split at hc2
  case h_2=>simp at hc2
  obtain⟨hchk,_⟩:=aO hc2;simp only[ai,bc]at hchk;intro i hi;have:=hchk.1 i (by rw[hwc];simp[hi]);simpa[Nat.ble_eq]using this
 obtain⟨s1'',w',h1,h2,h3,h4,h5⟩:=QV (w:=wc++w) hr0 hrc (hf.trans (hfc.mono (fun t ht=>by simp at ht) fun i hi=>hi)) (fun i hi=>by
  rcases ap.1 hi with hi|hi
  .exact hwcc i hi
  .exact hw i hi) (by rw[<-Ca];exact hc) hs
 exact⟨s1'',w',hsub.trans h1,h2,h3,h4,h5⟩
theorem He{β:Type}{s0 s':S2}{o:rU}{ds:List Nat}{k:rU->S2->Option β}{z:β}:∀(e:Ex)(x:Ew e),IR s0 o s' e=some x->Ku ds s0 k e x=some z->∃j∈e,∃l s'',xm j.2 s0 s'=some l/\uw j.2 ds s0 l=some s''/\k o s''=some z:=by
 have fin:∀(j:J)(p:qu (pM j))(l:List V),vP (pM j) l=some p->(match uw j ds s0 (oS (pM j) p)with|some s=>k o s|none=>none)=some z->∃s'',uw j ds s0 l=some s''/\k o s''=some z:=by
  intro j p l h1 h2;rw[pS _ _ _ h1]at h2;split at h2
  .rename_i s'' hs;exact⟨s'',hs,h2⟩
  .simp at h2
 have key:∀(r:Ex)(o1:rU)(j:J)(x:Ew.MQ j r),Lu s0 o s' o1 j r=some x->P3 ds s0 k o1 j r x=some z->∃j'∈(o1,j)::r,∃l s'',xm j'.2 s0 s'=some l/\uw j'.2 ds s0 l=some s''/\k o s''=some z:=by
  intro r;induction r with
  |nil=>
   intro o1 j x hx hz;simp only[Lu]at hx;obtain⟨ho,hx2⟩:=aO hx;clear hx;obtain rfl:o=o1:=by simpa using ho
   split at hx2
   .rename_i l hl;obtain⟨s'',h1,h2⟩:=fin j x l hx2 hz;exact⟨(o,j),by simp,l,s'',hl,h1,h2⟩
   .simp at hx2
  |cons q r ih=>
   obtain⟨o2,j2⟩:=q;intro o1 j x hx hz;simp only[Lu]at hx;cases hd:decide (o=o1)with
   |true=>
    rw[hd,cond_true]at hx;obtain rfl:o=o1:=by simpa using hd
    split at hx
    .rename_i l hl;split at hx
     .rename_i p hp;obtain rfl:=aa hx;obtain⟨s'',h1,h2⟩:=fin j p l hp hz;exact⟨(o,j),by simp,l,s'',hl,h1,h2⟩
     .simp at hx
    .simp at hx
   |false=>
    rw[hd,cond_false]at hx;split at hx
    .rename_i y hy;obtain rfl:=aa hx;obtain⟨j',h1,h2⟩:=ih o2 j2 y hy hz;exact⟨j',aC _ h1,h2⟩
    .simp at hx
 intro e x hx hz;cases e with|nil=>exact nomatch x|cons q r=>exact key r q.1 q.2 x hx hz
def Rt{β:Type}(ds:List Nat)(s1:St)(s:S2)(k:rU->S2->Option β)(z:β)(o:rU)(s1':St):Prop:=wk (fun s1''=>∃s',R2 s1'' s'/\Fr ds s1 s1'' s s'/\k o s'=some z) s1'
theorem I6{P:Program}{tb:Eu}(htb:pG P tb)(hg:lH):∀(c:C2){β:Type}(s1:St)(s:S2)(k:rU->S2->Option β)(z:β),xk tb c s k=some z->R2 s1 s->W P (nm c) s1 (Rt (mH c) s1 s k z):=by
 intro c;induction c with
 |skip=>intro β s1 s k z hz hr;exact wk.of (wk.of ⟨s,hr,Fr.refl,hz⟩)
 |exit id=>intro β s1 s k z hz hr;exact wk.of (wk.of ⟨s,hr,Fr.refl,hz⟩)
 |ret=>intro β s1 s k z hz hr;exact wk.of (wk.of ⟨s,hr,Fr.refl,hz⟩)
 |gj=>intro β s1 s k z hz hr;simp[xk]at hz
 |NE ops dr jn=>
  intro β s1 s k z hz hr;cases jn with
  |none=>refine W.mono (fun o s1' h=>?_) (C1 (jn:=none) htb hg (show Hn tb ops dr s (fun s=>k .normal s)=some z by simpa only[xk]using hz) hr);obtain⟨rfl,s',h1,h2,h3⟩:=h;exact wk.of ⟨s',h1,h2,h3⟩
  |some j=>
   simp only[xk]at hz;obtain⟨p,hp,hz⟩:=rF hz;refine W.mono (fun o s1' h=>?_) (C1 (jn:=some j) htb hg hp (hr.wo []));obtain⟨rfl,s',h1,⟨w,h2,h3⟩,h4⟩:=h;split at h4
   .rename_i l hl;rw[pS _ _ _ h4]at hz;split at hz
    .rename_i s'' hs;have hf:w_ (ops.filterMap (·.o.dst)) w s1 s1' s s':=⟨h3.le,h3.eI,h3.gl,h3.ob,h3.dD⟩
     obtain⟨s1'',w',g1,g2,g3,g4,_⟩:=sS hr h1 hf (fun i hi=>B_ h1 hl i (by rw[h2];simp[hi])) hl hs;exact⟨s1'',g1,s'',g2,⟨w',g3,g4⟩,hz⟩
    .simp at hz
   .simp at h4
 |seq a b e iha ihb=>
  intro β s1 s k z hz hr;have go:∀(o:rU)(s1' s1'':St)(s':S2),Sub s1' s1''->R2 s1'' s'->Fr (mH a) s1 s1'' s s'->(match o with|.normal=>xk tb b s' k|o=>k o s')=some z->ug (fun s'=>W P (nm b) s' (Rt (mH (.seq a b e)) s1 s k z)) (Rt (mH (.seq a b e)) s1 s k z) o s1':=by intro o s1' s1'' s' hsub h1 h2 h3;have hda:∀t∈mH a,t∈mH (.seq a b e):=fun t ht=>aE _ ht;have hdb:∀t∈mH b,t∈mH (.seq a b e):=fun t ht=>aH _ ht;cases o with|normal=>refine W.sub hsub (W.mono (fun o s2 h=>?_) (ihb s1'' s' k z h3 h1));exact wk.mono h fun _⟨s3,g1,g2,g3⟩=>⟨s3,g1,(h2.mono hda).trans (g2.mono hdb),g3⟩|exit id=>exact⟨s1'',hsub,s',h1,h2.mono hda,h3⟩|ret=>exact⟨s1'',hsub,s',h1,h2.mono hda,h3⟩
  cases e with
  |nil=>simp only[xk]at hz;refine O1 (W.mono (fun o s1' h=>?_) (iha s1 s _ z hz hr));obtain⟨s1'',hsub,s',h1,h2,h3⟩:=h;exact go o s1' s1'' s' hsub h1 h2 h3
  |cons q r=>
   simp only[xk]at hz;obtain⟨x,hx,hz⟩:=rF hz;refine O1 (W.mono (fun o s1' h=>?_) (iha s1 {s with wo:=[]} _ x hx (hr.wo [])));obtain⟨s1'',hsub,s',h1,⟨w,h2,h3⟩,h4⟩:=h;obtain⟨j,_,l,s'',g1,g2,g3⟩:=He (q::r) x h4 hz;have hf:w_ (mH a) w s1 s1'' s s':=⟨h3.le,h3.eI,h3.gl,h3.ob,h3.dD⟩
   obtain⟨s2,w',k1,k2,k3,k4,_⟩:=sS hr h1 hf (fun i hi=>B_ h1 g1 i (by rw[h2];simp[hi])) g1 g2;exact go o s1' s2 s'' (hsub.trans k1) k2 ⟨w',k3,k4⟩ g3
 |cond c a b iha ihb=>
  intro β s1 s k z hz hr;have hda:∀t∈mH a,t∈mH (.cond c a b):=fun t ht=>aE _ ht;have hdb:∀t∈mH b,t∈mH (.cond c a b):=fun t ht=>aH _ ht
  have go:∀t,kM s1.dD c=some (tB t)->(bif t then xk tb a s k else xk tb b s k)=some z->W P (nm (.cond c a b)) s1 (Rt (mH (.cond c a b)) s1 s k z):=by
   intro t hc hz;refine PF (t:=t) hc (fun ht=>?_) fun ht=>?_
   .subst ht;exact W.mono (fun o s2 h=>wk.mono h fun _⟨s3,g1,g2,g3⟩=>⟨s3,g1,g2.mono hda,g3⟩) (iha s1 s k z hz hr)
   .subst ht;exact W.mono (fun o s2 h=>wk.mono h fun _⟨s3,g1,g2,g3⟩=>⟨s3,g1,g2.mono hdb,g3⟩) (ihb s1 s k z hz hr)
  simp only[xk]at hz;split at hz
  .rename_i t ht;obtain⟨x,h1,h2,_⟩:=nW hg hr ht;rw[vN h2]at h1;exact go t h1 hz
  .rename_i t ht;obtain⟨x,h1,h2,_⟩:=nW hg hr ht;rw[GL h2]at h1;exact go t h1 hz
  .simp at hz
 |block id a ih=>
  intro β s1 s k z hz hr;simp only[xk]at hz;refine M8 (W.mono (fun o s1' h=>?_) (ih s1 s _ z hz hr));cases o with
  |normal=>exact h
  |ret=>exact h
  |exit i=>
   simp only[vF];obtain⟨s1'',hsub,s',h1,h2,h3⟩:=h;by_cases e:i=id
   .subst e;rw[if_pos rfl];simp only[beq_self_eq_true,cond_true]at h3;exact⟨s1'',hsub,s',h1,h2,h3⟩
   .rw [if_neg e];have e':(i==id)=false:=by simpa using e
    simp only[e',cond_false]at h3;exact⟨s1'',hsub,s',h1,h2,h3⟩
 |loop j e a ih=>
  intro β s1 s k z hz hr;simp only[xk]at hz;obtain⟨hkl,hz⟩:=aO hz;have hkl:∀x∈e,∀i∈j.kl,i∈x.2.kl:=fun x hx i hi=>by have:=bc.1 (bc.1 hkl x hx) i hi;simpa using this
  split at hz
  case h_2=>simp at hz
  rename_i l hl;split at hz
  case h_2=>simp at hz
  rename_i p0 hp0;obtain⟨x,hx,hz⟩:=rF hz;obtain⟨n,hn⟩:=oV.1 hx;clear hx
  generalize hf:(fun(p:qu (pM j))=>(match uw j (mH a) s (oS (pM j) p)with
     |some s1=>xk tb a {s1 with wo:=[]} fun o s'=>(match o with
      |.normal=>(match xm j s s' with|some l=>(match vP (pM j) l with|some q=>some (Sum.inl q)|none=>none)|none=>none)
      |o=>(match IR s o s' e with|some x=>some (Sum.inr x)|none=>none))
     |none=>none:Option (qu (pM j)⊕Ew e)))=f at hn
  have hrs:∀n p,jc f n p=some x->∃s2,uw j (mH a) s (oS (pM j) p)=some s2:=by
   intro n p h;cases n with
   |zero=>simp[jc]at h
   |succ n=>
    cases hq:uw j (mH a) s (oS (pM j) p)with
    |some s2=>exact⟨s2,rfl⟩
    |none=>
     have:f p=none:=by rw[<-hf];simp only[hq]
     simp[jc,this]at h
  refine⟨fun n t=>∃p s2 w,jc f n p=some x/\uw j (mH a) s (oS (pM j) p)=some s2/\R2 t s2/\w_ (mH a) w s1 t s s2/\∀i∈w,s.next<=i\/i∈j.kl,n,?_,?_⟩
  .obtain ⟨s2,hs2⟩:=hrs n p0 hn;have hs3:=hs2;rw[pS _ _ _ hp0]at hs3;obtain⟨s1'',w',g1,g2,_,g4,g5⟩:=sS (w:=[]) hr (hr.wo []) ⟨au _,jr.refl _ _,rfl,fun _ _ _=>⟨rfl,fun _ _ _ h=>h⟩,fun _ _ _ h _=>h⟩ (fun i hi=>by simp at hi) hl hs3;exact⟨s1'',g1,p0,s2,w',hn,hs2,g2,g4,g5⟩
  .rintro n t ⟨p,s2,w,h1,h2,h3,h4,h5⟩;cases n with
   |zero=>simp[jc]at h1
   |succ n=>
    have hfp:f p=xk tb a {s2 with wo:=[]} fun o s'=>(match o with
      |.normal=>(match xm j s s' with|some l=>(match vP (pM j) l with|some q=>some (Sum.inl q)|none=>none)|none=>none)
      |o=>(match IR s o s' e with|some x=>some (Sum.inr x)|none=>none)):=by
     rw[<-hf];simp only[h2]
    have hend:∀(o:rU)(t' t'':St)(s':S2)(y:Ew e),o≠.normal->Sub t' t''->R2 t'' s'->Fr (mH a) t t'' {s2 with wo:=[]} s'->IR s o s' e=some y->y=x->Rt (mH a) s1 s k z o t':=by
     rintro o t' t'' s' y _ hsub r1 ⟨wb,e1,e2⟩ hy rfl;obtain⟨j',hj',l',s'',g1,g2,g3⟩:=He e y hy hz;have hfw:w_ (mH a) (wb++w) s1 t'' s s':=h4.trans ⟨e2.le,e2.eI,e2.gl,e2.ob,e2.dD⟩
     obtain⟨s3,w',k1,k2,k3,k4,_⟩:=sS hr r1 hfw (fun i hi=>by
      rcases ap.1 hi with hi|hi
      .exact B_ r1 g1 i (by rw[e1];simp[hi])
      .exact (h5 i hi).imp id (hkl j' hj' i)) g1 g2
     exact⟨s3,hsub.trans k1,s'',k2,⟨w',k3,k4⟩,g3⟩
    simp only[jc]at h1;cases hr1:f p with
    |none=>simp[hr1]at h1
    |some r=>
     rw[hr1]at h1;rw[hfp]at hr1;refine W.mono (fun o t' hq=>?_) (ih t _ _ r hr1 (h3.wo []));obtain⟨t'',hsub,s',r1,r2,r3⟩:=hq;cases o with
     |normal=>
      simp only at r3;split at r3
      .rename_i l2 hl2;split at r3
       .rename_i q hq;obtain rfl:=aa r3;simp only at h1;obtain⟨wb,e1,e2⟩:=r2;obtain⟨s3,hs3⟩:=hrs n q h1;have hs4:=hs3;rw[pS _ _ _ hq]at hs4;have hfw:w_ (mH a) (wb++w) s1 t'' s s':=h4.trans ⟨e2.le,e2.eI,e2.gl,e2.ob,e2.dD⟩
        obtain⟨t3,w',k1,k2,_,k4,k5⟩:=sS hr r1 hfw (fun i hi=>by
         rcases ap.1 hi with hi|hi
         .exact B_ r1 hl2 i (by rw[e1];simp[hi])
         .exact h5 i hi) hl2 hs4
        exact⟨n,Nat.lt_succ_self n,t3,hsub.trans k1,q,s3,w',h1,hs3,k2,k4,k5⟩
       .simp at r3
      .simp at r3
     |exit id=>
      simp only at r3;split at r3
      .rename_i y hy;obtain rfl:=aa r3;exact hend (.exit id) t' t'' s' y (by simp) hsub r1 r2 hy (aa h1)
      .simp at r3
     |ret=>
      simp only at r3;split at r3
      .rename_i y hy;obtain rfl:=aa r3;exact hend .ret t' t'' s' y (by simp) hsub r1 r2 hy (aa h1)
      .simp at r3
section
variable{h:H2}{n:Nat}{h1:bF}
theorem Da{id sz lo len:Nat}{ao:List (List D)}(ho:aB h1 id=some (.aL sz ao)\/aB h1 id=some (.py sz ao))(hl:lo+len<=ao.length)(szo:Nat):
  ∃t bq rd,(∀k,eH h1 k (.fh szo id lo len)=some (t,bq,rd))/\rY t=.sl szo ((ao.drop lo).take len)/\bq.Sublist [id]/\(aB h1 id=some (.aL sz ao)->t=.sl szo ((ao.drop lo).take len)):=by
 by_cases ha:aB h1 id=some (.aL sz ao)
 .exact ⟨.sl szo ((ao.drop lo).take len),[id],[id],fun k=>by cases k<;>simp only[eH,ha,if_pos hl],rfl,bW _,fun _=>rfl⟩
 .have hi:=ho.resolve_left ha;exact⟨.d (.sl szo ((ao.drop lo).take len)),[],[id],fun k=>by cases k<;>simp only[eH,hi,if_pos hl],rfl,j6 _,fun e=>absurd e ha⟩
theorem NL(hr:HR n h1 h){id ver:Nat}{t:Ty}{s:Sl (El t)}(ho:fO h id=some (.ar t s ver)\/fO h id=some (.im t s ver)):
  ∃q bq rd,(∀k,eH h1 k (mj (bz t) (aR t) id s)=some (q,bq,rd))/\rY q=vQ (bz t) (aR t) s/\bq.Sublist [id]:=by
 cases s with
 |nil=>exact⟨_,_,_,fun k=>u6 k _,rfl,j6 _⟩
 |mk l=>
  have hb:aB h1 id=some (.aL (bz t) (l.map (aR t)))\/aB h1 id=some (.py (bz t) (l.map (aR t))):=by
   rcases ho with ho|ho
   .exact .inl ((hr.ob id _ ho).2.1.2.2 l rfl)
   .exact .inr ((hr.ob id _ ho).2.1.2.2 l rfl)
  obtain⟨q,bq,rd,g1,g2,g3,_⟩:=Da (lo:=0) (len:=(l.map (aR t)).length) hb (by omega) (bz t);rw[tL]at g2;exact⟨q,bq,rd,g1,g2,g3⟩
theorem LK{t:Ty}(s:Sl (Sl (El t))):rY (x5 t s)=vQ 1 (aR (.sl t)) (s:Sl (El (.sl t))):=by cases s with|nil=>rfl|mk l=>simp only[x5,rY,vQ,lF];congr 1;exact List.map_congr_left fun r _=>by cases r<;>rfl
theorem NM(hr:HR n h1 h){id:Nat}{t:Ty}{s:Sl (Sl (El t))}(ho:fO h id=some (.rw t s none)):
  ∃bq rd,(∀k,eH h1 k (mj 1 (aR (.sl t)) id (s:Sl (El (.sl t))))=some (x5 t s,bq,rd))/\bq.Sublist [id]:=by
 cases s with|nil=>exact⟨_,_,fun k=>u6 k _,j6 _⟩|mk l=>exact⟨_,_,fun k=>TK (k:=k) ((hr.ob id _ ho).2.1.2.2 l rfl),bW _⟩
theorem GY(hr:HR n h1 h){id ver lo:Nat}{t:Ty}{r:Sl (El t)}(hk:eX n h (.sb id ver lo t r))(ha:Ci h id ver=true):
  ∃q bq rd,(∀k,eH h1 k (yb id lo t r)=some (q,bq,rd))/\rY q=vQ (bz t) (aR t) r/\bq.Sublist [id]/\((∃u s v,fO h id=some (.ar u s v))->q=zL (bz t) (aR t) r):=by
 obtain⟨u,s,ho⟩:=lC ha;obtain⟨_,hc⟩:=hk.2 u s ver ho;obtain⟨hz,hc⟩:=hc rfl;cases r with
 |nil=>exact⟨_,_,_,fun k=>u6 k _,rfl,j6 _,fun _=>rfl⟩
 |mk m=>
  cases s with
  |nil=>exact hc.elim
  |mk l=>
   obtain⟨hl,he⟩:=hc
   have hb:aB h1 id=some (.aL (bz u) (l.map (aR u)))\/aB h1 id=some (.py (bz u) (l.map (aR u))):=by
    rcases ho with ho|ho
    .exact .inl ((hr.ob id _ ho).2.1.2.2 l rfl)
    .exact .inr ((hr.ob id _ ho).2.1.2.2 l rfl)
   obtain⟨q,bq,rd,g1,g2,g3,g4⟩:=Da (lo:=lo) (len:=(m.map (aR t)).length) hb (by simpa using hl) (bz t);rw[show(m.map (aR t)).length=m.length by simp,he]at g2 g4;refine⟨q,bq,rd,fun k=>?_,g2,g3,?_⟩
   .have:=g1 k;simpa[yb]using this
   .rintro ⟨u',s',v',ho'⟩;rcases ho with ho|ho
    .exact g4 ((hr.ob id _ ho).2.1.2.2 l rfl)
    .rw [ho']at ho;simp at ho
theorem IJ(ds:List D):(ds.map T.d).map rY=ds:=by induction ds with|nil=>rfl|cons d ds ih=>simp only[aD,rY,ih]
theorem LM(hr:HR n h1 h):∀(v w:V)(l:List Nat)(cs:List C),je h v=some (w,l)->eZ h v cs->eX n h v->iq h v=true->
  ∃ts bq rd,(∀k,cs.length<=k->iE h1 k cs=some (ts,bq,rd))/\eZ h w ((ts.map rY).map .d)/\bq.Sublist l/\cs.length=ts.length/\sW w=sW v:=by
 have done:∀(v:V)(ds:List D),eZ h v (ds.map .d)->∃ts bq rd,(∀k,(ds.map C.d).length<=k->iE h1 k (ds.map .d)=some (ts,bq,rd))/\eZ h v ((ts.map rY).map .d)/\bq.Sublist ([]:List Nat)/\(ds.map C.d).length=ts.length/\sW v=sW v:=fun v ds hv=>⟨ds.map .d,[],[],fun k hk=>pW ds k (by simpa using hk),by rw[IJ];exact hv,bW _,by simp,rfl⟩
 have one:∀(c:C)(q:T)(bq rd:List Nat),(∀k,eH h1 k c=some (q,bq,rd))->∀k,[c].length<=k->iE h1 k [c]=some ([q],bq,rd):=fun c q bq rd hq k hk=>by
  obtain⟨k,rfl⟩:∃k',k=k'+1:=⟨k-1,by simp at hk;omega⟩
  exact u4 (hq k)
 intro v;induction v with
 |so id=>
  intro w l cs hf hv hk ha;simp only[je]at hf;split at hf
  .rename_i t s l' hs;obtain⟨rfl,rfl⟩:=ad (aa hf);obtain⟨ver,ho,e⟩:=ur hs;have e:l'=[id]:=e;subst e;obtain⟨c,rfl,hc,_⟩:=hv;rw[hc _ (mi ho)];obtain⟨q,bq,rd,q1,q2,q3⟩:=NL hr ho;have hd:kD t=true:=by rcases ho with ho|ho<;>exact(hr.ob id _ ho).2.1.1
   exact⟨[q],bq,rd,one _ q bq rd q1,⟨hd,by simp only[aD,aV,q2];rfl⟩,q3,rfl,rfl⟩
  .simp at hf
 |sr id=>
  intro w l cs hf hv hk ha;simp only[je]at hf;split at hf
  .rename_i t s ho;obtain⟨rfl,rfl⟩:=ad (aa hf);obtain⟨c,rfl,hc,_⟩:=hv;rw[hc _ (su ho)];obtain⟨bq,rd,q1,q3⟩:=NM hr ho;exact⟨[_],bq,rd,one _ _ bq rd q1,⟨(hr.ob id _ ho).2.1.1,by simp only[aD,aV,LK];rfl⟩,q3,rfl,rfl⟩
  .simp at hf
 |sb id ver lo t r=>intro w l cs hf hv hk ha;simp only[je,tT]at hf;obtain⟨rfl,rfl⟩:=ad (aa hf);obtain⟨hd,ha⟩:=dl.1 ha;have ha:Ci h id ver=true:=ha;obtain⟨c,rfl,hc,_⟩:=hv;rw[hc ha];obtain⟨q,bq,rd,q1,q2,q3,_⟩:=GY hr hk ha;exact⟨[q],bq,rd,one _ q bq rd q1,⟨hd,by simp only[aD,aV,q2];rfl⟩,q3,rfl,rfl⟩
 |rc r ih=>
  intro w l cs hf hv hk ha;simp only[je]at hf;split at hf
  .rename_i w' l' hw;obtain⟨rfl,rfl⟩:=ad (aa hf);obtain⟨ts,bq,rd,a1,a2,a3,a4,_⟩:=ih w' l' cs hw hv hk ha;exact⟨ts,bq,rd,a1,a2,a3,a4,rfl⟩
  .simp at hf
 |co a r iha ihr=>
  intro w l cs hf hv hk ha;simp only[je]at hf;split at hf
  .rename_i x l1 y l2 hx hy;obtain⟨rfl,rfl⟩:=ad (aa hf);obtain⟨ca,cr,rfl,h2,h3⟩:=hv;simp only[iq,ai]at ha;obtain⟨ts,bq,rd,a1,a2,a3,a4,_⟩:=iha x l1 ca hx h2 hk.1 ha.1;obtain⟨us,own2,rd2,b1,b2,b3,b4,_⟩:=ihr y l2 cr hy h3 hk.2 ha.2;refine⟨ts++us,bq++own2,rd++rd2,fun k hk=>?_,⟨_,_,by simp,a2,b2⟩,a3.append b3,by simp[a4,b4],rfl⟩;simp only[az]at hk;exact u5 (a1 k (by omega)) (b1 _ (by omega)) (by omega)
  .simp at hf
 |x t v=>intro w l cs hf hv hk ha;obtain⟨rfl,rfl⟩:=ad (aa hf);obtain⟨hd,rfl⟩:=hv;exact done _ _ ⟨hd,rfl⟩
 |kb c=>intro w l cs hf hv hk ha;obtain⟨rfl,rfl⟩:=ad (aa hf);obtain rfl:=hv;exact done (.kb c) [_] rfl
 |nl k=>intro w l cs hf hv hk ha;obtain⟨rfl,rfl⟩:=ad (aa hf);obtain rfl:=hv;exact done (.nl k) [_] rfl
 |fl q=>
  intro w l cs hf hv hk ha;obtain⟨rfl,rfl⟩:=ad (aa hf);obtain⟨hp,rfl⟩:=hv;have e:fk q=(q.map D.lit).map C.d:=by simp[fk]
  rw[e];exact done (.fl q) (q.map D.lit) ⟨hp,e.symm⟩
 |ni=>intro w l cs hf hv hk ha;obtain⟨rfl,rfl⟩:=ad (aa hf);obtain rfl:=hv;exact done .ni [] rfl
 |pt t v=>intro w l cs hf hv hk ha;obtain⟨rfl,rfl⟩:=ad (aa hf);obtain⟨hd,rfl⟩:=hv;exact done (.pt t v) [_] ⟨hd,rfl⟩
 |fn z f q ih=>intro w l cs hf hv hk ha;cases z with|true=>obtain⟨rfl,rfl⟩:=ad (aa hf);obtain⟨ds,hd,rfl⟩:=hv;exact done (.fn true f q) [_] ⟨ds,hd,rfl⟩|false=>simp[je]at hf
 |_=>intro w l cs hf hv hk ha;simp[je]at hf
def FQ:Sh->Bool
 |.x _=>true
 |_=>false
theorem MK:∀(c:Sh)(ln:Bool)(v:V)(l:List V)(i:List Nat),dY h c ln v=some (l,i)->l.length=(Ow c).length:=by
 intro c;induction c with
 |x t=>
  intro ln v l i ha;cases ln with
  |true=>simp[dY]at ha
  |false=>
   simp only[dY]at ha;split at ha
   .obtain ⟨rfl,_⟩:=ad (aa ha);rfl
   .simp at ha
 |os t=>
  intro ln v l i ha;cases ln with
  |true=>simp[dY]at ha
  |false=>
   cases v with
   |so id=>
    simp only[dY]at ha;split at ha
    .split at ha
     .obtain ⟨rfl,_⟩:=ad (aa ha);rfl
     .simp at ha
    .simp at ha
   |nl k=>cases k with|zero=>obtain⟨rfl,_⟩:=ad (aa ha);rfl|succ=>simp[dY]at ha
   |_=>simp[dY]at ha
 |rw t=>
  intro ln v l i ha;cases ln with
  |true=>simp[dY]at ha
  |false=>
   cases v with
   |sr id=>
    simp only[dY]at ha;split at ha
    .split at ha
     .obtain ⟨rfl,_⟩:=ad (aa ha);rfl
     .simp at ha
    .simp at ha
   |nl k=>cases k with|zero=>obtain⟨rfl,_⟩:=ad (aa ha);rfl|succ=>simp[dY]at ha
   |_=>simp[dY]at ha
 |pb t c ih=>
  intro ln v l i ha;cases ln with
  |true=>simp[dY]at ha
  |false=>
   cases v with
   |op id u p=>
    cases p with
    |cons=>simp[dY]at ha
    |nil=>
     simp only[dY]at ha;split at ha
     .obtain ⟨_,ha⟩:=aO ha;split at ha
      .rename_i hh;obtain⟨rfl,_⟩:=ad (aa ha);exact ih _ _ _ _ hh
      .simp at ha
     .simp at ha
   |_=>simp[dY]at ha
 |nl k=>
  intro ln v l i ha;cases ln with
  |true=>simp[dY]at ha
  |false=>cases v with|nl k'=>simp only[dY]at ha;obtain⟨_,ha⟩:=aO ha;obtain⟨rfl,_⟩:=ad (aa ha);rfl|_=>simp[dY]at ha
 |st c ih=>
  intro ln v l i ha;cases ln with
  |true=>simp[dY]at ha
  |false=>
   cases v with
   |rc q=>exact ih true q l i ha
   |x t v=>cases t with|st u=>exact ih true _ l i ha|_=>simp[dY]at ha
   |_=>simp[dY]at ha
 |pr a c iha ihc=>
  intro ln v l i ha;cases ln with
  |false=>simp[dY]at ha
  |true=>
   cases v with
   |co x r=>
    simp only[dY]at ha;split at ha
    .rename_i l1 i1 l2 i2 h2 h3;obtain⟨rfl,rfl⟩:=ad (aa ha)
     have hA:l1.length=(Ow a).length:=by
      split at h2
      .unfold Qg at h2;split at h2
       .obtain ⟨rfl,_⟩:=ad (aa h2);rfl
       .simp at h2
      .exact iha _ _ _ _ h2
     rw[az,hA,ihc _ _ _ _ h3];simp[Ow]
    .simp at ha
   |_=>simp[dY]at ha
 |ni=>
  intro ln v l i ha;cases ln with
  |false=>cases v<;>simp[dY]at ha
  |true=>cases v with|ni=>obtain⟨rfl,_⟩:=ad (aa ha);rfl|_=>simp[dY]at ha
 |_=>intro ln v l i ha;cases ln<;>cases v<;>simp[dY]at ha
theorem OQ{c:Sh}{v:V}{l:List V}{i:List Nat}(ha:dY h c false v=some (l,i))(hx:FQ c=false):sW v=xp c/\fV h v=sq h v:=by
 cases c with
 |x t=>simp[FQ]at hx
 |os t=>cases v<;>first|exact⟨rfl,rfl⟩|simp[dY]at ha
 |rw t=>cases v<;>first|exact⟨rfl,rfl⟩|simp[dY]at ha
 |pb t c=>cases v<;>first|exact⟨rfl,rfl⟩|simp[dY]at ha
 |nl k=>cases v<;>first|exact⟨rfl,rfl⟩|simp[dY]at ha
 |st c=>
  cases v with
  |rc q=>exact⟨rfl,rfl⟩
  |x t v=>cases t with|st u=>exact⟨rfl,rfl⟩|_=>simp[dY]at ha
  |_=>simp[dY]at ha
 |_=>cases v<;>simp[dY]at ha
theorem sB{c:C}{ts:List T}{bq rd:List Nat}(hp:iE h1 301 [c]=some (ts,bq,rd)):∃t rd',eH h1 300 c=some (t,bq,rd')/\ts=[t]:=by
 simp only[iE,o9]at hp;split at hp
 .rename_i t a i xs b j hc hn;obtain⟨rfl,e⟩:=ad (aa hp);obtain⟨rfl,rfl⟩:=ad e;obtain⟨rfl,e⟩:=ad (aa hn);obtain⟨rfl,rfl⟩:=ad e;exact⟨t,i,by simpa using hc,rfl⟩
 .simp at hp
theorem Kk(hr:HR n h1 h){c:Sh}{v:V}{l:List V}{i:List Nat}{x:TV}(hc:NC h c v=some (l,i))(hx:fV h v x)(hk:eX n h v)(ha:iq h v=true)(hf:iY (qv c) 300=true):
  l.length=(Ow c).length/\∃r0 bq,rN h1 x=some (r0,bq)/\bq.Sublist i/\∀rest,(bif FQ c then IX r0 else r0)=(bif xp c then .agg (fA c (l++rest)).1 else .c ((fA c (l++rest)).1.headD default))/\(fA c (l++rest)).2=rest:=by
 have hf:qv c<=300:=iX hf;have main:FQ c=false->dY h c false v=some (l,i)->l.length=(Ow c).length/\∃r0 bq,rN h1 x=some (r0,bq)/\bq.Sublist i/\∀rest,(bif FQ c then IX r0 else r0)=(bif xp c then .agg (fA c (l++rest)).1 else .c ((fA c (l++rest)).1.headD default))/\(fA c (l++rest)).2=rest:=by intro hX hc;obtain⟨hag,htv⟩:=OQ hc hX;rw[htv]at hx;obtain⟨cs,h2,h3,h4⟩:=hx;obtain⟨ts,bq,rd,g1,g2,g3,_,_,g6,_⟩:=wH hr c false v l i cs hc h2 hk;refine⟨MK _ _ _ _ _ hc,?_⟩;cases hg:xp c with|true=>obtain rfl:=h3 (hag.trans hg);refine⟨.agg ts,bq,by simp only[rN,g1 300 hf],g3,fun rest=>?_⟩;rw[g2 rest,hX];exact⟨rfl,rfl⟩|false=>obtain⟨c1,rfl,rfl⟩:=h4 (hag.trans hg);obtain⟨t,rd',p1,rfl⟩:=sB (g1 301 (by omega));refine⟨.c t,bq,by simp only[rN,p1],g3,fun rest=>?_⟩;rw[g2 rest,hX];exact⟨rfl,rfl⟩
 cases c with
 |x t=>
  simp only[NC]at hc;split at hc
  .rename_i w l' hw;split at hc
   .rename_i y hy;obtain⟨rfl,rfl⟩:=ad (aa hc);have h5:sq h v x:=by cases v with|tp q=>simp[je]at hw|no=>simp[iq]at ha|gn=>simp[iq]at ha|_=>exact hx
    obtain⟨cs,h2,h3,h4⟩:=h5;obtain⟨ts,bq,rd,g1,g2,g3,g4,g5⟩:=LM hr v w l' cs hw h2 hk ha;have e:=iS w false t y _ hy g2;have e:=pq e;have hag:sW v=nc t:=g5.symm.trans (wy hy);have hlen:cs.length=bz t:=by rw[g4,<-bJ t y,<-e,List.length_map]
    have hf2:bz t+1<=300:=hf;refine⟨rfl,?_⟩;cases hg:nc t with|true=>obtain rfl:=h3 (hag.trans hg);refine⟨.agg ts,bq,by simp only[rN,g1 300 (by omega)],g3,fun rest=>⟨?_,rfl⟩⟩;simp only[FQ,cond_true,IX,xp,hg,fA,aT,br,R.agg.injEq];rw[<-e,lF];rfl|false=>obtain⟨c1,rfl,rfl⟩:=h4 (hag.trans hg);obtain⟨q,rd',p1,rfl⟩:=sB (g1 301 (by simp));refine⟨.c q,bq,by simp only[rN,p1],g3,fun rest=>⟨?_,rfl⟩⟩;simp only[FQ,cond_true,IX,xp,hg,cond_false,fA,aT,br,R.c.injEq];rw[<-e];rfl
   .simp at hc
  .simp at hc
 |os t=>
  cases v with
  |sb id ver lo u r=>
   simp only[NC]at hc;split at hc
   .rename_i u0 s0 v0 ho;split at hc
    .rename_i s hs;obtain⟨rfl,rfl⟩:=ad (aa hc);obtain⟨e,rfl⟩:=du hs;cases e;obtain rfl:=qa hx ha;obtain⟨q,bq,rd,q1,_,q3,q4⟩:=GY hr hk (dl.1 ha).2;obtain rfl:=q4 ⟨_,_,_,ho⟩;exact⟨rfl,.c (zL (bz t) (aR t) r),bq,by simp only[rN,q1],q3,fun rest=>⟨rfl,rfl⟩⟩
    .simp at hc
   .simp at hc
  |_=>exact main rfl hc
 |_=>exact main rfl hc
theorem Fh(hr:HR n h1 h):∀(cs:List Sh)(vs:List V)(l:List V)(i:List Nat)(xs:List TV),Ay h cs vs=some (l,i)->mE h vs xs->(∀v∈vs,eX n h v/\iq h v=true)->cs.all (fun c=>iY (qv c) 300)=true->
  l.length=(gU cs).length/\∃rs0 bq,uA h1 xs=some (rs0,bq)/\bq.Sublist i/\uc (cs.map FQ) rs0=mB cs l:=by
 intro cs;induction cs with
 |nil=>intro vs l i xs hc hx _ _;cases vs with|cons=>simp[Ay]at hc|nil=>obtain⟨rfl,rfl⟩:=ad (aa hc);rw[lO hx];exact⟨rfl,[],[],rfl,bW _,rfl⟩
 |cons c cs ih=>
  intro vs l i xs hc hx hk hf;cases vs with
  |nil=>simp[Ay]at hc
  |cons v vs=>
   simp only[Ay]at hc;split at hc
   .rename_i l1 i1 l2 i2 h2 h3;obtain⟨rfl,rfl⟩:=ad (aa hc);obtain⟨y,ys,rfl,hy,hys⟩:=gL hx;simp only[iI,ai]at hf;obtain⟨e1,r0,bq,a1,a2,a3⟩:=Kk hr h2 hy (hk v (by simp)).1 (hk v (by simp)).2 hf.1;obtain⟨e2,rs0,own2,b1,b2,b3⟩:=ih vs l2 i2 ys h3 hys (fun w hw=>hk w (by simp[hw])) hf.2;refine⟨by simp[gU,e1,e2],r0::rs0,bq++own2,by simp only[uA,a1,b1],a2.append b2,?_⟩;obtain⟨c1,c2⟩:=a3 l2;simp only[aD,uc,mB,c2,b3];rw[<-c1];cases FQ c<;>rfl
   .simp at hc
theorem Ff(hr:HR n h1 h):∀(cs:List Sh)(g:V)(l:List V)(i:List Nat)(xs:List C),Ax h cs (Am g)=some (l,i)->JJ h g xs->eX n h g->cs.all (fun c=>iY (qv c) 300&&!FQ c)=true->
  ∃bq,vE h1 xs (lf cs l) bq/\bq.Sublist i:=by
 intro cs;induction cs with
 |nil=>intro g l i xs hc hx _ _;cases g with|ni=>obtain⟨rfl,rfl⟩:=ad (aa hc);obtain rfl:=hx;exact⟨[],.nil,bW _⟩|co a r=>simp[Am,Ax]at hc|_=>exact hx.elim
 |cons c cs ih=>
  intro g l i xs hc hx hk hf;cases g with
  |ni=>simp[Am,Ax]at hc
  |co a r=>
   simp only[Am,Ax]at hc;split at hc
   .rename_i l1 i1 l2 i2 h2 h3;obtain⟨rfl,rfl⟩:=ad (aa hc);obtain⟨y,ys,rfl,hy,hys⟩:=hx;simp only[iI,ai,Bool.not_eq_true']at hf;obtain⟨own2,b1,b2⟩:=ih r l2 i2 ys h3 hys hk.2 (by simpa using hf.2);have EF:(bif iq h a then dY h c false a else none)=some (l1,i1)->∃bq,vE h1 (y::ys) (lf (c::cs) (l1++l2)) bq/\bq.Sublist (i1++i2):=by intro h2;obtain⟨ha,h2⟩:=aO h2;obtain⟨ts,bq,rd,g1,g2,g3,_⟩:=wH hr c false a l1 i1 [y] h2 (hy ha) hk.1;have hfu:qv c<=300:=iX hf.1.1;obtain⟨t,rd',p1,rfl⟩:=sB (g1 301 (by omega));refine⟨bq++own2,?_,g3.append b2⟩;simp only[lf,g2 l2,bT];exact .cons p1 b1
    cases c with|gn=>obtain⟨rfl,rfl⟩:=ad (aa (show some (([]:List V),([]:List Nat))=some (l1,i1)from h2));exact⟨own2,.uE b1,b2⟩|_=>exact EF h2
   .simp at hc
  |_=>exact hx.elim
end
theorem H8(hg:lH){s1:St}{s:S2}(hr:R2 s1 s){r:RV}{v:V}(h:NB s r=some v):∃x,wS s1 r=some x/\fV s.heap v x/\eX s.next s.heap v/\iq s.heap v=true:=by
 cases r with
 |tmp t=>exact nW hg hr (o:=.tmp t) h
 |cell t g n=>
  simp only[NB]at h;split at h
  .rename_i p hp;split at h
   .rename_i w l hl;obtain⟨hc,h⟩:=aO h;obtain rfl:=aa h;obtain⟨x,h1,h2,h3,h4⟩:=nW hg hr hp;obtain⟨y,h5,h6,h7⟩:=wa (nx:=0) (c:=qf) hr.hr hl hc h2 h3;refine⟨y,?_,h6,h7,(ol hc).2.2.2⟩;have h1:cq s1.dD t=some x:=h1;simp only[wS,h1];cases x with
    |c pc=>
     simp only[cN]at h5;split at h5
     .rename_i z aA hz;obtain⟨rfl,_⟩:=ad (aa h5);simp only[hz]
     .simp at h5
    |_=>simp[cN]at h5
   .simp at h
  .simp at h
theorem IK(hg:lH){s1:St}{s:S2}(hr:R2 s1 s):∀(kF:List RV)(vs:List V),N2 (NB s) kF=some vs->∃xs,eF (kF.map (wS s1))=some xs/\mE s.heap vs xs/\∀v∈vs,eX s.next s.heap v/\iq s.heap v=true:=by
 intro kF;induction kF with
 |nil=>intro vs h;obtain rfl:=aa h;exact⟨[],rfl,trivial,fun v hv=>by simp at hv⟩
 |cons r kF ih=>
  intro vs h;simp only[N2]at h;split at h
  .rename_i x y hx hy;obtain rfl:=aa h;obtain⟨x1,a1,a2,a3⟩:=H8 hg hr hx;obtain⟨xs,b1,b2,b3⟩:=ih y hy;refine⟨x1::xs,by simp only[aD,eF,a1,b1],⟨a2,b2⟩,fun v hv=>?_⟩;rcases aM.1 hv with rfl|hv
   .exact a3
   .exact b3 v hv
  .simp at h
def R8(al:Wy):Bool:=al.all fun w=>w.1.all (fun c=>iY (qv c) 300)&&w.2.all (fun c=>iY (qv c) 300&&!FQ c)
theorem I2(hg:lH){s1:St}{s:S2}(hr:R2 s1 s){kF:List RV}{rs os:List Sh}{l:List V}(h:I3 kF rs os s=some l)(hf1:rs.all (fun c=>iY (qv c) 300)=true)(hf2:os.all (fun c=>iY (qv c) 300&&!FQ c)=true):
  ∃rs0,wL kF s1 rs0 (lf os (l.drop (gU rs).length))/\uc (rs.map FQ) rs0=mB rs (l.take (gU rs).length):=by
 unfold I3 at h;split at h
 .rename_i vs hvs;split at h
  .rename_i l1 i m j h2 h3;obtain⟨hn,h⟩:=aO h;obtain rfl:=aa h;obtain⟨xs,a1,a2,a3⟩:=IK hg hr kF vs hvs;obtain⟨e,rs0,bq,b1,b2,b3⟩:=Fh hr.hr rs vs l1 i xs h2 a2 a3 hf1;obtain⟨own2,c1,c2⟩:=Ff hr.hr os s.gh m j s1.gh h3 hr.gh.1 hr.gh.2 hf2;rw[<-e,List.take_left,List.drop_left];exact⟨rs0,⟨xs,bq,own2,a1,b1,c1,(b2.append c2).nodup (Ds hn)⟩,b3⟩
  .simp at h
 .simp at h
section
variable{h1:bF}
theorem HF:∀(c:Sh)(l:List V)(w:V)(l':List V),Cz c l=some (w,l')->qt w=some (qM c l).1/\l'=(qM c l).2:=by
 intro c;induction c with
 |ni=>intro l w l' h;obtain⟨rfl,rfl⟩:=ad (aa h);exact⟨rfl,rfl⟩
 |pr a c _ ih=>
  intro l w l' h;cases a with
  |pt t=>
   match l with
   |.x u v::l=>
    simp only[Cz]at h;obtain⟨hc,hh⟩:=aO h;clear h;simp only[ai,decide_eq_true_eq]at hc;obtain⟨rfl,hd⟩:=hc;split at hh
    .rename_i w2 l2 hw;obtain⟨rfl,rfl⟩:=ad (aa hh);obtain⟨h2,h3⟩:=ih l w2 l2 hw;refine⟨?_,h3⟩;simp only[qt,hd,if_true,h2,qM]
    .simp at hh
   |[]|.kb _::_|.nl _::_|.so _::_|.sb _ _ _ _ _::_|.op _ _ _::_|.ep _ _ _ _::_|.pt _ _::_|.fn _ _ _::_|.om _::_|.rc _::_|.tp _::_|.ni::_|.co _ _::_|.fl _::_|.no::_|.gn::_=>simp[Cz]at h
  |_=>simp[Cz]at h
 |_=>intro l w l' h;simp[Cz]at h
theorem Jq:∀{w:V}{ds:List D},qt w=some ds->Ch w=true:=by
 intro w;induction w with
 |pt t v=>
  intro ds h;simp only[qt]at h;split at h
  .assumption
  .simp at h
 |ni=>intro ds _;rfl
 |co a r iha ihr=>
  intro ds h;simp only[qt]at h;split at h
  .rename_i x y hx hy;simp only[Ch,iha hx,ihr hy,Bool.and_self]
  .simp at h
 |_=>intro ds h;simp[qt]at h
theorem Ph{h:H2}{n:Nat}{i:Nat}{u:Ty}{v:El u}(hd:kD u=true)(hs:(xp (.x u)||yz (.x u))=true):∃x,fV h (.x u v) x/\eX n h (.x u v)/\
  ∀(r:List A)(k:Nat),enter ((bif xp (.x u)then A.agg (aR u v)else A.d ((aR u v).headD default))::r) i k=((i,x)::(enter r (i+1) k).1,(enter r (i+1) k).2.1,(enter r (i+1) k).2.2.1,(enter r (i+1) k).2.2.2):=by
 cases hg:nc u with
 |true=>refine⟨.agg ((aR u v).map .d),ci ⟨_,⟨hd,rfl⟩,fun _=>rfl,fun e=>(by rw[show sW (.x u v)=nc u from rfl,hg]at e;cases e)⟩,trivial,fun r k=>?_⟩;simp only[xp,hg,cond_true,enter]
 |false=>
  have h1:bz u=1:=by simpa[xp,hg,yz]using hs
  have hl:=bJ u v;rw[h1]at hl
  match he:aR u v,hl with|[d],_=>refine⟨.c (.d d),ci ⟨[.d d],⟨hd,by rw[he];rfl⟩,fun e=>(by rw[show sW (.x u v)=nc u from rfl,hg]at e;cases e),fun _=>⟨_,rfl,rfl⟩⟩,trivial,fun r k=>?_⟩;simp only[xp,hg,cond_false,enter,bT]
theorem wY{α:Type}{a t:Nat}{x:α}{l:List (Nat×α)}(h:a≠t):cq ((a,x)::l) t=cq l t:=by simp only[cq];rw[show(a==t)=false by simpa using h,cond_false]
theorem pZ{α:Type}{a:Nat}{x:α}{l:List (Nat×α)}:cq ((a,x)::l) a=some x:=by simp[cq]
theorem Ja:∀(ps:List (Bool×Sh))(i:Nat)(l:List V)(s:S2)(h1:bF)(e:List (Nat×V))(s':S2),sN ps i l s=some (e,s')->BC ps=true->HR s.next h1 s.heap->s.gh=.ni->
  HR s'.next ((enter (gS ps l) i s.next).2.1++h1) s'.heap/\jr s.next s.heap s'.heap/\s.next<=s'.next/\(∀p∈(enter (gS ps l) i s.next).2.1,s.next<=p.1/\p.1<s'.next)/\
  (∀t v,cq e t=some v->eX s'.next s'.heap v/\∃x,cq (enter (gS ps l) i s.next).1 t=some x/\fV s'.heap v x)/\
  s'.next=(enter (gS ps l) i s.next).2.2.1/\JJ s'.heap s'.gh (enter (gS ps l) i s.next).2.2.2/\eX s'.next s'.heap s'.gh:=by
 intro ps;induction ps with
 |nil=>
  intro i l s h1 e s' he _ hr hg;cases l with
  |cons=>simp[sN]at he
  |nil=>
   obtain⟨rfl,rfl⟩:=ad (aa he);simp only[gS,enter,br];refine⟨hr,jr.refl _ _,au _,fun p hp=>by simp at hp,fun t v h=>by simp[cq]at h,trivial,?_,?_⟩
   .rw [hg];rfl
   .rw [hg];trivial
 |cons p ps ih=>
  obtain⟨b,c⟩:=p;intro i l s h1 e s' he hp hr hg;simp only[BC,ai]at hp;obtain⟨hc,hps⟩:=hp
  -- data: one more temporary
  have data:∀(l2:List V)(w:V)(a:A)(x:TV),gS ((b,c)::ps) l=a::gS ps l2->(∀(r:List A)(k:Nat),enter (a::r) i k=((i,x)::(enter r (i+1) k).1,(enter r (i+1) k).2.1,(enter r (i+1) k).2.2.1,(enter r (i+1) k).2.2.2))->
    (∀h,fV h w x)->(∀n h,eX n h w)->(match sN ps (i+1) l2 s with|some (e,s)=>some ((i,w)::e,s)|none=>none)=some (e,s')->
    HR s'.next ((enter (gS ((b,c)::ps) l) i s.next).2.1++h1) s'.heap/\jr s.next s.heap s'.heap/\s.next<=s'.next/\(∀p∈(enter (gS ((b,c)::ps) l) i s.next).2.1,s.next<=p.1/\p.1<s'.next)/\
    (∀t v,cq e t=some v->eX s'.next s'.heap v/\∃x,cq (enter (gS ((b,c)::ps) l) i s.next).1 t=some x/\fV s'.heap v x)/\
    s'.next=(enter (gS ((b,c)::ps) l) i s.next).2.2.1/\JJ s'.heap s'.gh (enter (gS ((b,c)::ps) l) i s.next).2.2.2/\eX s'.next s'.heap s'.gh:=by
   intro l2 w a x ha hen hx hk he;split at he
   .rename_i e1 s1 h2;obtain⟨rfl,rfl⟩:=ad (aa he);obtain⟨a1,a2,a3,a4,a5,a6,a7,a8⟩:=ih (i+1) l2 s h1 e1 s1 h2 hps hr hg;rw[ha,hen];refine⟨a1,a2,a3,a4,fun t v h=>?_,a6,a7,a8⟩;by_cases et:i=t
    .subst et;rw[pZ]at h;obtain rfl:=aa h;exact⟨hk _ _,x,pZ,hx _⟩
    .rw [wY et]at h|-;exact a5 t v h
   .simp at he
  cases b with
  |true=>
   simp only[cond_true,ai]at hc;simp only[sN]at he;split at he
   .rename_i w l2 s1 hm;split at he
    .rename_i e1 s2 h2;obtain⟨rfl,rfl⟩:=ad (aa he);obtain⟨g1,g2,g3,g4,g5,_⟩:=vg c false l s w l2 s1 h1 hm hr;have hone:yz c=true:=by have:=hc.1;cases c<;>simp[vj]at this<;>rfl
     have hlen:=B2 hm hone
     match ht:(fA c l).1,hlen with
     |[t0],_=>
      have hu:iA s.next [t0]=([(kU s.next t0).1],(kU s.next t0).2.1++[],(kU s.next t0).2.2):=rfl;rw[ht,hu]at g1 g3 g4;simp only[bC]at g1 g3 g4;obtain⟨k1,k2,k3,k4,k5,k6,_⟩:=g3;obtain⟨a1,a2,a3,a4,a5,a6,a7,a8⟩:=ih (i+1) l2 s1 ((kU s.next t0).2.1++h1) e1 s2 h2 hps k1 (k4.trans hg);have hen:enter (gS ((true,c)::ps) l) i s.next=((i,.c (kU s.next t0).1)::(enter (gS ps l2) (i+1) s1.next).1,(kU s.next t0).2.1++(enter (gS ps l2) (i+1) s1.next).2.1,(enter (gS ps l2) (i+1) s1.next).2.2.1,(kU s.next t0).1::(enter (gS ps l2) (i+1) s1.next).2.2.2):=by simp only[gS,ht,bT,<-g5,enter,<-g4]
      rw[hen];have hk:=gJ a3 a2 g2;have hcel:=lB a2 g2 g1;refine⟨a1.ext fun j=>v8 (fun p hp q hq e=>?_) j,jr.trans k5 k2 a2,e_ k5 a3,fun p hp=>?_,fun t v h=>?_,a6,⟨_,_,rfl,fun _=>hcel,a7⟩,⟨hk,a8⟩⟩
      .have:=(k6 p hp).2;have:=(a4 q hq).1;omega
      .rcases ap.1 hp with hp|hp
       .exact ⟨(k6 p hp).1,Nat.lt_of_lt_of_le (k6 p hp).2 a3⟩
       .exact ⟨e_ k5 (a4 p hp).1,(a4 p hp).2⟩
      .by_cases et:i=t
       .subst et;rw[pZ]at h;obtain rfl:=aa h;refine⟨hk,_,pZ,?_⟩;have hag:sW w=false:=by have:=vg c false l s w l2 s1 h1 hm hr;rw[this.2.2.2.2.2 rfl];have:=hc.1;cases c<;>simp[vj]at this<;>rfl
        exact ci ⟨_,hcel,fun e=>(by rw[hag]at e;cases e),fun _=>⟨_,rfl,rfl⟩⟩
       .rw [wY et]at h|-;exact a5 t v h
    .simp at he
   .simp at he
  |false=>
   simp only[cond_false,ai]at hc;cases c with
   |x t=>
    match l,he with
    |.x u v::l,he=>
     simp only[sN]at he;obtain⟨hd,he2⟩:=aO he;simp only[ai,decide_eq_true_eq]at hd;obtain⟨rfl,hd⟩:=hd;obtain⟨x,_,_,h3⟩:=Ph (h:=[]) (n:=0) (i:=i) (v:=v) hd hc.1
     have hx:∀h,fV h (.x u v) x:=fun h=>by
      obtain⟨x',h1,_,h3'⟩:=Ph (h:=h) (n:=0) (i:=i) (v:=v) hd hc.1;have e1:=h3 [] 0;rw[h3' [] 0]at e1;have:x'=x:=by have:=(ad e1).1;exact(ad (List.cons.inj this).1).2
      rw[<-this];exact h1
     exact data l (.x u v) _ x rfl h3 hx (fun _ _=>trivial) he2
    |[],he|.kb _::_,he|.nl _::_,he|.so _::_,he|.sb _ _ _ _ _::_,he|.op _ _ _::_,he|.ep _ _ _ _::_,he|.pt _ _::_,he|.fn _ _ _::_,he|.om _::_,he|.rc _::_,he|.tp _::_,he|.ni::_,he|.co _ _::_,he|.fl _::_,he|.no::_,he|.gn::_,he=>simp[sN]at he
   |pt t=>match l,he with|.x u v::l,he=>simp only[sN]at he;obtain⟨hd,he2⟩:=aO he;simp only[ai,decide_eq_true_eq]at hd;obtain⟨rfl,hd⟩:=hd;refine data l (.pt u v) (.d (.pt (aR u v))) (.c (.d (.pt (aR u v)))) rfl (fun r k=>by simp only[enter]) (fun h=>ci (dR rfl ⟨hd,rfl⟩)) (fun _ _=>trivial) he2|[],he|.kb _::_,he|.nl _::_,he|.so _::_,he|.sb _ _ _ _ _::_,he|.op _ _ _::_,he|.ep _ _ _ _::_,he|.pt _ _::_,he|.fn _ _ _::_,he|.om _::_,he|.rc _::_,he|.tp _::_,he|.ni::_,he|.co _ _::_,he|.fl _::_,he|.no::_,he|.gn::_,he=>simp[sN]at he
   |nl k=>
    have he:(match sN ps (i+1) l s with|some (e,s)=>some ((i,V.nl k)::e,s)|none=>none)=some (e,s'):=by cases l<;>exact he
    refine data l (.nl k) (.d (O8 k)) (.c (.d (O8 k))) (by cases l<;>rfl) (fun r k=>by simp only[enter]) (fun h=>ci (dR rfl rfl)) (fun _ _=>trivial) he
   |fn f c2=>
    have he:(match Cz c2 l with|some (w,l)=>(match sN ps (i+1) l s with|some (e,s)=>some ((i,V.fn true f w)::e,s)|none=>none)|none=>none)=some (e,s'):=by cases l<;>exact he
    split at he
    .rename_i w l2 hw;obtain⟨h2,rfl⟩:=HF c2 l w l2 hw;refine data _ (.fn true f w) (.d (.fn f (qM c2 l).1)) (.c (.d (.fn f (qM c2 l).1))) (by cases l<;>rfl) (fun r k=>by simp only[enter]) (fun h=>ci (dR rfl ⟨_,h2,rfl⟩)) (fun n h=>?_) he;exact(zx (h:=h) w (Jq h2)).2 n
    .simp at he
   |_=>cases l<;>simp[sN]at he
theorem I_{ps:List (Bool×Sh)}{l:List V}{s:S2}(h:QF ps l=some s)(hp:BC ps=true):R2 (oZ (gS ps l)) s:=by
 unfold QF at h;split at h
 .rename_i e s1 he;obtain rfl:=aa h;obtain⟨a1,a2,a3,a4,a5,a6,a7,a8⟩:=Ja ps 0 l ⟨[],[],0,[],.ni⟩ [] e s1 he hp ⟨fun i o ho=>by simp[fO,cq]at ho⟩ rfl;rw[bC]at a1;exact⟨fun t v ht=>⟨(a5 t v ht).1,fun _=>(a5 t v ht).2⟩,a1,Nat.le_of_eq a6.symm,a7,a8⟩
 .simp at h
end
theorem Jb:∀(ps:List (Bool×Sh))(l:List V),(gS ps l).length=ps.length:=by intro ps;induction ps with|nil=>intro l;rfl|cons p ps ih=>obtain⟨b,c⟩:=p;intro l;cases b<;>simp[gS,ih]
theorem Ms{P:Program}{dg:Ah}{nt:Nat}{an:List (Nat×An)}:∀(c:Code)(n:Nat)(s:St)(Q:rU->St->Prop),W P (nm (pC P dg nt an c n).1) s Q->W P (pL P dg nt c) s Q:=by
 intro c;induction c with
 |skip=>intro n s Q h;exact h
 |exit id=>intro n s Q h;exact h
 |ret=>intro n s Q h;exact h
 |region o ops draw=>
  intro n s Q h;have hm:(ops.toList.map (P_ P dg nt ops)).map (·.o)=ops.toList.map (gw P dg nt ops):=by rw[lF];rfl
  cases draw with
  |false=>simp only[pC,aS,if_false,nm,hm]at h;simpa only[pL,aS,if_false]using h
  |true=>
   simp only[pC,if_true]at h;simp only[pL,if_true,wA];split at h
   .rename_i hc;simp only[nm,hm]at h;rw[if_pos (by simpa using hc)];exact h
   .exact h.elim
 |seq a b iha ihb=>intro n s Q h;simp only[pC,nm]at h;exact iha _ s _ (W.mono (ug.mono (fun s1 h1=>ihb _ s1 Q h1) fun _ _ h=>h) h)
 |cond x a b iha ihb=>intro n s Q h;simp only[pC,nm]at h;obtain⟨s1,h0,t,h1,h2,h3⟩:=h;exact⟨s1,h0,t,h1,fun ht=>iha _ s1 Q (h2 ht),fun ht=>ihb _ s1 Q (h3 ht)⟩
 |block id a ih=>intro n s Q h;simp only[pC,nm]at h;exact ih _ s _ h
 |loop a ih=>
  intro n s Q h;simp only[pC]at h;split at h
  .simp only[nm]at h;obtain⟨I,m,h1,h2⟩:=h;exact⟨I,m,h1,fun k s1 hI=>ih _ s1 _ (h2 k s1 hI)⟩
  .exact h.elim
 |scope a ih=>intro n s Q h;exact ih _ s Q h
 |label l=>intro n s Q h;exact h
 |_=>intro n s Q h;exact h.elim
theorem Gj{P:Program}{dg:Ah}{f np:Nat}{an:List (Nat×An)}{F:F2}(h:A6 P dg f np an=some F):∃G,zm P dg f np=some G/\G.np=np/\G.kF=F.kF/\∀s Q,W P (nm F.body) s Q->W P G.body s Q:=by
 unfold A6 at h;split at h
 .simp at h
 rename_i g hg;split at h
 .simp at h
 rename_i code hb;split at h
 case isFalse=>simp at h
 rename_i hc;split at h
 case h_2=>simp at h
 rename_i kF hrv;obtain rfl:=aa h;unfold zm;simp only[hg,hb,hrv];rw[if_pos (by simpa using hc)];exact⟨_,rfl,rfl,rfl,fun s Q hw=>Ms code 0 s Q hw⟩
theorem PD{kF:List RV}:∀(al:Wy)(z:vC al),∃r o l,(r,o)∈al/\(∀s,Oi kF s al=some z->I3 kF r o s=some l)/\∀Q:List Sh->List Sh->List V->Prop,Q r o l->M6 Q al z:=by
 have key:∀(w:Wy)(r o:List Sh)(z:vC.GB r o w),∃r' o' l,(r',o')∈(r,o)::w/\(∀s,I4 kF s r o w=some z->I3 kF r' o' s=some l)/\∀Q:List Sh->List Sh->List V->Prop,Q r' o' l->M5 Q r o w z:=by
  intro w;induction w with
  |nil=>
   intro r o z;refine⟨r,o,oS (gU r++gU o) z,by simp,fun s hz=>?_,fun Q hQ=>hQ⟩;simp only[I4]at hz;split at hz
   .rename_i l hl;rw[pS _ _ _ hz];exact hl
   .simp at hz
  |cons p w ih=>
   obtain⟨r',o'⟩:=p;intro r o z;cases z with
   |inl y=>
    refine⟨r,o,oS (gU r++gU o) y,by simp,fun s hz=>?_,fun Q hQ=>hQ⟩;simp only[I4]at hz;split at hz
    .rename_i l hl;split at hz
     .rename_i y2 hy;have e:y2=y:=by have:=aa hz;cases this;rfl
      subst e;rw[pS _ _ _ hy];exact hl
     .simp at hz
    .split at hz
     .have:=aa hz;cases this
     .simp at hz
   |inr y=>
    obtain⟨r2,o2,l,h1,h2,h3⟩:=ih r' o' y;refine⟨r2,o2,l,aC _ h1,fun s hz=>?_,fun Q hQ=>h3 Q hQ⟩;simp only[I4]at hz;split at hz
    .split at hz
     .have:=aa hz;cases this
     .simp at hz
    .split at hz
     .rename_i y2 hy;have e:y2=y:=by have:=aa hz;cases this;rfl
      subst e;exact h2 s hy
     .simp at hz
 intro al z;cases al with|nil=>exact nomatch z|cons p w=>exact key w p.1 p.2 z
theorem L4{P:Program}(hm:P.follows .mixedOrders=true){dg:Ah}{f np:Nat}{an:List (Nat×An)}{F:F2}{tb:Eu}(htb:pG P tb)(hg:lH)(hF:A6 P dg f np an=some F){ps:List (Bool×Sh)}{al:Wy}(hnp:ps.length=np)(hps:BC ps=true)(hal:R8 al=true)
  {p:qu (gU (ps.map (·.2)))} {z:vC al} (hz:Sa tb (some F) ps al p=some z):
  M6 (fun rs os l=>r_ P f (gS ps (oS (gU (ps.map (·.2))) p)) (mB rs (l.take (gU rs).length)) (lf os (l.drop (gU rs).length))) al z:=by
 obtain⟨G,hG,hGn,hGr,hGb⟩:=Gj hF;simp only[Sa]at hz;split at hz
 case h_2=>simp at hz
 rename_i s hs;have hr:=I_ hs hps
 -- the ways that the run may end in
 have hend:∀o s1',Rt (mH F.body) (oZ (gS ps (oS _ p))) s (fun o s=>match o with|.exit _=>none|_=>Oi F.kF s al) z o s1'->wk (fun s1''=>∃s',R2 s1'' s'/\s1''.gh.length=(oZ (gS ps (oS _ p))).gh.length/\(∀i,o≠.exit i)/\Oi F.kF s' al=some z) s1':=by
  intro o s1' h;refine wk.mono h fun s1''⟨s',h1,⟨w,h2,h3⟩,h4⟩=>⟨s',h1,h3.gl,fun i e=>?_,?_⟩
  .subst e;simp at h4
  .cases o with|exit i=>simp at h4|_=>exact h4
 have hW:=W.mono hend (I6 htb hg F.body _ s _ z hz hr);obtain⟨r,o,l,h1,h2,h3⟩:=PD (kF:=F.kF) al z;refine h3 _ (Of hm hG (m:=r.map FQ) ⟨?_,hGb _ _ (W.mono (fun dX s1' h=>?_) hW)⟩)
 .rw [Jb,hnp,hGn]
 .have hf:=bc.1 hal (r,o) h1;simp only[ai]at hf;have fin:wk (fun s=>s.gh.length=(oZ (gS ps (oS (gU (ps.map (·.2))) p))).gh.length/\∃rs0,wL G.kF s rs0 (lf o (l.drop (gU r).length))/\uc (r.map FQ) rs0=mB r (l.take (gU r).length)) s1':=by refine wk.mono h fun s1''⟨s',k1,k2,_,k4⟩=>⟨k2,?_⟩;rw[hGr];exact I2 hg k1 (h2 s' k4) hf.1 hf.2
  cases dX with|normal=>exact fin|ret=>exact fin|exit i=>obtain⟨_,_,_,_,_,k,_⟩:=h;exact absurd rfl (k i)
theorem cH{P:Program}(hm:P.follows .mixedOrders=true)(hg:lH){dg:Ah}{f np:Nat}{an:List (Nat×An)}{tb:Eu}(htb:pG P tb){sp:lD}
  (h1:(M4 sp&&kR sp.ps.length np&&R8 sp.al)=true) (h3:(fun p=>Sa tb (A6 P dg f np an) sp.ps sp.al p)=sp.fn):cV P f sp:=by
 simp only[ai]at h1;obtain⟨⟨h4,h5⟩,h6⟩:=h1;refine⟨h4,fun p z hz=>?_⟩;have hp:BC sp.ps=true:=by simp only[M4,ai]at h4;exact h4.1.1.2
 rw[<-h3]at hz;have hz:Sa tb (A6 P dg f np an) sp.ps sp.al p=some z:=hz;cases hF:A6 P dg f np an with|none=>rw[hF]at hz;simp[Sa]at hz|some F=>rw[hF]at hz;exact L4 hm htb hg hF (dz h5) hp h6 hz
theorem Hg{v:V}{d:D}(hv:∀g w,LG g=some w->g=0/\w=v)(h0:Qu 0=some d)(hd:∀h n,fV h v (.c (.d d))/\eX n h v/\iq h v=true):lH:=fun g w hg=>by obtain⟨rfl,rfl⟩:=hv g w hg;exact⟨d,h0,hd⟩
section
variable{P:Program}{sz:Nat}{z:List Value}{ao:List (List D)}{i j:Int}
end
section
variable{H:bF}{nx:Nat}
end
section
variable{P:Program}{z:List Value}{ao:List (List D)}{x:List D}{i:Int}
end
open Go.ChangeShapes Go.WideShapes Go.ChangeAt Go.RowKit
def wq:(t:Ty)->El t->Prop
 |.i k,x=>k.min<=x/\x<=k.max
 |.s,s=>s.size<=maxLen
 |.f k,b=>(Lit.float k b).wf=true
 |.sl t,s=>s.l.length<=maxLen/\∀x∈s.l,wq t x
 |.pr a c,v=>wq a v.1/\wq c v.2
 |.st t,v=>wq t v
 |.ar _ t,v=>∀x∈v.1,wq t x
 |_,_=>True
def Ix(P:Program)(ok:TypeId->Bool)(sz:TypeId->Nat):List Field->Nat->Nat->Bool
 |[],off,PM=>kR off PM
 |f::r,off,PM=>ok f.type&&kR f.offset off&&kR (P.cellsOf f.type) (sz f.type)&&Ix P ok sz r (off+sz f.type) PM
def G3(P:Program):Nat->TypeId->Bool
 |0,_=>false
 |n+1,t=>match P.underlying t with|some (.int _)|some .bool|some .string|some (.float _)=>true|some (.slice e)=>G3 P n e&&Nat.blt 0 (bz (eM P n e))&&kR (P.cellsOf e) (bz (eM P n e))|some (.struct fs)=>Ix P (G3 P n) (fun t=>bz (eM P n t)) fs.toList 0 (P.cellsOf t)|some (.array m e)=>G3 P n e&&kR (P.cellsOf e) (bz (eM P n e))&&kR (P.cellsOf t) (m*bz (eM P n e))|_=>false
theorem Kx{P:Program}:∀(n:Nat)(t:TypeId),G3 P n t=true->qQ P t (aR (eM P n t)) (wq (eM P n t)):=by
 intro n;induction n with
 |zero=>intro t h;simp[G3]at h
 |succ n ih=>
  intro t h;simp only[G3]at h;split at h
  .rename_i k hu;rw[show eM P (n+1) t=.i k by simp only[eM,hu]];exact Ir hu
  .rename_i hu;rw[show eM P (n+1) t=.b by simp only[eM,hu]];exact Fy hu
  .rename_i hu;rw[show eM P (n+1) t=.s by simp only[eM,hu]];exact BG hu
  .rename_i k hu;rw[show eM P (n+1) t=.f k by simp only[eM,hu]];exact Dg hu
  .rename_i e hu;simp only[ai]at h;obtain⟨⟨h1,h2⟩,h3⟩:=h;rw[show eM P (n+1) t=.sl (eM P n e)by simp only[eM,hu]];exact Df (enc:=aR (eM P n e)) hu (dz h3) (by simpa[Nat.blt_eq]using h2) (fun a=>bJ _ a) (ih e h1)
  .rename_i fs hu;rw[show eM P (n+1) t=.st (eM.So (fs.toList.map fun f=>eM P n f.type))by simp only[eM,hu]];intro H en w fuel cs x hx;have hl:=ET hu hx
   have key:∀(suf:List Field)(i off:Nat),(∀j,fs[i+j]?=suf[j]?)->Ix P (G3 P n) (fun t=>bz (eM P n t)) suf off (P.cellsOf t)=true->
     ∃v:El (eM.So (suf.map fun f=>eM P n f.type)),wq _ v/\kP w (cs.drop off) (aR _ v):=by
    intro suf;induction suf with
    |nil=>intro i off _ hok;have e:=dz hok;exact⟨(),trivial,kP.nil (by rw[gQ,hl,e];omega)⟩
    |cons f r ihr=>
     intro i off hi hok;simp only[Ix,ai]at hok;obtain⟨⟨⟨k1,k2⟩,k3⟩,k4⟩:=hok;have k2:=dz k2;have k3:=dz k3;have hf:fs[i]?=some f:=by have:=hi 0;simpa using this
     obtain⟨a,f1,c1⟩:=Dh hu hx hf (ih f.type k1);rw[k2,k3]at c1;obtain⟨v,f2,c2⟩:=ihr (i+1) (off+bz (eM P n f.type)) (fun j=>by have:=hi (j+1);rw[show i+1+j=i+(j+1)by omega,this];rfl) k4
     have hle:off+bz (eM P n f.type)<=cs.length:=by
      have hmono:∀(suf:List Field)(off:Nat),Ix P (G3 P n) (fun t=>bz (eM P n t)) suf off (P.cellsOf t)=true->off<=P.cellsOf t:=by intro suf;induction suf with|nil=>intro off h;exact Nat.le_of_eq (dz h)|cons g r ih=>intro off h;simp only[Ix,ai]at h;have:=ih _ h.2;omega
      rw[hl];exact hmono r _ k4
     have hfield:=kP.field c1 rfl c2 hle;cases r with|nil=>have e:aR (eM.So (([]:List Field).map fun f=>eM P n f.type)) v=[]:=rfl;rw[e,bC]at hfield;exact⟨a,f1,hfield⟩|cons g r=>exact⟨(a,v),⟨f1,f2⟩,hfield⟩
   obtain⟨v,f1,c1⟩:=key fs.toList 0 0 (fun j=>by simp) h;exact⟨v,f1,by rw[cP]at c1;exact c1⟩
  .rename_i m e hu;simp only[ai]at h;obtain⟨⟨h1,h2⟩,h3⟩:=h;have h2:=dz h2;have h3:=dz h3;rw[show eM P (n+1) t=.ar m (eM P n e)by simp only[eM,hu]];intro H en w fuel cs x hx;have hl:=JB hu hx
   have key:∀j,j<=m->∃l:List (El (eM P n e)),l.length=j/\(∀y∈l,wq _ y)/\kP w (cs.drop ((m-j)*bz (eM P n e))) (l.flatMap (aR (eM P n e))):=by
    intro j;induction j with
    |zero=>intro _;exact⟨[],rfl,fun y hy=>by simp at hy,kP.nil (by rw[gQ,hl,h3];simp)⟩
    |succ j ihj=>
     intro hj;obtain⟨l,l1,l2,l3⟩:=ihj (by omega);obtain⟨a,f1,c1⟩:=Fx hu hx (i:=m-(j+1)) (by omega) (ih e h1);rw[h2]at c1;have hs:(m-(j+1))*bz (eM P n e)+bz (eM P n e)=(m-j)*bz (eM P n e):=by rw[show m-j=(m-(j+1))+1 by omega,Nat.succ_mul]
     refine⟨a::l,by simp[l1],fun y hy=>?_,?_⟩
     .rcases aM.1 hy with rfl|hy
      .exact f1
      .exact l2 y hy
     .rw [List.flatMap_cons];refine kP.field c1 hs l3 ?_;rw[hl,h3];exact Nat.mul_le_mul_right _ (by omega)
   obtain⟨l,l1,l2,l3⟩:=key m (au _);rw[Nat.sub_self,Nat.zero_mul,cP]at l3;exact⟨⟨l,l1⟩,l2,l3⟩
  .simp at h
def EB:List Ty->List V->Prop
 |[],l=>l=[]
 |a::r,l=>∃(v:El a)(m:List V),l=.x a v::m/\wq a v/\EB r m
theorem Hv{a:Ty}(v:El a):uf a (.x a v)=some v:=by simp[uf,gE]
theorem EB.iN:∀{cs:List Ty}{l:List V},EB cs l->∃p,vP cs l=some p/\oS cs p=l:=by
 have key:∀(r:List Ty)(a:Ty)(l:List V),EB (a::r) l->∃p,EN a r l=some p:=by intro r;induction r with|nil=>rintro a l ⟨v,m,rfl,_,hm⟩;have hm:m=[]:=hm;subst hm;exact⟨v,Hv v⟩|cons c r ih=>rintro a l ⟨v,m,rfl,_,hm⟩;obtain⟨p,hp⟩:=ih c m hm;refine⟨(v,p),?_⟩;show HI (uf a (.x a v)) (EN c r m)=_;rw[Hv,hp];rfl
 intro cs l h;cases cs with|nil=>have h:l=[]:=h;subst h;exact⟨(),rfl,rfl⟩|cons a r=>obtain⟨p,hp⟩:=key r a l h;exact⟨p,hp,pS (a::r) l p hp⟩
theorem Q7{P:Program}{n:Nat}{t:TypeId}(ho:G3 P n t=true)(h1:(nc (eM P n t)||kR (bz (eM P n t)) 1)=true){w:World}{r:Reach}{b:Nat}{v:Value}(hv:Value.okWide P w r b t v)
  {H:Type} {en:TypeId×Value->H} {x:DataW H} {ps:List MemPlace} (h:DataW.Trod en P w 0 (fun _=>true) true t v x ps):∃a:El (eM P n t),wq _ a/\RA (S0 w) w (bif nc (eM P n t)then .agg (aR _ a)else .d ((aR _ a).headD default)) v []:=by
 have hop:=Kx n t ho;cases hag:nc (eM P n t)with
 |true=>
  simp only[cond_true];cases n with
  |zero=>simp[G3]at ho
  |succ n=>
   simp only[G3]at ho;split at ho
   .rename_i hu;simp[eM,hu,nc]at hag
   .rename_i hu;simp[eM,hu,nc]at hag
   .rename_i hu;simp[eM,hu,nc]at hag
   .rename_i hu;simp[eM,hu,nc]at hag
   .rename_i hu;simp[eM,hu,nc]at hag
   .rename_i fs hu;exact OO hop hv hu h
   .rename_i m e hu;exact ON hop hv hu h
   .simp at ho
 |false=>
  simp only[cond_false];have hsz:bz (eM P n t)=1:=by rw[hag,Bool.false_or]at h1;exact dz h1
  have he:(fun a=>[(aR (eM P n t) a).headD default])=aR (eM P n t):=by
   funext a;have hl:=bJ (eM P n t) a;rw[hsz]at hl
   match hh:aR (eM P n t) a,hl with|[d],_=>rfl
  have hs:match P.underlying t with|some (.struct _)|some (.array _ _)|some (.interface _)|some (.func ..)|some (.chan ..)|some .unsafePointer|some (.map _ _)=>False|_=>True:=by
   cases n with
   |zero=>simp[G3]at ho
   |succ n=>
    simp only[G3]at ho;split at ho
    .rename_i hu;rw[hu];trivial
    .rename_i hu;rw[hu];trivial
    .rename_i hu;rw[hu];trivial
    .rename_i hu;rw[hu];trivial
    .rename_i hu;rw[hu];trivial
    .rename_i fs hu;simp[eM,hu,nc]at hag
    .rename_i m e hu;simp[eM,hu,nc]at hag
    .simp at ho
  exact Sr (d:=fun a=>(aR (eM P n t) a).headD default) (fit:=wq (eM P n t)) (by rw[he];exact hop) hv hs h
def SD(P:Program)(ts:List TypeId):Bool:=ts.all fun t=>G3 P Je t&&(nc (eM P Je t)||kR (bz (eM P Je t)) 1)
theorem OM{P:Program}{W:World}{aQ:Nat}{H:Type}{en:TypeId×Value->H}:∀(ts:List TypeId)(vs:List Value)(ds:List (DataW H))(ps:List MemPlace),DataW.TrodAll en P W 0 (fun _=>true) true ts vs ds ps->SD P ts=true->
  (∀(j:Nat)t v,ts[j]?=some t->vs[j]?=some v->Value.okWide P W .any aQ t v)->∃l,EB (ts.map (eM P Je)) l/\M3 (S0 W) W (gS (ts.map fun t=>(false,Sh.x (eM P Je t))) l) vs []:=by
 intro ts;induction ts with
 |nil=>intro vs ds ps h _ _;cases vs with|nil=>exact⟨[],rfl,rfl⟩|cons=>cases ds<;>exact h.elim
 |cons t ts ih=>
  intro vs ds ps h hok hv;cases vs with
  |nil=>cases ds<;>exact h.elim
  |cons v vs=>cases ds with|nil=>exact h.elim|cons d ds=>obtain⟨p,q,h1,h2,rfl⟩:=h;simp only[SD,iI,ai]at hok;obtain⟨a,f1,r1⟩:=Q7 hok.1.1 (by simpa using hok.1.2) (hv 0 t v rfl rfl) h1;obtain⟨l,f2,r2⟩:=ih vs ds q h2 (by simpa[SD]using hok.2) fun j t' v' ht hv'=>hv (j+1) t' v' (by simpa using ht) (by simpa using hv');exact⟨.x _ a::l,⟨a,l,rfl,f1,f2⟩,[],[],rfl,r1,r2⟩
theorem QQ:∀(tys:List Ty),gU ((tys.map fun t=>(false,Sh.x t)).map (·.2))=tys:=by intro tys;induction tys with|nil=>rfl|cons a r ih=>show a::gU ((r.map fun t=>(false,Sh.x t)).map (·.2))=a::r;rw[ih]
theorem Jj{P:Program}{f:FuncId}{fn:Func}{s:ChangeSpec}{lZ gD handsOn again:Bool}{tb:TypeId}{H:Type}{en:TypeId×Value->H}(hl:laidOutB P=true)(hfn:P.funcs[f]?=some fn)(hbody:fn.body.isSome=true)(hname:(fn.name== "runtime.NumGoroutine")=false)
  (hts:fn.params.toList.all (fun t=>P.readableRec t&&decide (t<P.types.size))=true) (hrt:fn.resultTypes= #[tb]) (htb:P.underlying tb=some .bool) (hvars:s.vars=[])
  {W:World} {args:Array Value} {ds gs:List (DataW H)} {eW:List MemPlace} (hW:DataW.Whole en P fn.params.toList s.vars lZ W args.toList ds gs eW)
  (hspec:(s.fn H (ds++gs)).results=[.lit (.bool true)]/\(s.fn H (ds++gs)).args=ds/\(s.fn H (ds++gs)).vars=[])
  (hgl:uM (S0 W) W) {aQ:Nat} (hval:∀(j:Nat)t v,fn.params[j]?=some t->args[j]?=some v->Value.okWide P W .any aQ t v)
  {tys:List Ty} (hty:fn.params.toList.map (eM P Je)=tys) (hok:SD P fn.params.toList=true) {ro:Bool} {j8:List Bool} {g:qu (gU ((tys.map fun t=>(false,Sh.x t)).map (·.2)))->Option (vC [([.x .b],[])])}
  (hsp:cV P f ⟨tys.map fun t=>(false,Sh.x t),[([.x .b],[])],ro,j8,g⟩) (law:∀p,EB (gU ((tys.map fun t=>(false,Sh.x t)).map (·.2))) (oS _ p)->g p=some true):
  Calls P f args W fun e W'=>∃v,e=.returned v/\s.post en P fn lZ gD handsOn again W args v W':=by
 have hW':=hW;obtain⟨p,q,hA0,hV,hpq,hfz,hnd⟩:=hW;have hA:DataW.TrodAll en P W 0 (fun _=>true) true fn.params.toList args.toList ds p:=hA0;obtain⟨l,h1,h2⟩:=OM (aQ:=aQ) _ _ _ _ hA hok fun j t v ht hv=>hval j t v (by simpa using ht) (by simpa using hv);have h3:fn.params.toList.map (fun t=>(false,Sh.x (eM P Je t)))=tys.map fun t=>(false,Sh.x t):=by rw[<-hty,lF];rfl
 rw[h3]at h2;rw[hty,<-QQ tys]at h1;obtain⟨pl,hp,hu⟩:=h1.iN;have hg:=hsp.2 pl true (law pl (by rw[hu];exact h1));rw[<-hu]at h2;exact Ea hl hfn hbody hname hts hrt htb hvars hW' hspec hgl ⟨_,h2,hg⟩
end Go.Ev
