/- Code: what is evaluated is what the abstract machine does. Conditions: as stated. -/
import Derived.Test.YthcplpfiidlinaaDoorKh
import Derived.Test.YthcplpfiidlinaaDoorEvY
open Bool renaming and_eq_true->ai,and_eq_true_iff->c_,false_eq_true->aR
open List renaming all_cons->ij,all_eq_true->bd,append_nil->bO,cons_append->aT,drop_zero->cq,headD_cons->bU,length_append->aF,length_drop->gB,map_cons->aA,map_map->kZ,map_nil->aV,mem_append->ao,mem_append_left->aC,mem_append_right->aG,mem_cons->aK,mem_cons_of_mem->aB,nil_append->bp,nil_sublist->jI
open List.Sublist renaming refl->bW
open Nat renaming beq->ku,ble->iL,eq_of_beq_eq_true->di,le_of_ble_eq_true->iK,le_refl->au,le_trans->fy
open Option.some renaming inj->aa
open Prod.mk renaming inj->ad
namespace Go.Ev
theorem A1(j:J)(s0 s:S2):wq j s0 s=z0 j s0 (yX j.vs s):=rfl
theorem A0{j:J}{s1':St}{s0 s':S2}{l:List V}(hr:R2 s1' s')(hc:wq j s0 s'=some l):∀i∈s'.wo,s0.next<=i\/i∈j.kl:=by
 obtain⟨s1c,_,_,wc,hwc,_⟩:=zV j.vs s1' s' hr;rw[A1]at hc;unfold z0 at hc;split at hc
 case h_2=>simp at hc
 split at hc
 case h_2=>simp at hc
 split at hc
 case h_2=>simp at hc
 obtain⟨hchk,_⟩:=aN hc;simp only[ai,bd]at hchk;intro i hi;have:=hchk.1 i (by rw[hwc];simp[hi]);simpa[Nat.ble_eq]using this
theorem rV{j:J}{ds w:List Nat}{s1 s1':St}{s0 s' s'':S2}{l:List V}(hr0:R2 s1 s0)(hr:R2 s1' s')(hf:wd ds w s1 s1' s0 s')(hw:∀i∈w,s0.next<=i\/i∈j.kl)(hc:wq j s0 s'=some l)(hs:tF j ds s0 l=some s''):
  ∃s1'' w',Sub s1' s1''/\R2 s1'' s''/\s''.wo=w'++s0.wo/\wd ds w' s1 s1'' s0 s''/\∀i∈w',s0.next<=i\/i∈j.kl:=by
 obtain⟨s1c,hsub,hrc,wc,hwc,hfc⟩:=zV j.vs s1' s' hr;have hc2:=hc;rw[A1]at hc2
 have hwcc:∀i∈wc,s0.next<=i\/i∈j.kl:=by
  unfold z0 at hc2;split at hc2
  case h_2=>simp at hc2
  split at hc2
  case h_2=>simp at hc2
  split at hc2
  case h_2=>simp at hc2
  obtain⟨hchk,_⟩:=aN hc2;simp only[ai,bd]at hchk;intro i hi;have:=hchk.1 i (by rw[hwc];simp[hi]);simpa[Nat.ble_eq]using this
 obtain⟨s1'',w',h1,h2,h3,h4,h5⟩:=Oi (w:=wc++w) hr0 hrc (hf.trans (hfc.mono (fun t ht=>by simp at ht) fun i hi=>hi)) (fun i hi=>by
  rcases ao.1 hi with hi|hi
  .exact hwcc i hi
  .exact hw i hi) (by rw[<-A1];exact hc) hs
 exact⟨s1'',w',hsub.trans h1,h2,h3,h4,h5⟩
theorem FH{β:Type}{s0 s':S2}{o:rj}{ds:List Nat}{k:rj->S2->Option β}{z:β}:∀(e:Ex)(x:C_ e),G2 s0 o s' e=some x->Iy ds s0 k e x=some z->∃j∈e,∃l s'',wq j.2 s0 s'=some l/\tF j.2 ds s0 l=some s''/\k o s''=some z:=by
 have fin:∀(j:J)(p:pW (ph j))(l:List V),u4 (ph j) l=some p->(match tF j ds s0 (n_ (ph j) p)with|some s=>k o s|none=>none)=some z->∃s'',tF j ds s0 l=some s''/\k o s''=some z:=by
  intro j p l h1 h2;rw[po _ _ _ h1]at h2;split at h2
  .rename_i s'' hs;exact⟨s'',hs,h2⟩
  .simp at h2
 have key:∀(r:Ex)(o1:rj)(j:J)(x:C_.Ky j r),Ju s0 o s' o1 j r=some x->Np ds s0 k o1 j r x=some z->∃j'∈(o1,j)::r,∃l s'',wq j'.2 s0 s'=some l/\tF j'.2 ds s0 l=some s''/\k o s''=some z:=by
  intro r;induction r with
  |nil=>
   intro o1 j x hx hz;simp only[Ju]at hx;obtain⟨ho,hx2⟩:=aN hx;clear hx;obtain rfl:o=o1:=by simpa using ho
   split at hx2
   .rename_i l hl;obtain⟨s'',h1,h2⟩:=fin j x l hx2 hz;exact⟨(o,j),by simp,l,s'',hl,h1,h2⟩
   .simp at hx2
  |cons q r ih=>
   obtain⟨o2,j2⟩:=q;intro o1 j x hx hz;simp only[Ju]at hx;cases hd:decide (o=o1)with
   |true=>
    rw[hd,cond_true]at hx;obtain rfl:o=o1:=by simpa using hd
    split at hx
    .rename_i l hl;split at hx
     .rename_i p hp;obtain rfl:=aa hx;obtain⟨s'',h1,h2⟩:=fin j p l hp hz;exact⟨(o,j),by simp,l,s'',hl,h1,h2⟩
     .simp at hx
    .simp at hx
   |false=>
    rw[hd,cond_false]at hx;split at hx
    .rename_i y hy;obtain rfl:=aa hx;obtain⟨j',h1,h2⟩:=ih o2 j2 y hy hz;exact⟨j',aB _ h1,h2⟩
    .simp at hx
 intro e x hx hz;cases e with|nil=>exact nomatch x|cons q r=>exact key r q.1 q.2 x hx hz
def OT{β:Type}(ds:List Nat)(s1:St)(s:S2)(k:rj->S2->Option β)(z:β)(o:rj)(s1':St):Prop:=wk (fun s1''=>∃s',R2 s1'' s'/\Fr ds s1 s1'' s s'/\k o s'=some z) s1'
theorem Hg{P:Program}{tb:C9}(htb:o8 P tb)(hg:lu):∀(c:C2){β:Type}(s1:St)(s:S2)(k:rj->S2->Option β)(z:β),wm tb c s k=some z->R2 s1 s->W P (mB c) s1 (OT (lW c) s1 s k z):=by
 intro c;induction c with
 |skip=>intro β s1 s k z hz hr;exact wk.of (wk.of ⟨s,hr,Fr.refl,hz⟩)
 |exit id=>intro β s1 s k z hz hr;exact wk.of (wk.of ⟨s,hr,Fr.refl,hz⟩)
 |ret=>intro β s1 s k z hz hr;exact wk.of (wk.of ⟨s,hr,Fr.refl,hz⟩)
 |fU=>intro β s1 s k z hz hr;simp[wm]at hz
 |Le ops dr jn=>
  intro β s1 s k z hz hr;cases jn with
  |none=>refine W.mono (fun o s1' h=>?_) (BM (jn:=none) htb hg (show FM tb ops dr s (fun s=>k .normal s)=some z by simpa only[wm]using hz) hr);obtain⟨rfl,s',h1,h2,h3⟩:=h;exact wk.of ⟨s',h1,h2,h3⟩
  |some j=>
   simp only[wm]at hz;obtain⟨p,hp,hz⟩:=qX hz;refine W.mono (fun o s1' h=>?_) (BM (jn:=some j) htb hg hp (hr.wo []));obtain⟨rfl,s',h1,⟨w,h2,h3⟩,h4⟩:=h;split at h4
   .rename_i l hl;rw[po _ _ _ h4]at hz;split at hz
    .rename_i s'' hs;have hf:wd (ops.filterMap (·.o.dst)) w s1 s1' s s':=⟨h3.le,h3.eC,h3.gl,h3.ob,h3.dm⟩
     obtain⟨s1'',w',g1,g2,g3,g4,_⟩:=rV hr h1 hf (fun i hi=>A0 h1 hl i (by rw[h2];simp[hi])) hl hs;exact⟨s1'',g1,s'',g2,⟨w',g3,g4⟩,hz⟩
    .simp at hz
   .simp at h4
 |seq a b e iha ihb=>
  intro β s1 s k z hz hr;have go:∀(o:rj)(s1' s1'':St)(s':S2),Sub s1' s1''->R2 s1'' s'->Fr (lW a) s1 s1'' s s'->(match o with|.normal=>wm tb b s' k|o=>k o s')=some z->s_ (fun s'=>W P (mB b) s' (OT (lW (.seq a b e)) s1 s k z)) (OT (lW (.seq a b e)) s1 s k z) o s1':=by intro o s1' s1'' s' hsub h1 h2 h3;have hda:∀t∈lW a,t∈lW (.seq a b e):=fun t ht=>aC _ ht;have hdb:∀t∈lW b,t∈lW (.seq a b e):=fun t ht=>aG _ ht;cases o with|normal=>refine W.sub hsub (W.mono (fun o s2 h=>?_) (ihb s1'' s' k z h3 h1));exact wk.mono h fun _⟨s3,g1,g2,g3⟩=>⟨s3,g1,(h2.mono hda).trans (g2.mono hdb),g3⟩|exit id=>exact⟨s1'',hsub,s',h1,h2.mono hda,h3⟩|ret=>exact⟨s1'',hsub,s',h1,h2.mono hda,h3⟩
  cases e with
  |nil=>simp only[wm]at hz;refine Mv (W.mono (fun o s1' h=>?_) (iha s1 s _ z hz hr));obtain⟨s1'',hsub,s',h1,h2,h3⟩:=h;exact go o s1' s1'' s' hsub h1 h2 h3
  |cons q r=>
   simp only[wm]at hz;obtain⟨x,hx,hz⟩:=qX hz;refine Mv (W.mono (fun o s1' h=>?_) (iha s1 {s with wo:=[]} _ x hx (hr.wo [])));obtain⟨s1'',hsub,s',h1,⟨w,h2,h3⟩,h4⟩:=h;obtain⟨j,_,l,s'',g1,g2,g3⟩:=FH (q::r) x h4 hz;have hf:wd (lW a) w s1 s1'' s s':=⟨h3.le,h3.eC,h3.gl,h3.ob,h3.dm⟩
   obtain⟨s2,w',k1,k2,k3,k4,_⟩:=rV hr h1 hf (fun i hi=>A0 h1 g1 i (by rw[h2];simp[hi])) g1 g2;exact go o s1' s2 s'' (hsub.trans k1) k2 ⟨w',k3,k4⟩ g3
 |cond c a b iha ihb=>
  intro β s1 s k z hz hr;have hda:∀t∈lW a,t∈lW (.cond c a b):=fun t ht=>aC _ ht;have hdb:∀t∈lW b,t∈lW (.cond c a b):=fun t ht=>aG _ ht
  have go:∀t,km s1.dm c=some (tB t)->(bif t then wm tb a s k else wm tb b s k)=some z->W P (mB (.cond c a b)) s1 (OT (lW (.cond c a b)) s1 s k z):=by
   intro t hc hz;refine M2 (t:=t) hc (fun ht=>?_) fun ht=>?_
   .subst ht;exact W.mono (fun o s2 h=>wk.mono h fun _⟨s3,g1,g2,g3⟩=>⟨s3,g1,g2.mono hda,g3⟩) (iha s1 s k z hz hr)
   .subst ht;exact W.mono (fun o s2 h=>wk.mono h fun _⟨s3,g1,g2,g3⟩=>⟨s3,g1,g2.mono hdb,g3⟩) (ihb s1 s k z hz hr)
  simp only[wm]at hz;split at hz
  .rename_i t ht;obtain⟨x,h1,h2,_⟩:=nk hg hr ht;rw[uY h2]at h1;exact go t h1 hz
  .rename_i t ht;obtain⟨x,h1,h2,_⟩:=nk hg hr ht;rw[Fc h2]at h1;exact go t h1 hz
  .simp at hz
 |block id a ih=>
  intro β s1 s k z hz hr;simp only[wm]at hz;refine KN (W.mono (fun o s1' h=>?_) (ih s1 s _ z hz hr));cases o with
  |normal=>exact h
  |ret=>exact h
  |exit i=>
   simp only[uP];obtain⟨s1'',hsub,s',h1,h2,h3⟩:=h;by_cases e:i=id
   .subst e;rw[if_pos rfl];simp only[beq_self_eq_true,cond_true]at h3;exact⟨s1'',hsub,s',h1,h2,h3⟩
   .rw [if_neg e];have e':(i==id)=false:=by simpa using e
    simp only[e',cond_false]at h3;exact⟨s1'',hsub,s',h1,h2,h3⟩
 |loop j e a ih=>
  intro β s1 s k z hz hr;simp only[wm]at hz;obtain⟨hkl,hz⟩:=aN hz;have hkl:∀x∈e,∀i∈j.kl,i∈x.2.kl:=fun x hx i hi=>by have:=bd.1 (bd.1 hkl x hx) i hi;simpa using this
  split at hz
  case h_2=>simp at hz
  rename_i l hl;split at hz
  case h_2=>simp at hz
  rename_i p0 hp0;obtain⟨x,hx,hz⟩:=qX hz;obtain⟨n,hn⟩:=og.1 hx;clear hx
  generalize hf:(fun(p:pW (ph j))=>(match tF j (lW a) s (n_ (ph j) p)with
     |some s1=>wm tb a {s1 with wo:=[]} fun o s'=>(match o with
      |.normal=>(match wq j s s' with|some l=>(match u4 (ph j) l with|some q=>some (Sum.inl q)|none=>none)|none=>none)
      |o=>(match G2 s o s' e with|some x=>some (Sum.inr x)|none=>none))
     |none=>none:Option (pW (ph j)⊕C_ e)))=f at hn
  have hrs:∀n p,je f n p=some x->∃s2,tF j (lW a) s (n_ (ph j) p)=some s2:=by
   intro n p h;cases n with
   |zero=>simp[je]at h
   |succ n=>
    cases hq:tF j (lW a) s (n_ (ph j) p)with
    |some s2=>exact⟨s2,rfl⟩
    |none=>
     have:f p=none:=by rw[<-hf];simp only[hq]
     simp[je,this]at h
  refine⟨fun n t=>∃p s2 w,je f n p=some x/\tF j (lW a) s (n_ (ph j) p)=some s2/\R2 t s2/\wd (lW a) w s1 t s s2/\∀i∈w,s.next<=i\/i∈j.kl,n,?_,?_⟩
  .obtain ⟨s2,hs2⟩:=hrs n p0 hn;have hs3:=hs2;rw[po _ _ _ hp0]at hs3;obtain⟨s1'',w',g1,g2,_,g4,g5⟩:=rV (w:=[]) hr (hr.wo []) ⟨au _,iX.refl _ _,rfl,fun _ _ _=>⟨rfl,fun _ _ _ h=>h⟩,fun _ _ _ h _=>h⟩ (fun i hi=>by simp at hi) hl hs3;exact⟨s1'',g1,p0,s2,w',hn,hs2,g2,g4,g5⟩
  .rintro n t ⟨p,s2,w,h1,h2,h3,h4,h5⟩;cases n with
   |zero=>simp[je]at h1
   |succ n=>
    have hfp:f p=wm tb a {s2 with wo:=[]} fun o s'=>(match o with
      |.normal=>(match wq j s s' with|some l=>(match u4 (ph j) l with|some q=>some (Sum.inl q)|none=>none)|none=>none)
      |o=>(match G2 s o s' e with|some x=>some (Sum.inr x)|none=>none)):=by
     rw[<-hf];simp only[h2]
    have hend:∀(o:rj)(t' t'':St)(s':S2)(y:C_ e),o≠.normal->Sub t' t''->R2 t'' s'->Fr (lW a) t t'' {s2 with wo:=[]} s'->G2 s o s' e=some y->y=x->OT (lW a) s1 s k z o t':=by
     rintro o t' t'' s' y _ hsub r1 ⟨wb,e1,e2⟩ hy rfl;obtain⟨j',hj',l',s'',g1,g2,g3⟩:=FH e y hy hz;have hfw:wd (lW a) (wb++w) s1 t'' s s':=h4.trans ⟨e2.le,e2.eC,e2.gl,e2.ob,e2.dm⟩
     obtain⟨s3,w',k1,k2,k3,k4,_⟩:=rV hr r1 hfw (fun i hi=>by
      rcases ao.1 hi with hi|hi
      .exact A0 r1 g1 i (by rw[e1];simp[hi])
      .exact (h5 i hi).imp id (hkl j' hj' i)) g1 g2
     exact⟨s3,hsub.trans k1,s'',k2,⟨w',k3,k4⟩,g3⟩
    simp only[je]at h1;cases hr1:f p with
    |none=>simp[hr1]at h1
    |some r=>
     rw[hr1]at h1;rw[hfp]at hr1;refine W.mono (fun o t' hq=>?_) (ih t _ _ r hr1 (h3.wo []));obtain⟨t'',hsub,s',r1,r2,r3⟩:=hq;cases o with
     |normal=>
      simp only at r3;split at r3
      .rename_i l2 hl2;split at r3
       .rename_i q hq;obtain rfl:=aa r3;simp only at h1;obtain⟨wb,e1,e2⟩:=r2;obtain⟨s3,hs3⟩:=hrs n q h1;have hs4:=hs3;rw[po _ _ _ hq]at hs4;have hfw:wd (lW a) (wb++w) s1 t'' s s':=h4.trans ⟨e2.le,e2.eC,e2.gl,e2.ob,e2.dm⟩
        obtain⟨t3,w',k1,k2,_,k4,k5⟩:=rV hr r1 hfw (fun i hi=>by
         rcases ao.1 hi with hi|hi
         .exact A0 r1 hl2 i (by rw[e1];simp[hi])
         .exact h5 i hi) hl2 hs4
        exact⟨n,Nat.lt_succ_self n,t3,hsub.trans k1,q,s3,w',h1,hs3,k2,k4,k5⟩
       .simp at r3
      .simp at r3
     |exit id=>
      simp only at r3;split at r3
      .rename_i y hy;obtain rfl:=aa r3;exact hend (.exit id) t' t'' s' y (by simp) hsub r1 r2 hy (aa h1)
      .simp at r3
     |ret=>
      simp only at r3;split at r3
      .rename_i y hy;obtain rfl:=aa r3;exact hend .ret t' t'' s' y (by simp) hsub r1 r2 hy (aa h1)
      .simp at r3
section
variable{h:H2}{n:Nat}{h1:bE}
theorem BW{id sz lo len:Nat}{am:List (List D)}(ho:az h1 id=some (.aM sz am)\/az h1 id=some (.oV sz am))(hl:lo+len<=am.length)(szo:Nat):
  ∃t bv rd,(∀k,ez h1 k (.eZ szo id lo len)=some (t,bv,rd))/\rn t=.sl szo ((am.drop lo).take len)/\bv.Sublist [id]/\(az h1 id=some (.aM sz am)->t=.sl szo ((am.drop lo).take len)):=by
 by_cases ha:az h1 id=some (.aM sz am)
 .exact ⟨.sl szo ((am.drop lo).take len),[id],[id],fun k=>by cases k<;>simp only[ez,ha,if_pos hl],rfl,bW _,fun _=>rfl⟩
 .have hi:=ho.resolve_left ha;exact⟨.d (.sl szo ((am.drop lo).take len)),[],[id],fun k=>by cases k<;>simp only[ez,hi,if_pos hl],rfl,jI _,fun e=>absurd e ha⟩
theorem Lm(hr:HR n h1 h){id ver:Nat}{t:Ty}{s:Sl (El t)}(ho:fO h id=some (.ar t s ver)\/fO h id=some (.im t s ver)):
  ∃q bv rd,(∀k,ez h1 k (lC (bR t) (aS t) id s)=some (q,bv,rd))/\rn q=u5 (bR t) (aS t) s/\bv.Sublist [id]:=by
 cases s with
 |nil=>exact⟨_,_,_,fun k=>uh k _,rfl,jI _⟩
 |mk l=>
  have hb:az h1 id=some (.aM (bR t) (l.map (aS t)))\/az h1 id=some (.oV (bR t) (l.map (aS t))):=by
   rcases ho with ho|ho
   .exact .inl ((hr.ob id _ ho).2.1.2.2 l rfl)
   .exact .inr ((hr.ob id _ ho).2.1.2.2 l rfl)
  obtain⟨q,bv,rd,g1,g2,g3,_⟩:=BW (lo:=0) (len:=(l.map (aS t)).length) hb (by omega) (bR t);rw[sD]at g2;exact⟨q,bv,rd,g1,g2,g3⟩
theorem JH{t:Ty}(s:Sl (Sl (El t))):rn (wZ t s)=u5 1 (aS (.sl t)) (s:Sl (El (.sl t))):=by cases s with|nil=>rfl|mk l=>simp only[wZ,rn,u5,kZ];congr 1;exact List.map_congr_left fun r _=>by cases r<;>rfl
theorem Ln(hr:HR n h1 h){id:Nat}{t:Ty}{s:Sl (Sl (El t))}(ho:fO h id=some (.rw t s none)):
  ∃bv rd,(∀k,ez h1 k (lC 1 (aS (.sl t)) id (s:Sl (El (.sl t))))=some (wZ t s,bv,rd))/\bv.Sublist [id]:=by
 cases s with|nil=>exact⟨_,_,fun k=>uh k _,jI _⟩|mk l=>exact⟨_,_,fun k=>QB (k:=k) ((hr.ob id _ ho).2.1.2.2 l rfl),bW _⟩
theorem Fp(hr:HR n h1 h){id ver lo:Nat}{t:Ty}{r:Sl (El t)}(hk:eS n h (.sb id ver lo t r))(ha:A7 h id ver=true):
  ∃q bv rd,(∀k,ez h1 k (w_ id lo t r)=some (q,bv,rd))/\rn q=u5 (bR t) (aS t) r/\bv.Sublist [id]/\((∃u s v,fO h id=some (.ar u s v))->q=OK (bR t) (aS t) r):=by
 obtain⟨u,s,ho⟩:=kX ha;obtain⟨_,hc⟩:=hk.2 u s ver ho;obtain⟨hz,hc⟩:=hc rfl;cases r with
 |nil=>exact⟨_,_,_,fun k=>uh k _,rfl,jI _,fun _=>rfl⟩
 |mk m=>
  cases s with
  |nil=>exact hc.elim
  |mk l=>
   obtain⟨hl,he⟩:=hc
   have hb:az h1 id=some (.aM (bR u) (l.map (aS u)))\/az h1 id=some (.oV (bR u) (l.map (aS u))):=by
    rcases ho with ho|ho
    .exact .inl ((hr.ob id _ ho).2.1.2.2 l rfl)
    .exact .inr ((hr.ob id _ ho).2.1.2.2 l rfl)
   obtain⟨q,bv,rd,g1,g2,g3,g4⟩:=BW (lo:=lo) (len:=(m.map (aS t)).length) hb (by simpa using hl) (bR t);rw[show(m.map (aS t)).length=m.length by simp,he]at g2 g4;refine⟨q,bv,rd,fun k=>?_,g2,g3,?_⟩
   .have:=g1 k;simpa[w_]using this
   .rintro ⟨u',s',v',ho'⟩;rcases ho with ho|ho
    .exact g4 ((hr.ob id _ ho).2.1.2.2 l rfl)
    .rw [ho']at ho;simp at ho
theorem GW(ds:List D):(ds.map T.d).map rn=ds:=by induction ds with|nil=>rfl|cons d ds ih=>simp only[aA,rn,ih]
theorem JJ(hr:HR n h1 h):∀(v w:V)(l:List Nat)(cs:List C),iP h v=some (w,l)->eU h v cs->eS n h v->gW h v=true->
  ∃ts bv rd,(∀k,cs.length<=k->ic h1 k cs=some (ts,bv,rd))/\eU h w ((ts.map rn).map .d)/\bv.Sublist l/\cs.length=ts.length/\rZ w=rZ v:=by
 have done:∀(v:V)(ds:List D),eU h v (ds.map .d)->∃ts bv rd,(∀k,(ds.map C.d).length<=k->ic h1 k (ds.map .d)=some (ts,bv,rd))/\eU h v ((ts.map rn).map .d)/\bv.Sublist ([]:List Nat)/\(ds.map C.d).length=ts.length/\rZ v=rZ v:=fun v ds hv=>⟨ds.map .d,[],[],fun k hk=>pw ds k (by simpa using hk),by rw[GW];exact hv,bW _,by simp,rfl⟩
 have one:∀(c:C)(q:T)(bv rd:List Nat),(∀k,ez h1 k c=some (q,bv,rd))->∀k,[c].length<=k->ic h1 k [c]=some ([q],bv,rd):=fun c q bv rd hq k hk=>by
  obtain⟨k,rfl⟩:∃k',k=k'+1:=⟨k-1,by simp at hk;omega⟩
  exact uf (hq k)
 intro v;induction v with
 |so id=>
  intro w l cs hf hv hk ha;simp only[iP]at hf;split at hf
  .rename_i t s l' hs;obtain⟨rfl,rfl⟩:=ad (aa hf);obtain⟨ver,ho,e⟩:=tC hs;have e:l'=[id]:=e;subst e;obtain⟨c,rfl,hc,_⟩:=hv;rw[hc _ (lB ho)];obtain⟨q,bv,rd,q1,q2,q3⟩:=Lm hr ho;have hd:kf t=true:=by rcases ho with ho|ho<;>exact(hr.ob id _ ho).2.1.1
   exact⟨[q],bv,rd,one _ q bv rd q1,⟨hd,by simp only[aA,aV,q2];rfl⟩,q3,rfl,rfl⟩
  .simp at hf
 |sr id=>
  intro w l cs hf hv hk ha;simp only[iP]at hf;split at hf
  .rename_i t s ho;obtain⟨rfl,rfl⟩:=ad (aa hf);obtain⟨c,rfl,hc,_⟩:=hv;rw[hc _ (rC ho)];obtain⟨bv,rd,q1,q3⟩:=Ln hr ho;exact⟨[_],bv,rd,one _ _ bv rd q1,⟨(hr.ob id _ ho).2.1.1,by simp only[aA,aV,JH];rfl⟩,q3,rfl,rfl⟩
  .simp at hf
 |sb id ver lo t r=>intro w l cs hf hv hk ha;simp only[iP,sJ]at hf;obtain⟨rfl,rfl⟩:=ad (aa hf);obtain⟨hd,ha⟩:=c_.1 ha;have ha:A7 h id ver=true:=ha;obtain⟨c,rfl,hc,_⟩:=hv;rw[hc ha];obtain⟨q,bv,rd,q1,q2,q3,_⟩:=Fp hr hk ha;exact⟨[q],bv,rd,one _ q bv rd q1,⟨hd,by simp only[aA,aV,q2];rfl⟩,q3,rfl,rfl⟩
 |rc r ih=>
  intro w l cs hf hv hk ha;simp only[iP]at hf;split at hf
  .rename_i w' l' hw;obtain⟨rfl,rfl⟩:=ad (aa hf);obtain⟨ts,bv,rd,a1,a2,a3,a4,_⟩:=ih w' l' cs hw hv hk ha;exact⟨ts,bv,rd,a1,a2,a3,a4,rfl⟩
  .simp at hf
 |co a r iha ihr=>
  intro w l cs hf hv hk ha;simp only[iP]at hf;split at hf
  .rename_i x l1 y l2 hx hy;obtain⟨rfl,rfl⟩:=ad (aa hf);obtain⟨ca,cr,rfl,h2,h3⟩:=hv;simp only[gW,ai]at ha;obtain⟨ts,bv,rd,a1,a2,a3,a4,_⟩:=iha x l1 ca hx h2 hk.1 ha.1;obtain⟨us,own2,rd2,b1,b2,b3,b4,_⟩:=ihr y l2 cr hy h3 hk.2 ha.2;refine⟨ts++us,bv++own2,rd++rd2,fun k hk=>?_,⟨_,_,by simp,a2,b2⟩,a3.append b3,by simp[a4,b4],rfl⟩;simp only[aF]at hk;exact ug (a1 k (by omega)) (b1 _ (by omega)) (by omega)
  .simp at hf
 |x t v=>intro w l cs hf hv hk ha;obtain⟨rfl,rfl⟩:=ad (aa hf);obtain⟨hd,rfl⟩:=hv;exact done _ _ ⟨hd,rfl⟩
 |kb c=>intro w l cs hf hv hk ha;obtain⟨rfl,rfl⟩:=ad (aa hf);obtain rfl:=hv;exact done (.kb c) [_] rfl
 |nl k=>intro w l cs hf hv hk ha;obtain⟨rfl,rfl⟩:=ad (aa hf);obtain rfl:=hv;exact done (.nl k) [_] rfl
 |fl q=>
  intro w l cs hf hv hk ha;obtain⟨rfl,rfl⟩:=ad (aa hf);obtain⟨hp,rfl⟩:=hv;have e:e9 q=(q.map D.lit).map C.d:=by simp[e9]
  rw[e];exact done (.fl q) (q.map D.lit) ⟨hp,e.symm⟩
 |ni=>intro w l cs hf hv hk ha;obtain⟨rfl,rfl⟩:=ad (aa hf);obtain rfl:=hv;exact done .ni [] rfl
 |pt t v=>intro w l cs hf hv hk ha;obtain⟨rfl,rfl⟩:=ad (aa hf);obtain⟨hd,rfl⟩:=hv;exact done (.pt t v) [_] ⟨hd,rfl⟩
 |fn z f q ih=>intro w l cs hf hv hk ha;cases z with|true=>obtain⟨rfl,rfl⟩:=ad (aa hf);obtain⟨ds,hd,rfl⟩:=hv;exact done (.fn true f q) [_] ⟨ds,hd,rfl⟩|false=>simp[iP]at hf
 |_=>intro w l cs hf hv hk ha;simp[iP]at hf
def Ek:Sh->Bool
 |.x _=>true
 |_=>false
theorem Kr:∀(c:Sh)(ln:Bool)(v:V)(l:List V)(i:List Nat),dP h c ln v=some (l,i)->l.length=(L2 c).length:=by
 intro c;induction c with
 |x t=>
  intro ln v l i ha;cases ln with
  |true=>simp[dP]at ha
  |false=>
   simp only[dP]at ha;split at ha
   .obtain ⟨rfl,_⟩:=ad (aa ha);rfl
   .simp at ha
 |os t=>
  intro ln v l i ha;cases ln with
  |true=>simp[dP]at ha
  |false=>
   cases v with
   |so id=>
    simp only[dP]at ha;split at ha
    .split at ha
     .obtain ⟨rfl,_⟩:=ad (aa ha);rfl
     .simp at ha
    .simp at ha
   |nl k=>cases k with|zero=>obtain⟨rfl,_⟩:=ad (aa ha);rfl|succ=>simp[dP]at ha
   |_=>simp[dP]at ha
 |rw t=>
  intro ln v l i ha;cases ln with
  |true=>simp[dP]at ha
  |false=>
   cases v with
   |sr id=>
    simp only[dP]at ha;split at ha
    .split at ha
     .obtain ⟨rfl,_⟩:=ad (aa ha);rfl
     .simp at ha
    .simp at ha
   |nl k=>cases k with|zero=>obtain⟨rfl,_⟩:=ad (aa ha);rfl|succ=>simp[dP]at ha
   |_=>simp[dP]at ha
 |pb t c ih=>
  intro ln v l i ha;cases ln with
  |true=>simp[dP]at ha
  |false=>
   cases v with
   |op id u p=>
    cases p with
    |cons=>simp[dP]at ha
    |nil=>
     simp only[dP]at ha;split at ha
     .obtain ⟨_,ha⟩:=aN ha;split at ha
      .rename_i hh;obtain⟨rfl,_⟩:=ad (aa ha);exact ih _ _ _ _ hh
      .simp at ha
     .simp at ha
   |_=>simp[dP]at ha
 |nl k=>
  intro ln v l i ha;cases ln with
  |true=>simp[dP]at ha
  |false=>cases v with|nl k'=>simp only[dP]at ha;obtain⟨_,ha⟩:=aN ha;obtain⟨rfl,_⟩:=ad (aa ha);rfl|_=>simp[dP]at ha
 |st c ih=>
  intro ln v l i ha;cases ln with
  |true=>simp[dP]at ha
  |false=>
   cases v with
   |rc q=>exact ih true q l i ha
   |x t v=>cases t with|st u=>exact ih true _ l i ha|_=>simp[dP]at ha
   |_=>simp[dP]at ha
 |pr a c iha ihc=>
  intro ln v l i ha;cases ln with
  |false=>simp[dP]at ha
  |true=>
   cases v with
   |co x r=>
    simp only[dP]at ha;split at ha
    .rename_i l1 i1 l2 i2 h2 h3;obtain⟨rfl,rfl⟩:=ad (aa ha)
     have hA:l1.length=(L2 a).length:=by
      split at h2
      .unfold NF at h2;split at h2
       .obtain ⟨rfl,_⟩:=ad (aa h2);rfl
       .simp at h2
      .exact iha _ _ _ _ h2
     rw[aF,hA,ihc _ _ _ _ h3];simp[L2]
    .simp at ha
   |_=>simp[dP]at ha
 |ni=>
  intro ln v l i ha;cases ln with
  |false=>cases v<;>simp[dP]at ha
  |true=>cases v with|ni=>obtain⟨rfl,_⟩:=ad (aa ha);rfl|_=>simp[dP]at ha
 |_=>intro ln v l i ha;cases ln<;>cases v<;>simp[dP]at ha
theorem Mj{c:Sh}{v:V}{l:List V}{i:List Nat}(ha:dP h c false v=some (l,i))(hx:Ek c=false):rZ v=wv c/\fL h v=rB h v:=by
 cases c with
 |x t=>simp[Ek]at hx
 |os t=>cases v<;>first|exact⟨rfl,rfl⟩|simp[dP]at ha
 |rw t=>cases v<;>first|exact⟨rfl,rfl⟩|simp[dP]at ha
 |pb t c=>cases v<;>first|exact⟨rfl,rfl⟩|simp[dP]at ha
 |nl k=>cases v<;>first|exact⟨rfl,rfl⟩|simp[dP]at ha
 |st c=>
  cases v with
  |rc q=>exact⟨rfl,rfl⟩
  |x t v=>cases t with|st u=>exact⟨rfl,rfl⟩|_=>simp[dP]at ha
  |_=>simp[dP]at ha
 |_=>cases v<;>simp[dP]at ha
theorem rG{c:C}{ts:List T}{bv rd:List Nat}(hp:ic h1 301 [c]=some (ts,bv,rd)):∃t rd',ez h1 300 c=some (t,bv,rd')/\ts=[t]:=by
 simp only[ic,oC]at hp;split at hp
 .rename_i t a i xs b j hc hn;obtain⟨rfl,e⟩:=ad (aa hp);obtain⟨rfl,rfl⟩:=ad e;obtain⟨rfl,e⟩:=ad (aa hn);obtain⟨rfl,rfl⟩:=ad e;exact⟨t,i,by simpa using hc,rfl⟩
 .simp at hp
theorem Ir(hr:HR n h1 h){c:Sh}{v:V}{l:List V}{i:List Nat}{x:TV}(hc:Lc h c v=some (l,i))(hx:fL h v x)(hk:eS n h v)(ha:gW h v=true)(hf:iL (pX c) 300=true):
  l.length=(L2 c).length/\∃r0 bv,re h1 x=some (r0,bv)/\bv.Sublist i/\∀rest,(bif Ek c then G8 r0 else r0)=(bif wv c then .agg (ft c (l++rest)).1 else .c ((ft c (l++rest)).1.headD default))/\(ft c (l++rest)).2=rest:=by
 have hf:pX c<=300:=iK hf;have main:Ek c=false->dP h c false v=some (l,i)->l.length=(L2 c).length/\∃r0 bv,re h1 x=some (r0,bv)/\bv.Sublist i/\∀rest,(bif Ek c then G8 r0 else r0)=(bif wv c then .agg (ft c (l++rest)).1 else .c ((ft c (l++rest)).1.headD default))/\(ft c (l++rest)).2=rest:=by intro hX hc;obtain⟨hag,htv⟩:=Mj hc hX;rw[htv]at hx;obtain⟨cs,h2,h3,h4⟩:=hx;obtain⟨ts,bv,rd,g1,g2,g3,_,_,g6,_⟩:=vL hr c false v l i cs hc h2 hk;refine⟨Kr _ _ _ _ _ hc,?_⟩;cases hg:wv c with|true=>obtain rfl:=h3 (hag.trans hg);refine⟨.agg ts,bv,by simp only[re,g1 300 hf],g3,fun rest=>?_⟩;rw[g2 rest,hX];exact⟨rfl,rfl⟩|false=>obtain⟨c1,rfl,rfl⟩:=h4 (hag.trans hg);obtain⟨t,rd',p1,rfl⟩:=rG (g1 301 (by omega));refine⟨.c t,bv,by simp only[re,p1],g3,fun rest=>?_⟩;rw[g2 rest,hX];exact⟨rfl,rfl⟩
 cases c with
 |x t=>
  simp only[Lc]at hc;split at hc
  .rename_i w l' hw;split at hc
   .rename_i y hy;obtain⟨rfl,rfl⟩:=ad (aa hc);have h5:rB h v x:=by cases v with|tp q=>simp[iP]at hw|no=>simp[gW]at ha|gn=>simp[gW]at ha|_=>exact hx
    obtain⟨cs,h2,h3,h4⟩:=h5;obtain⟨ts,bv,rd,g1,g2,g3,g4,g5⟩:=JJ hr v w l' cs hw h2 hk ha;have e:=iG w false t y _ hy g2;have e:=oQ e;have hag:rZ v=mx t:=g5.symm.trans (vE hy);have hlen:cs.length=bR t:=by rw[g4,<-bK t y,<-e,List.length_map]
    have hf2:bR t+1<=300:=hf;refine⟨rfl,?_⟩;cases hg:mx t with|true=>obtain rfl:=h3 (hag.trans hg);refine⟨.agg ts,bv,by simp only[re,g1 300 (by omega)],g3,fun rest=>⟨?_,rfl⟩⟩;simp only[Ek,cond_true,G8,wv,hg,ft,aT,bp,R.agg.injEq];rw[<-e,kZ];rfl|false=>obtain⟨c1,rfl,rfl⟩:=h4 (hag.trans hg);obtain⟨q,rd',p1,rfl⟩:=rG (g1 301 (by simp));refine⟨.c q,bv,by simp only[re,p1],g3,fun rest=>⟨?_,rfl⟩⟩;simp only[Ek,cond_true,G8,wv,hg,cond_false,ft,aT,bp,R.c.injEq];rw[<-e];rfl
   .simp at hc
  .simp at hc
 |os t=>
  cases v with
  |sb id ver lo u r=>
   simp only[Lc]at hc;split at hc
   .rename_i u0 s0 v0 ho;split at hc
    .rename_i s hs;obtain⟨rfl,rfl⟩:=ad (aa hc);obtain⟨e,rfl⟩:=de hs;cases e;obtain rfl:=pG hx ha;obtain⟨q,bv,rd,q1,_,q3,q4⟩:=Fp hr hk (c_.1 ha).2;obtain rfl:=q4 ⟨_,_,_,ho⟩;exact⟨rfl,.c (OK (bR t) (aS t) r),bv,by simp only[re,q1],q3,fun rest=>⟨rfl,rfl⟩⟩
    .simp at hc
   .simp at hc
  |_=>exact main rfl hc
 |_=>exact main rfl hc
theorem DR(hr:HR n h1 h):∀(cs:List Sh)(vs:List V)(l:List V)(i:List Nat)(xs:List TV),zq h cs vs=some (l,i)->lT h vs xs->(∀v∈vs,eS n h v/\gW h v=true)->cs.all (fun c=>iL (pX c) 300)=true->
  l.length=(gE cs).length/\∃rs0 bv,tK h1 xs=some (rs0,bv)/\bv.Sublist i/\sX (cs.map Ek) rs0=lQ cs l:=by
 intro cs;induction cs with
 |nil=>intro vs l i xs hc hx _ _;cases vs with|cons=>simp[zq]at hc|nil=>obtain⟨rfl,rfl⟩:=ad (aa hc);rw[lf hx];exact⟨rfl,[],[],rfl,bW _,rfl⟩
 |cons c cs ih=>
  intro vs l i xs hc hx hk hf;cases vs with
  |nil=>simp[zq]at hc
  |cons v vs=>
   simp only[zq]at hc;split at hc
   .rename_i l1 i1 l2 i2 h2 h3;obtain⟨rfl,rfl⟩:=ad (aa hc);obtain⟨y,ys,rfl,hy,hys⟩:=gx hx;simp only[ij,ai]at hf;obtain⟨e1,r0,bv,a1,a2,a3⟩:=Ir hr h2 hy (hk v (by simp)).1 (hk v (by simp)).2 hf.1;obtain⟨e2,rs0,own2,b1,b2,b3⟩:=ih vs l2 i2 ys h3 hys (fun w hw=>hk w (by simp[hw])) hf.2;refine⟨by simp[gE,e1,e2],r0::rs0,bv++own2,by simp only[tK,a1,b1],a2.append b2,?_⟩;obtain⟨c1,c2⟩:=a3 l2;simp only[aA,sX,lQ,c2,b3];rw[<-c1];cases Ek c<;>rfl
   .simp at hc
theorem DQ(hr:HR n h1 h):∀(cs:List Sh)(g:V)(l:List V)(i:List Nat)(xs:List C),zp h cs (zf g)=some (l,i)->HU h g xs->eS n h g->cs.all (fun c=>iL (pX c) 300&&!Ek c)=true->
  ∃bv,uO h1 xs (kN cs l) bv/\bv.Sublist i:=by
 intro cs;induction cs with
 |nil=>intro g l i xs hc hx _ _;cases g with|ni=>obtain⟨rfl,rfl⟩:=ad (aa hc);obtain rfl:=hx;exact⟨[],.nil,bW _⟩|co a r=>simp[zf,zp]at hc|_=>exact hx.elim
 |cons c cs ih=>
  intro g l i xs hc hx hk hf;cases g with
  |ni=>simp[zf,zp]at hc
  |co a r=>
   simp only[zf,zp]at hc;split at hc
   .rename_i l1 i1 l2 i2 h2 h3;obtain⟨rfl,rfl⟩:=ad (aa hc);obtain⟨y,ys,rfl,hy,hys⟩:=hx;simp only[ij,ai,Bool.not_eq_true']at hf;obtain⟨own2,b1,b2⟩:=ih r l2 i2 ys h3 hys hk.2 (by simpa using hf.2);have Di:(bif gW h a then dP h c false a else none)=some (l1,i1)->∃bv,uO h1 (y::ys) (kN (c::cs) (l1++l2)) bv/\bv.Sublist (i1++i2):=by intro h2;obtain⟨ha,h2⟩:=aN h2;obtain⟨ts,bv,rd,g1,g2,g3,_⟩:=vL hr c false a l1 i1 [y] h2 (hy ha) hk.1;have hfu:pX c<=300:=iK hf.1.1;obtain⟨t,rd',p1,rfl⟩:=rG (g1 301 (by omega));refine⟨bv++own2,?_,g3.append b2⟩;simp only[kN,g2 l2,bU];exact .cons p1 b1
    cases c with|gn=>obtain⟨rfl,rfl⟩:=ad (aa (show some (([]:List V),([]:List Nat))=some (l1,i1)from h2));exact⟨own2,.vy b1,b2⟩|_=>exact Di h2
   .simp at hc
  |_=>exact hx.elim
end
theorem Gm(hg:lu){s1:St}{s:S2}(hr:R2 s1 s){r:RV}{v:V}(h:Lb s r=some v):∃x,vU s1 r=some x/\fL s.heap v x/\eS s.next s.heap v/\gW s.heap v=true:=by
 cases r with
 |tmp t=>exact nk hg hr (o:=.tmp t) h
 |cell t g n=>
  simp only[Lb]at h;split at h
  .rename_i p hp;split at h
   .rename_i w l hl;obtain⟨hc,h⟩:=aN h;obtain rfl:=aa h;obtain⟨x,h1,h2,h3,h4⟩:=nk hg hr hp;obtain⟨y,h5,h6,h7⟩:=vo (nx:=0) (c:=pL) hr.hr hl hc h2 h3;refine⟨y,?_,h6,h7,(nB hc).2.2.2⟩;have h1:cg s1.dm t=some x:=h1;simp only[vU,h1];cases x with
    |c pc=>
     simp only[cA]at h5;split at h5
     .rename_i z aw hz;obtain⟨rfl,_⟩:=ad (aa h5);simp only[hz]
     .simp at h5
    |_=>simp[cA]at h5
   .simp at h
  .simp at h
theorem GX(hg:lu){s1:St}{s:S2}(hr:R2 s1 s):∀(kD:List RV)(vs:List V),LA (Lb s) kD=some vs->∃xs,er (kD.map (vU s1))=some xs/\lT s.heap vs xs/\∀v∈vs,eS s.next s.heap v/\gW s.heap v=true:=by
 intro kD;induction kD with
 |nil=>intro vs h;obtain rfl:=aa h;exact⟨[],rfl,trivial,fun v hv=>by simp at hv⟩
 |cons r kD ih=>
  intro vs h;simp only[LA]at h;split at h
  .rename_i x y hx hy;obtain rfl:=aa h;obtain⟨x1,a1,a2,a3⟩:=Gm hg hr hx;obtain⟨xs,b1,b2,b3⟩:=ih y hy;refine⟨x1::xs,by simp only[aA,er,a1,b1],⟨a2,b2⟩,fun v hv=>?_⟩;rcases aK.1 hv with rfl|hv
   .exact a3
   .exact b3 v hv
  .simp at h
def Pj(al:Wy):Bool:=al.all fun w=>w.1.all (fun c=>iL (pX c) 300)&&w.2.all (fun c=>iL (pX c) 300&&!Ek c)
theorem Hc(hg:lu){s1:St}{s:S2}(hr:R2 s1 s){kD:List RV}{rs os:List Sh}{l:List V}(h:Hd kD rs os s=some l)(hf1:rs.all (fun c=>iL (pX c) 300)=true)(hf2:os.all (fun c=>iL (pX c) 300&&!Ek c)=true):
  ∃rs0,vP kD s1 rs0 (kN os (l.drop (gE rs).length))/\sX (rs.map Ek) rs0=lQ rs (l.take (gE rs).length):=by
 unfold Hd at h;split at h
 .rename_i vs hvs;split at h
  .rename_i l1 i m j h2 h3;obtain⟨hn,h⟩:=aN h;obtain rfl:=aa h;obtain⟨xs,a1,a2,a3⟩:=GX hg hr kD vs hvs;obtain⟨e,rs0,bv,b1,b2,b3⟩:=DR hr.hr rs vs l1 i xs h2 a2 a3 hf1;obtain⟨own2,c1,c2⟩:=DQ hr.hr os s.gh m j s1.gh h3 hr.gh.1 hr.gh.2 hf2;rw[<-e,List.take_left,List.drop_left];exact⟨rs0,⟨xs,bv,own2,a1,b1,c1,(b2.append c2).nodup (Cd hn)⟩,b3⟩
  .simp at h
 .simp at h
section
variable{h1:bE}
theorem F4:∀(c:Sh)(l:List V)(w:V)(l':List V),Bo c l=some (w,l')->pV w=some (ql c l).1/\l'=(ql c l).2:=by
 intro c;induction c with
 |ni=>intro l w l' h;obtain⟨rfl,rfl⟩:=ad (aa h);exact⟨rfl,rfl⟩
 |pr a c _ ih=>
  intro l w l' h;cases a with
  |pt t=>
   match l with
   |.x u v::l=>
    simp only[Bo]at h;obtain⟨hc,hh⟩:=aN h;clear h;simp only[ai,decide_eq_true_eq]at hc;obtain⟨rfl,hd⟩:=hc;split at hh
    .rename_i w2 l2 hw;obtain⟨rfl,rfl⟩:=ad (aa hh);obtain⟨h2,h3⟩:=ih l w2 l2 hw;refine⟨?_,h3⟩;simp only[pV,hd,if_true,h2,ql]
    .simp at hh
   |[]|.kb _::_|.nl _::_|.so _::_|.sb _ _ _ _ _::_|.op _ _ _::_|.ep _ _ _ _::_|.pt _ _::_|.fn _ _ _::_|.om _::_|.rc _::_|.tp _::_|.ni::_|.co _ _::_|.fl _::_|.no::_|.gn::_=>simp[Bo]at h
  |_=>simp[Bo]at h
 |_=>intro l w l' h;simp[Bo]at h
theorem HA:∀{w:V}{ds:List D},pV w=some ds->A6 w=true:=by
 intro w;induction w with
 |pt t v=>
  intro ds h;simp only[pV]at h;split at h
  .assumption
  .simp at h
 |ni=>intro ds _;rfl
 |co a r iha ihr=>
  intro ds h;simp only[pV]at h;split at h
  .rename_i x y hx hy;simp only[A6,iha hx,ihr hy,Bool.and_self]
  .simp at h
 |_=>intro ds h;simp[pV]at h
theorem MI{h:H2}{n:Nat}{i:Nat}{u:Ty}{v:El u}(hd:kf u=true)(hs:(wv (.x u)||xy (.x u))=true):∃x,fL h (.x u v) x/\eS n h (.x u v)/\
  ∀(r:List A)(k:Nat),enter ((bif wv (.x u)then A.agg (aS u v)else A.d ((aS u v).headD default))::r) i k=((i,x)::(enter r (i+1) k).1,(enter r (i+1) k).2.1,(enter r (i+1) k).2.2.1,(enter r (i+1) k).2.2.2):=by
 cases hg:mx u with
 |true=>refine⟨.agg ((aS u v).map .d),cf ⟨_,⟨hd,rfl⟩,fun _=>rfl,fun e=>(by rw[show rZ (.x u v)=mx u from rfl,hg]at e;cases e)⟩,trivial,fun r k=>?_⟩;simp only[wv,hg,cond_true,enter]
 |false=>
  have h1:bR u=1:=by simpa[wv,hg,xy]using hs
  have hl:=bK u v;rw[h1]at hl
  match he:aS u v,hl with|[d],_=>refine⟨.c (.d d),cf ⟨[.d d],⟨hd,by rw[he];rfl⟩,fun e=>(by rw[show rZ (.x u v)=mx u from rfl,hg]at e;cases e),fun _=>⟨_,rfl,rfl⟩⟩,trivial,fun r k=>?_⟩;simp only[wv,hg,cond_false,enter,bU]
theorem v6{α:Type}{a t:Nat}{x:α}{l:List (Nat×α)}(h:a≠t):cg ((a,x)::l) t=cg l t:=by simp only[cg];rw[show(a==t)=false by simpa using h,cond_false]
theorem pA{α:Type}{a:Nat}{x:α}{l:List (Nat×α)}:cg ((a,x)::l) a=some x:=by simp[cg]
theorem Hl:∀(ps:List (Bool×Sh))(i:Nat)(l:List V)(s:S2)(h1:bE)(e:List (Nat×V))(s':S2),rQ ps i l s=some (e,s')->Au ps=true->HR s.next h1 s.heap->s.gh=.ni->
  HR s'.next ((enter (gC ps l) i s.next).2.1++h1) s'.heap/\iX s.next s.heap s'.heap/\s.next<=s'.next/\(∀p∈(enter (gC ps l) i s.next).2.1,s.next<=p.1/\p.1<s'.next)/\
  (∀t v,cg e t=some v->eS s'.next s'.heap v/\∃x,cg (enter (gC ps l) i s.next).1 t=some x/\fL s'.heap v x)/\
  s'.next=(enter (gC ps l) i s.next).2.2.1/\HU s'.heap s'.gh (enter (gC ps l) i s.next).2.2.2/\eS s'.next s'.heap s'.gh:=by
 intro ps;induction ps with
 |nil=>
  intro i l s h1 e s' he _ hr hg;cases l with
  |cons=>simp[rQ]at he
  |nil=>
   obtain⟨rfl,rfl⟩:=ad (aa he);simp only[gC,enter,bp];refine⟨hr,iX.refl _ _,au _,fun p hp=>by simp at hp,fun t v h=>by simp[cg]at h,trivial,?_,?_⟩
   .rw [hg];rfl
   .rw [hg];trivial
 |cons p ps ih=>
  obtain⟨b,c⟩:=p;intro i l s h1 e s' he hp hr hg;simp only[Au,ai]at hp;obtain⟨hc,hps⟩:=hp
  -- data: one more temporary
  have data:∀(l2:List V)(w:V)(a:A)(x:TV),gC ((b,c)::ps) l=a::gC ps l2->(∀(r:List A)(k:Nat),enter (a::r) i k=((i,x)::(enter r (i+1) k).1,(enter r (i+1) k).2.1,(enter r (i+1) k).2.2.1,(enter r (i+1) k).2.2.2))->
    (∀h,fL h w x)->(∀n h,eS n h w)->(match rQ ps (i+1) l2 s with|some (e,s)=>some ((i,w)::e,s)|none=>none)=some (e,s')->
    HR s'.next ((enter (gC ((b,c)::ps) l) i s.next).2.1++h1) s'.heap/\iX s.next s.heap s'.heap/\s.next<=s'.next/\(∀p∈(enter (gC ((b,c)::ps) l) i s.next).2.1,s.next<=p.1/\p.1<s'.next)/\
    (∀t v,cg e t=some v->eS s'.next s'.heap v/\∃x,cg (enter (gC ((b,c)::ps) l) i s.next).1 t=some x/\fL s'.heap v x)/\
    s'.next=(enter (gC ((b,c)::ps) l) i s.next).2.2.1/\HU s'.heap s'.gh (enter (gC ((b,c)::ps) l) i s.next).2.2.2/\eS s'.next s'.heap s'.gh:=by
   intro l2 w a x ha hen hx hk he;split at he
   .rename_i e1 s1 h2;obtain⟨rfl,rfl⟩:=ad (aa he);obtain⟨a1,a2,a3,a4,a5,a6,a7,a8⟩:=ih (i+1) l2 s h1 e1 s1 h2 hps hr hg;rw[ha,hen];refine⟨a1,a2,a3,a4,fun t v h=>?_,a6,a7,a8⟩;by_cases et:i=t
    .subst et;rw[pA]at h;obtain rfl:=aa h;exact⟨hk _ _,x,pA,hx _⟩
    .rw [v6 et]at h|-;exact a5 t v h
   .simp at he
  cases b with
  |true=>
   simp only[cond_true,ai]at hc;simp only[rQ]at he;split at he
   .rename_i w l2 s1 hm;split at he
    .rename_i e1 s2 h2;obtain⟨rfl,rfl⟩:=ad (aa he);obtain⟨g1,g2,g3,g4,g5,_⟩:=ur c false l s w l2 s1 h1 hm hr;have hone:xy c=true:=by have:=hc.1;cases c<;>simp[uw]at this<;>rfl
     have hlen:=AU hm hone
     match ht:(ft c l).1,hlen with
     |[t0],_=>
      have hu:hO s.next [t0]=([(ky s.next t0).1],(ky s.next t0).2.1++[],(ky s.next t0).2.2):=rfl;rw[ht,hu]at g1 g3 g4;simp only[bO]at g1 g3 g4;obtain⟨k1,k2,k3,k4,k5,k6,_⟩:=g3;obtain⟨a1,a2,a3,a4,a5,a6,a7,a8⟩:=ih (i+1) l2 s1 ((ky s.next t0).2.1++h1) e1 s2 h2 hps k1 (k4.trans hg);have hen:enter (gC ((true,c)::ps) l) i s.next=((i,.c (ky s.next t0).1)::(enter (gC ps l2) (i+1) s1.next).1,(ky s.next t0).2.1++(enter (gC ps l2) (i+1) s1.next).2.1,(enter (gC ps l2) (i+1) s1.next).2.2.1,(ky s.next t0).1::(enter (gC ps l2) (i+1) s1.next).2.2.2):=by simp only[gC,ht,bU,<-g5,enter,<-g4]
      rw[hen];have hk:=gw a3 a2 g2;have hcel:=kW a2 g2 g1;refine⟨a1.ext fun j=>vk (fun p hp q hq e=>?_) j,iX.trans k5 k2 a2,fy k5 a3,fun p hp=>?_,fun t v h=>?_,a6,⟨_,_,rfl,fun _=>hcel,a7⟩,⟨hk,a8⟩⟩
      .have:=(k6 p hp).2;have:=(a4 q hq).1;omega
      .rcases ao.1 hp with hp|hp
       .exact ⟨(k6 p hp).1,Nat.lt_of_lt_of_le (k6 p hp).2 a3⟩
       .exact ⟨fy k5 (a4 p hp).1,(a4 p hp).2⟩
      .by_cases et:i=t
       .subst et;rw[pA]at h;obtain rfl:=aa h;refine⟨hk,_,pA,?_⟩;have hag:rZ w=false:=by have:=ur c false l s w l2 s1 h1 hm hr;rw[this.2.2.2.2.2 rfl];have:=hc.1;cases c<;>simp[uw]at this<;>rfl
        exact cf ⟨_,hcel,fun e=>(by rw[hag]at e;cases e),fun _=>⟨_,rfl,rfl⟩⟩
       .rw [v6 et]at h|-;exact a5 t v h
    .simp at he
   .simp at he
  |false=>
   simp only[cond_false,ai]at hc;cases c with
   |x t=>
    match l,he with
    |.x u v::l,he=>
     simp only[rQ]at he;obtain⟨hd,he2⟩:=aN he;simp only[ai,decide_eq_true_eq]at hd;obtain⟨rfl,hd⟩:=hd;obtain⟨x,_,_,h3⟩:=MI (h:=[]) (n:=0) (i:=i) (v:=v) hd hc.1
     have hx:∀h,fL h (.x u v) x:=fun h=>by
      obtain⟨x',h1,_,h3'⟩:=MI (h:=h) (n:=0) (i:=i) (v:=v) hd hc.1;have e1:=h3 [] 0;rw[h3' [] 0]at e1;have:x'=x:=by have:=(ad e1).1;exact(ad (List.cons.inj this).1).2
      rw[<-this];exact h1
     exact data l (.x u v) _ x rfl h3 hx (fun _ _=>trivial) he2
    |[],he|.kb _::_,he|.nl _::_,he|.so _::_,he|.sb _ _ _ _ _::_,he|.op _ _ _::_,he|.ep _ _ _ _::_,he|.pt _ _::_,he|.fn _ _ _::_,he|.om _::_,he|.rc _::_,he|.tp _::_,he|.ni::_,he|.co _ _::_,he|.fl _::_,he|.no::_,he|.gn::_,he=>simp[rQ]at he
   |pt t=>match l,he with|.x u v::l,he=>simp only[rQ]at he;obtain⟨hd,he2⟩:=aN he;simp only[ai,decide_eq_true_eq]at hd;obtain⟨rfl,hd⟩:=hd;refine data l (.pt u v) (.d (.pt (aS u v))) (.c (.d (.pt (aS u v)))) rfl (fun r k=>by simp only[enter]) (fun h=>cf (dJ rfl ⟨hd,rfl⟩)) (fun _ _=>trivial) he2|[],he|.kb _::_,he|.nl _::_,he|.so _::_,he|.sb _ _ _ _ _::_,he|.op _ _ _::_,he|.ep _ _ _ _::_,he|.pt _ _::_,he|.fn _ _ _::_,he|.om _::_,he|.rc _::_,he|.tp _::_,he|.ni::_,he|.co _ _::_,he|.fl _::_,he|.no::_,he|.gn::_,he=>simp[rQ]at he
   |nl k=>
    have he:(match rQ ps (i+1) l s with|some (e,s)=>some ((i,V.nl k)::e,s)|none=>none)=some (e,s'):=by cases l<;>exact he
    refine data l (.nl k) (.d (MC k)) (.c (.d (MC k))) (by cases l<;>rfl) (fun r k=>by simp only[enter]) (fun h=>cf (dJ rfl rfl)) (fun _ _=>trivial) he
   |fn f c2=>
    have he:(match Bo c2 l with|some (w,l)=>(match rQ ps (i+1) l s with|some (e,s)=>some ((i,V.fn true f w)::e,s)|none=>none)|none=>none)=some (e,s'):=by cases l<;>exact he
    split at he
    .rename_i w l2 hw;obtain⟨h2,rfl⟩:=F4 c2 l w l2 hw;refine data _ (.fn true f w) (.d (.fn f (ql c2 l).1)) (.c (.d (.fn f (ql c2 l).1))) (by cases l<;>rfl) (fun r k=>by simp only[enter]) (fun h=>cf (dJ rfl ⟨_,h2,rfl⟩)) (fun n h=>?_) he;exact(yr (h:=h) w (HA h2)).2 n
    .simp at he
   |_=>cases l<;>simp[rQ]at he
theorem Hk{ps:List (Bool×Sh)}{l:List V}{s:S2}(h:N4 ps l=some s)(hp:Au ps=true):R2 (ot (gC ps l)) s:=by
 unfold N4 at h;split at h
 .rename_i e s1 he;obtain rfl:=aa h;obtain⟨a1,a2,a3,a4,a5,a6,a7,a8⟩:=Hl ps 0 l ⟨[],[],0,[],.ni⟩ [] e s1 he hp ⟨fun i o ho=>by simp[fO,cg]at ho⟩ rfl;rw[bO]at a1;exact⟨fun t v ht=>⟨(a5 t v ht).1,fun _=>(a5 t v ht).2⟩,a1,Nat.le_of_eq a6.symm,a7,a8⟩
 .simp at h
end
theorem Hm:∀(ps:List (Bool×Sh))(l:List V),(gC ps l).length=ps.length:=by intro ps;induction ps with|nil=>intro l;rfl|cons p ps ih=>obtain⟨b,c⟩:=p;intro l;cases b<;>simp[gC,ih]
theorem Ka{P:Program}{db:Aa}{nt:Nat}{an:List (Nat×An)}:∀(c:Code)(n:Nat)(s:St)(Q:rj->St->Prop),W P (mB (oZ P db nt an c n).1) s Q->W P (pg P db nt c) s Q:=by
 intro c;induction c with
 |skip=>intro n s Q h;exact h
 |exit id=>intro n s Q h;exact h
 |ret=>intro n s Q h;exact h
 |region o ops draw=>
  intro n s Q h;have hm:(ops.toList.map (Nw P db nt ops)).map (·.o)=ops.toList.map (f_ P db nt ops):=by rw[kZ];rfl
  cases draw with
  |false=>simp only[oZ,aR,if_false,mB,hm]at h;simpa only[pg,aR,if_false]using h
  |true=>
   simp only[oZ,if_true]at h;simp only[pg,if_true,vF];split at h
   .rename_i hc;simp only[mB,hm]at h;rw[if_pos (by simpa using hc)];exact h
   .exact h.elim
 |seq a b iha ihb=>intro n s Q h;simp only[oZ,mB]at h;exact iha _ s _ (W.mono (s_.mono (fun s1 h1=>ihb _ s1 Q h1) fun _ _ h=>h) h)
 |cond x a b iha ihb=>intro n s Q h;simp only[oZ,mB]at h;obtain⟨s1,h0,t,h1,h2,h3⟩:=h;exact⟨s1,h0,t,h1,fun ht=>iha _ s1 Q (h2 ht),fun ht=>ihb _ s1 Q (h3 ht)⟩
 |block id a ih=>intro n s Q h;simp only[oZ,mB]at h;exact ih _ s _ h
 |loop a ih=>
  intro n s Q h;simp only[oZ]at h;split at h
  .simp only[mB]at h;obtain⟨I,m,h1,h2⟩:=h;exact⟨I,m,h1,fun k s1 hI=>ih _ s1 _ (h2 k s1 hI)⟩
  .exact h.elim
 |scope a ih=>intro n s Q h;exact ih _ s Q h
 |label l=>intro n s Q h;exact h
 |_=>intro n s Q h;exact h.elim
theorem EP{P:Program}{db:Aa}{f np:Nat}{an:List (Nat×An)}{F:F2}(h:zW P db f np an=some F):∃G,yh P db f np=some G/\G.np=np/\G.kD=F.kD/\∀s Q,W P (mB F.body) s Q->W P G.body s Q:=by
 unfold zW at h;split at h
 .simp at h
 rename_i g hg;split at h
 .simp at h
 rename_i code hb;split at h
 case isFalse=>simp at h
 rename_i hc;split at h
 case h_2=>simp at h
 rename_i kD hrv;obtain rfl:=aa h;unfold yh;simp only[hg,hb,hrv];rw[if_pos (by simpa using hc)];exact⟨_,rfl,rfl,rfl,fun s Q hw=>Ka code 0 s Q hw⟩
theorem M0{kD:List RV}:∀(al:Wy)(z:uN al),∃r o l,(r,o)∈al/\(∀s,LR kD s al=some z->Hd kD r o s=some l)/\∀Q:List Sh->List Sh->List V->Prop,Q r o l->KL Q al z:=by
 have key:∀(w:Wy)(r o:List Sh)(z:uN.E4 r o w),∃r' o' l,(r',o')∈(r,o)::w/\(∀s,He kD s r o w=some z->Hd kD r' o' s=some l)/\∀Q:List Sh->List Sh->List V->Prop,Q r' o' l->KK Q r o w z:=by
  intro w;induction w with
  |nil=>
   intro r o z;refine⟨r,o,n_ (gE r++gE o) z,by simp,fun s hz=>?_,fun Q hQ=>hQ⟩;simp only[He]at hz;split at hz
   .rename_i l hl;rw[po _ _ _ hz];exact hl
   .simp at hz
  |cons p w ih=>
   obtain⟨r',o'⟩:=p;intro r o z;cases z with
   |inl y=>
    refine⟨r,o,n_ (gE r++gE o) y,by simp,fun s hz=>?_,fun Q hQ=>hQ⟩;simp only[He]at hz;split at hz
    .rename_i l hl;split at hz
     .rename_i y2 hy;have e:y2=y:=by have:=aa hz;cases this;rfl
      subst e;rw[po _ _ _ hy];exact hl
     .simp at hz
    .split at hz
     .have:=aa hz;cases this
     .simp at hz
   |inr y=>
    obtain⟨r2,o2,l,h1,h2,h3⟩:=ih r' o' y;refine⟨r2,o2,l,aB _ h1,fun s hz=>?_,fun Q hQ=>h3 Q hQ⟩;simp only[He]at hz;split at hz
    .split at hz
     .have:=aa hz;cases this
     .simp at hz
    .split at hz
     .rename_i y2 hy;have e:y2=y:=by have:=aa hz;cases this;rfl
      subst e;exact h2 s hy
     .simp at hz
 intro al z;cases al with|nil=>exact nomatch z|cons p w=>exact key w p.1 p.2 z
theorem J0{P:Program}(hm:P.follows .mixedOrders=true){db:Aa}{f np:Nat}{an:List (Nat×An)}{F:F2}{tb:C9}(htb:o8 P tb)(hg:lu)(hF:zW P db f np an=some F){ps:List (Bool×Sh)}{al:Wy}(hnp:ps.length=np)(hps:Au ps=true)(hal:Pj al=true)
  {p:pW (gE (ps.map (·.2)))} {z:uN al} (hz:Pn tb (some F) ps al p=some z):
  KL (fun rs os l=>Ba P f (gC ps (n_ (gE (ps.map (·.2))) p)) (lQ rs (l.take (gE rs).length)) (kN os (l.drop (gE rs).length))) al z:=by
 obtain⟨G,hG,hGn,hGr,hGb⟩:=EP hF;simp only[Pn]at hz;split at hz
 case h_2=>simp at hz
 rename_i s hs;have hr:=Hk hs hps
 -- the ways that the run may end in
 have hend:∀o s1',OT (lW F.body) (ot (gC ps (n_ _ p))) s (fun o s=>match o with|.exit _=>none|_=>LR F.kD s al) z o s1'->wk (fun s1''=>∃s',R2 s1'' s'/\s1''.gh.length=(ot (gC ps (n_ _ p))).gh.length/\(∀i,o≠.exit i)/\LR F.kD s' al=some z) s1':=by
  intro o s1' h;refine wk.mono h fun s1''⟨s',h1,⟨w,h2,h3⟩,h4⟩=>⟨s',h1,h3.gl,fun i e=>?_,?_⟩
  .subst e;simp at h4
  .cases o with|exit i=>simp at h4|_=>exact h4
 have hW:=W.mono hend (Hg htb hg F.body _ s _ z hz hr);obtain⟨r,o,l,h1,h2,h3⟩:=M0 (kD:=F.kD) al z;refine h3 _ (LO hm hG (m:=r.map Ek) ⟨?_,hGb _ _ (W.mono (fun dO s1' h=>?_) hW)⟩)
 .rw [Hm,hnp,hGn]
 .have hf:=bd.1 hal (r,o) h1;simp only[ai]at hf;have fin:wk (fun s=>s.gh.length=(ot (gC ps (n_ (gE (ps.map (·.2))) p))).gh.length/\∃rs0,vP G.kD s rs0 (kN o (l.drop (gE r).length))/\sX (r.map Ek) rs0=lQ r (l.take (gE r).length)) s1':=by refine wk.mono h fun s1''⟨s',k1,k2,_,k4⟩=>⟨k2,?_⟩;rw[hGr];exact Hc hg k1 (h2 s' k4) hf.1 hf.2
  cases dO with|normal=>exact fin|ret=>exact fin|exit i=>obtain⟨_,_,_,_,_,k,_⟩:=h;exact absurd rfl (k i)
theorem cT{P:Program}(hm:P.follows .mixedOrders=true)(hg:lu){db:Aa}{f np:Nat}{an:List (Nat×An)}{tb:C9}(htb:o8 P tb){sp:mo}
  (h1:(KJ sp&&ku sp.ps.length np&&Pj sp.al)=true) (h3:(fun p=>Pn tb (zW P db f np an) sp.ps sp.al p)=sp.fn):dL P f sp:=by
 simp only[ai]at h1;obtain⟨⟨h4,h5⟩,h6⟩:=h1;refine⟨h4,fun p z hz=>?_⟩;have hp:Au sp.ps=true:=by simp only[KJ,ai]at h4;exact h4.1.1.2
 rw[<-h3]at hz;have hz:Pn tb (zW P db f np an) sp.ps sp.al p=some z:=hz;cases hF:zW P db f np an with|none=>rw[hF]at hz;simp[Pn]at hz|some F=>rw[hF]at hz;exact J0 hm htb hg hF (di h5) hp h6 hz
theorem LJ{v:V}{d:D}(hv:∀g w,LK g=some w->g=0/\w=v)(h0:NT 0=some d)(hd:∀h n,fL h v (.c (.d d))/\eS n h v/\gW h v=true):lu:=fun g w hg=>by obtain⟨rfl,rfl⟩:=hv g w hg;exact⟨d,h0,hd⟩
section
variable{P:Program}{sz:Nat}{z:List Value}{am:List (List D)}{i j:Int}
end
section
variable{H:bE}{nx:Nat}
end
section
variable{P:Program}{z:List Value}{am:List (List D)}{x:List D}{i:Int}
end
open Go.ChangeShapes Go.WideShapes Go.ChangeAt Go.RowKit
def vC:(t:Ty)->El t->Prop
 |.i k,x=>k.min<=x/\x<=k.max
 |.s,s=>s.size<=maxLen
 |.f k,b=>(Lit.float k b).wf=true
 |.sl t,s=>s.l.length<=maxLen/\∀x∈s.l,vC t x
 |.pr a c,v=>vC a v.1/\vC c v.2
 |.st t,v=>vC t v
 |.ar _ t,v=>∀x∈v.1,vC t x
 |_,_=>True
def GN(P:Program)(ok:TypeId->Bool)(sz:TypeId->Nat):List Field->Nat->Nat->Bool
 |[],off,M9=>ku off M9
 |f::r,off,M9=>ok f.type&&ku f.offset off&&ku (P.cellsOf f.type) (sz f.type)&&GN P ok sz r (off+sz f.type) M9
def Fv(P:Program):Nat->TypeId->Bool
 |0,_=>false
 |n+1,t=>match P.underlying t with|some (.int _)|some .bool|some .string|some (.float _)=>true|some (.slice e)=>Fv P n e&&Nat.blt 0 (bR (eG P n e))&&ku (P.cellsOf e) (bR (eG P n e))|some (.struct fs)=>GN P (Fv P n) (fun t=>bR (eG P n t)) fs.toList 0 (P.cellsOf t)|some (.array m e)=>Fv P n e&&ku (P.cellsOf e) (bR (eG P n e))&&ku (P.cellsOf t) (m*bR (eG P n e))|_=>false
theorem IA{P:Program}:∀(n:Nat)(t:TypeId),Fv P n t=true->qp P t (aS (eG P n t)) (vC (eG P n t)):=by
 intro n;induction n with
 |zero=>intro t h;simp[Fv]at h
 |succ n ih=>
  intro t h;simp only[Fv]at h;split at h
  .rename_i k hu;rw[show eG P (n+1) t=.i k by simp only[eG,hu]];exact GH hu
  .rename_i hu;rw[show eG P (n+1) t=.b by simp only[eG,hu]];exact D4 hu
  .rename_i hu;rw[show eG P (n+1) t=.s by simp only[eG,hu]];exact Ay hu
  .rename_i k hu;rw[show eG P (n+1) t=.f k by simp only[eG,hu]];exact B2 hu
  .rename_i e hu;simp only[ai]at h;obtain⟨⟨h1,h2⟩,h3⟩:=h;rw[show eG P (n+1) t=.sl (eG P n e)by simp only[eG,hu]];exact B1 (enc:=aS (eG P n e)) hu (di h3) (by simpa[Nat.blt_eq]using h2) (fun a=>bK _ a) (ih e h1)
  .rename_i fs hu;rw[show eG P (n+1) t=.st (eG.PA (fs.toList.map fun f=>eG P n f.type))by simp only[eG,hu]];intro H en w fuel cs x hx;have hl:=Dw hu hx
   have key:∀(suf:List Field)(i off:Nat),(∀j,fs[i+j]?=suf[j]?)->GN P (Fv P n) (fun t=>bR (eG P n t)) suf off (P.cellsOf t)=true->
     ∃v:El (eG.PA (suf.map fun f=>eG P n f.type)),vC _ v/\kq w (cs.drop off) (aS _ v):=by
    intro suf;induction suf with
    |nil=>intro i off _ hok;have e:=di hok;exact⟨(),trivial,kq.nil (by rw[gB,hl,e];omega)⟩
    |cons f r ihr=>
     intro i off hi hok;simp only[GN,ai]at hok;obtain⟨⟨⟨k1,k2⟩,k3⟩,k4⟩:=hok;have k2:=di k2;have k3:=di k3;have hf:fs[i]?=some f:=by have:=hi 0;simpa using this
     obtain⟨a,f1,c1⟩:=B3 hu hx hf (ih f.type k1);rw[k2,k3]at c1;obtain⟨v,f2,c2⟩:=ihr (i+1) (off+bR (eG P n f.type)) (fun j=>by have:=hi (j+1);rw[show i+1+j=i+(j+1)by omega,this];rfl) k4
     have hle:off+bR (eG P n f.type)<=cs.length:=by
      have hmono:∀(suf:List Field)(off:Nat),GN P (Fv P n) (fun t=>bR (eG P n t)) suf off (P.cellsOf t)=true->off<=P.cellsOf t:=by intro suf;induction suf with|nil=>intro off h;exact Nat.le_of_eq (di h)|cons g r ih=>intro off h;simp only[GN,ai]at h;have:=ih _ h.2;omega
      rw[hl];exact hmono r _ k4
     have hfield:=kq.field c1 rfl c2 hle;cases r with|nil=>have e:aS (eG.PA (([]:List Field).map fun f=>eG P n f.type)) v=[]:=rfl;rw[e,bO]at hfield;exact⟨a,f1,hfield⟩|cons g r=>exact⟨(a,v),⟨f1,f2⟩,hfield⟩
   obtain⟨v,f1,c1⟩:=key fs.toList 0 0 (fun j=>by simp) h;exact⟨v,f1,by rw[cq]at c1;exact c1⟩
  .rename_i m e hu;simp only[ai]at h;obtain⟨⟨h1,h2⟩,h3⟩:=h;have h2:=di h2;have h3:=di h3;rw[show eG P (n+1) t=.ar m (eG P n e)by simp only[eG,hu]];intro H en w fuel cs x hx;have hl:=HM hu hx
   have key:∀j,j<=m->∃l:List (El (eG P n e)),l.length=j/\(∀y∈l,vC _ y)/\kq w (cs.drop ((m-j)*bR (eG P n e))) (l.flatMap (aS (eG P n e))):=by
    intro j;induction j with
    |zero=>intro _;exact⟨[],rfl,fun y hy=>by simp at hy,kq.nil (by rw[gB,hl,h3];simp)⟩
    |succ j ihj=>
     intro hj;obtain⟨l,l1,l2,l3⟩:=ihj (by omega);obtain⟨a,f1,c1⟩:=D3 hu hx (i:=m-(j+1)) (by omega) (ih e h1);rw[h2]at c1;have hs:(m-(j+1))*bR (eG P n e)+bR (eG P n e)=(m-j)*bR (eG P n e):=by rw[show m-j=(m-(j+1))+1 by omega,Nat.succ_mul]
     refine⟨a::l,by simp[l1],fun y hy=>?_,?_⟩
     .rcases aK.1 hy with rfl|hy
      .exact f1
      .exact l2 y hy
     .rw [List.flatMap_cons];refine kq.field c1 hs l3 ?_;rw[hl,h3];exact Nat.mul_le_mul_right _ (by omega)
   obtain⟨l,l1,l2,l3⟩:=key m (au _);rw[Nat.sub_self,Nat.zero_mul,cq]at l3;exact⟨⟨l,l1⟩,l2,l3⟩
  .simp at h
def De:List Ty->List V->Prop
 |[],l=>l=[]
 |a::r,l=>∃(v:El a)(m:List V),l=.x a v::m/\vC a v/\De r m
theorem FT{a:Ty}(v:El a):s7 a (.x a v)=some v:=by simp[s7,gq]
theorem De.iz:∀{cs:List Ty}{l:List V},De cs l->∃p,u4 cs l=some p/\n_ cs p=l:=by
 have key:∀(r:List Ty)(a:Ty)(l:List V),De (a::r) l->∃p,Dq a r l=some p:=by intro r;induction r with|nil=>rintro a l ⟨v,m,rfl,_,hm⟩;have hm:m=[]:=hm;subst hm;exact⟨v,FT v⟩|cons c r ih=>rintro a l ⟨v,m,rfl,_,hm⟩;obtain⟨p,hp⟩:=ih c m hm;refine⟨(v,p),?_⟩;show F7 (s7 a (.x a v)) (Dq c r m)=_;rw[FT,hp];rfl
 intro cs l h;cases cs with|nil=>have h:l=[]:=h;subst h;exact⟨(),rfl,rfl⟩|cons a r=>obtain⟨p,hp⟩:=key r a l h;exact⟨p,hp,po (a::r) l p hp⟩
theorem Ox{P:Program}{n:Nat}{t:TypeId}(ho:Fv P n t=true)(h1:(mx (eG P n t)||ku (bR (eG P n t)) 1)=true){w:World}{r:Reach}{b:Nat}{v:Value}(hv:Value.okWide P w r b t v)
  {H:Type} {en:TypeId×Value->H} {x:DataW H} {ps:List MemPlace} (h:DataW.Trod en P w 0 (fun _=>true) true t v x ps):∃a:El (eG P n t),vC _ a/\RA (S0 w) w (bif mx (eG P n t)then .agg (aS _ a)else .d ((aS _ a).headD default)) v []:=by
 have hop:=IA n t ho;cases hag:mx (eG P n t)with
 |true=>
  simp only[cond_true];cases n with
  |zero=>simp[Fv]at ho
  |succ n=>
   simp only[Fv]at ho;split at ho
   .rename_i hu;simp[eG,hu,mx]at hag
   .rename_i hu;simp[eG,hu,mx]at hag
   .rename_i hu;simp[eG,hu,mx]at hag
   .rename_i hu;simp[eG,hu,mx]at hag
   .rename_i hu;simp[eG,hu,mx]at hag
   .rename_i fs hu;exact Mi hop hv hu h
   .rename_i m e hu;exact Mh hop hv hu h
   .simp at ho
 |false=>
  simp only[cond_false];have hsz:bR (eG P n t)=1:=by rw[hag,Bool.false_or]at h1;exact di h1
  have he:(fun a=>[(aS (eG P n t) a).headD default])=aS (eG P n t):=by
   funext a;have hl:=bK (eG P n t) a;rw[hsz]at hl
   match hh:aS (eG P n t) a,hl with|[d],_=>rfl
  have hs:match P.underlying t with|some (.struct _)|some (.array _ _)|some (.interface _)|some (.func ..)|some (.chan ..)|some .unsafePointer|some (.map _ _)=>False|_=>True:=by
   cases n with
   |zero=>simp[Fv]at ho
   |succ n=>
    simp only[Fv]at ho;split at ho
    .rename_i hu;rw[hu];trivial
    .rename_i hu;rw[hu];trivial
    .rename_i hu;rw[hu];trivial
    .rename_i hu;rw[hu];trivial
    .rename_i hu;rw[hu];trivial
    .rename_i fs hu;simp[eG,hu,mx]at hag
    .rename_i m e hu;simp[eG,hu,mx]at hag
    .simp at ho
  exact PD (d:=fun a=>(aS (eG P n t) a).headD default) (fit:=vC (eG P n t)) (by rw[he];exact hop) hv hs h
def PK(P:Program)(ts:List TypeId):Bool:=ts.all fun t=>Fv P Hr t&&(mx (eG P Hr t)||ku (bR (eG P Hr t)) 1)
theorem Mg{P:Program}{W:World}{aP:Nat}{H:Type}{en:TypeId×Value->H}:∀(ts:List TypeId)(vs:List Value)(ds:List (DataW H))(ps:List MemPlace),DataW.TrodAll en P W 0 (fun _=>true) true ts vs ds ps->PK P ts=true->
  (∀(j:Nat)t v,ts[j]?=some t->vs[j]?=some v->Value.okWide P W .any aP t v)->∃l,De (ts.map (eG P Hr)) l/\KI (S0 W) W (gC (ts.map fun t=>(false,Sh.x (eG P Hr t))) l) vs []:=by
 intro ts;induction ts with
 |nil=>intro vs ds ps h _ _;cases vs with|nil=>exact⟨[],rfl,rfl⟩|cons=>cases ds<;>exact h.elim
 |cons t ts ih=>
  intro vs ds ps h hok hv;cases vs with
  |nil=>cases ds<;>exact h.elim
  |cons v vs=>cases ds with|nil=>exact h.elim|cons d ds=>obtain⟨p,q,h1,h2,rfl⟩:=h;simp only[PK,ij,ai]at hok;obtain⟨a,f1,r1⟩:=Ox hok.1.1 (by simpa using hok.1.2) (hv 0 t v rfl rfl) h1;obtain⟨l,f2,r2⟩:=ih vs ds q h2 (by simpa[PK]using hok.2) fun j t' v' ht hv'=>hv (j+1) t' v' (by simpa using ht) (by simpa using hv');exact⟨.x _ a::l,⟨a,l,rfl,f1,f2⟩,[],[],rfl,r1,r2⟩
theorem Oe:∀(tys:List Ty),gE ((tys.map fun t=>(false,Sh.x t)).map (·.2))=tys:=by intro tys;induction tys with|nil=>rfl|cons a r ih=>show a::gE ((r.map fun t=>(false,Sh.x t)).map (·.2))=a::r;rw[ih]
theorem Hu{P:Program}{f:FuncId}{fn:Func}{s:ChangeSpec}{lr gp handsOn again:Bool}{tb:TypeId}{H:Type}{en:TypeId×Value->H}(hl:laidOutB P=true)(hfn:P.funcs[f]?=some fn)(hbody:fn.body.isSome=true)(hname:(fn.name== "runtime.NumGoroutine")=false)
  (hts:fn.params.toList.all (fun t=>P.readableRec t&&decide (t<P.types.size))=true) (hrt:fn.resultTypes= #[tb]) (htb:P.underlying tb=some .bool) (hvars:s.vars=[])
  {W:World} {args:Array Value} {ds gs:List (DataW H)} {eR:List MemPlace} (hW:DataW.Whole en P fn.params.toList s.vars lr W args.toList ds gs eR)
  (hspec:(s.fn H (ds++gs)).results=[.lit (.bool true)]/\(s.fn H (ds++gs)).args=ds/\(s.fn H (ds++gs)).vars=[])
  (hgl:za (S0 W) W) {aP:Nat} (hval:∀(j:Nat)t v,fn.params[j]?=some t->args[j]?=some v->Value.okWide P W .any aP t v)
  {tys:List Ty} (hty:fn.params.toList.map (eG P Hr)=tys) (hok:PK P fn.params.toList=true) {ro:Bool} {jL:List Bool} {g:pW (gE ((tys.map fun t=>(false,Sh.x t)).map (·.2)))->Option (uN [([.x .b],[])])}
  (hsp:dL P f ⟨tys.map fun t=>(false,Sh.x t),[([.x .b],[])],ro,jL,g⟩) (law:∀p,De (gE ((tys.map fun t=>(false,Sh.x t)).map (·.2))) (n_ _ p)->g p=some true):
  Calls P f args W fun e W'=>∃v,e=.returned v/\s.post en P fn lr gp handsOn again W args v W':=by
 have hW':=hW;obtain⟨p,q,hA0,hV,hpq,hfz,hnd⟩:=hW;have hA:DataW.TrodAll en P W 0 (fun _=>true) true fn.params.toList args.toList ds p:=hA0;obtain⟨l,h1,h2⟩:=Mg (aP:=aP) _ _ _ _ hA hok fun j t v ht hv=>hval j t v (by simpa using ht) (by simpa using hv);have h3:fn.params.toList.map (fun t=>(false,Sh.x (eG P Hr t)))=tys.map fun t=>(false,Sh.x t):=by rw[<-hty,kZ];rfl
 rw[h3]at h2;rw[hty,<-Oe tys]at h1;obtain⟨pl,hp,hu⟩:=h1.iz;have hg:=hsp.2 pl true (law pl (by rw[hu];exact h1));rw[<-hu]at h2;exact J_ hl hfn hbody hname hts hrt htb hvars hW' hspec hgl ⟨_,h2,hg⟩
end Go.Ev
