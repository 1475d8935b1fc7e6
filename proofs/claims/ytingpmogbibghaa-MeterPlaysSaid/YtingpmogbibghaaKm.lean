/- Code: what is evaluated is what the abstract machine does. Conditions: as stated. -/
import Derived.Test.YtingpmogbibghaaKh
import Derived.Test.YtingpmogbibghaaEvY
open Bool renaming and_eq_true->ae,and_eq_true_iff->bQ,false_eq_true->aG
open List renaming all_cons->dC,all_eq_true->aL,append_nil->eI,cons_append->aK,drop_zero->cA,headD_cons->bd,length_append->bh,length_drop->ew,map_cons->am,map_map->gX,map_nil->aO,mem_append->ah,mem_append_left->az,mem_append_right->av,mem_cons->aE,mem_cons_of_mem->aq,nil_append->bc,nil_sublist->fX
open List.Sublist renaming refl->bq
open Nat renaming beq->eL,ble->fy,eq_of_beq_eq_true->br,le_of_ble_eq_true->fx,le_of_eq->Kp,le_refl->ai,le_trans->cZ
open Option.some renaming inj->aa
open Prod.mk renaming inj->ad
namespace Go.Ev
theorem uo(j:J)(s0 s:S2):pN j s0 s=Tg j s0 (r_ j.vs s):=rfl
theorem um{j:J}{s1':St}{s0 s':S2}{l:List V}(hr:R2 s1' s')(hc:pN j s0 s'=some l):∀i∈s'.wo,s0.next<=i\/i∈j.kl:=by
 obtain⟨s1c,_,_,wc,hwc,_⟩:=sW j.vs s1' s' hr;rw[uo]at hc;unfold Tg at hc;split at hc
 case h_2=>simp at hc
 split at hc
 case h_2=>simp at hc
 split at hc
 case h_2=>simp at hc
 obtain⟨hchk,_⟩:=aD hc;simp only[ae,aL]at hchk;intro i hi;have:=hchk.1 i (by rw[hwc];simp[hi]);simpa[Nat.ble_eq]using this
theorem mq{j:J}{ds w:List Nat}{s1 s1':St}{s0 s' s'':S2}{l:List V}(hr0:R2 s1 s0)(hr:R2 s1' s')(hf:pG ds w s1 s1' s0 s')(hw:∀i∈w,s0.next<=i\/i∈j.kl)(hc:pN j s0 s'=some l)(hs:nw j ds s0 l=some s''):
  ∃s1'' w',Sub s1' s1''/\R2 s1'' s''/\s''.wo=w'++s0.wo/\pG ds w' s1 s1'' s0 s''/\∀i∈w',s0.next<=i\/i∈j.kl:=by
 obtain⟨s1c,hsub,hrc,wc,hwc,hfc⟩:=sW j.vs s1' s' hr;have hc2:=hc;rw[uo]at hc2
 have hwcc:∀i∈wc,s0.next<=i\/i∈j.kl:=by
  unfold Tg at hc2;split at hc2
  case h_2=>simp at hc2
  split at hc2
  case h_2=>simp at hc2
  split at hc2
  case h_2=>simp at hc2
  obtain⟨hchk,_⟩:=aD hc2;simp only[ae,aL]at hchk;intro i hi;have:=hchk.1 i (by rw[hwc];simp[hi]);simpa[Nat.ble_eq]using this
 obtain⟨s1'',w',h1,h2,h3,h4,h5⟩:=Hx (w:=wc++w) hr0 hrc (hf.trans (hfc.mono (fun t ht=>by simp at ht) fun i hi=>hi)) (fun i hi=>by
  rcases ah.1 hi with hi|hi
  .exact hwcc i hi
  .exact hw i hi) (by rw[<-uo];exact hc) hs
 exact⟨s1'',w',hsub.trans h1,h2,h3,h4,h5⟩
theorem zD{β:Type}{s0 s':S2}{o:kP}{ds:List Nat}{k:kP->S2->Option β}{z:β}:∀(e:Ex)(x:wL e),AN s0 o s' e=some x->B7 ds s0 k e x=some z->∃j∈e,∃l s'',pN j.2 s0 s'=some l/\nw j.2 ds s0 l=some s''/\k o s''=some z:=by
 have fin:∀(j:J)(p:kO (kg j))(l:List V),oJ (kg j) l=some p->(match nw j ds s0 (jC (kg j) p)with|some s=>k o s|none=>none)=some z->∃s'',nw j ds s0 l=some s''/\k o s''=some z:=by
  intro j p l h1 h2;rw[ko _ _ _ h1]at h2;split at h2
  .rename_i s'' hs;exact⟨s'',hs,h2⟩
  .simp at h2
 have key:∀(r:Ex)(o1:kP)(j:J)(x:wL.DR j r),CV s0 o s' o1 j r=some x->GA ds s0 k o1 j r x=some z->∃j'∈(o1,j)::r,∃l s'',pN j'.2 s0 s'=some l/\nw j'.2 ds s0 l=some s''/\k o s''=some z:=by
  intro r;induction r with
  |nil=>
   intro o1 j x hx hz;simp only[CV]at hx;obtain⟨ho,hx2⟩:=aD hx;clear hx;obtain rfl:o=o1:=by simpa using ho
   split at hx2
   .rename_i l hl;obtain⟨s'',h1,h2⟩:=fin j x l hx2 hz;exact⟨(o,j),by simp,l,s'',hl,h1,h2⟩
   .simp at hx2
  |cons q r ih=>
   obtain⟨o2,j2⟩:=q;intro o1 j x hx hz;simp only[CV]at hx;cases hd:decide (o=o1)with
   |true=>
    rw[hd,cond_true]at hx;obtain rfl:o=o1:=by simpa using hd
    split at hx
    .rename_i l hl;split at hx
     .rename_i p hp;obtain rfl:=aa hx;obtain⟨s'',h1,h2⟩:=fin j p l hp hz;exact⟨(o,j),by simp,l,s'',hl,h1,h2⟩
     .simp at hx
    .simp at hx
   |false=>
    rw[hd,cond_false]at hx;split at hx
    .rename_i y hy;obtain rfl:=aa hx;obtain⟨j',h1,h2⟩:=ih o2 j2 y hy hz;exact⟨j',aq _ h1,h2⟩
    .simp at hx
 intro e x hx hz;cases e with|nil=>exact nomatch x|cons q r=>exact key r q.1 q.2 x hx hz
def H8{β:Type}(ds:List Nat)(s1:St)(s:S2)(k:kP->S2->Option β)(z:β)(o:kP)(s1':St):Prop:=wk (fun s1''=>∃s',R2 s1'' s'/\Fr ds s1 s1'' s s'/\k o s'=some z) s1'
theorem A0{P:Program}{tb:wK}(htb:ke P tb)(hg:Mi):∀(c:C2){β:Type}(s1:St)(s:S2)(k:kP->S2->Option β)(z:β),pM tb c s k=some z->R2 s1 s->W P (iW c) s1 (H8 (iC c) s1 s k z):=by
 intro c;induction c with
 |skip=>intro β s1 s k z hz hr;exact wk.of (wk.of ⟨s,hr,Fr.refl,hz⟩)
 |exit id=>intro β s1 s k z hz hr;exact wk.of (wk.of ⟨s,hr,Fr.refl,hz⟩)
 |ret=>intro β s1 s k z hz hr;exact wk.of (wk.of ⟨s,hr,Fr.refl,hz⟩)
 |dL=>intro β s1 s k z hz hr;simp[pM]at hz
 |Et ops dr jn=>
  intro β s1 s k z hz hr;cases jn with
  |none=>refine W.mono (fun o s1' h=>?_) (vc (jn:=none) htb hg (show zH tb ops dr s (fun s=>k .normal s)=some z by simpa only[pM]using hz) hr);obtain⟨rfl,s',h1,h2,h3⟩:=h;exact wk.of ⟨s',h1,h2,h3⟩
  |some j=>
   simp only[pM]at hz;obtain⟨p,hp,hz⟩:=lh hz;refine W.mono (fun o s1' h=>?_) (vc (jn:=some j) htb hg hp (hr.wo []));obtain⟨rfl,s',h1,⟨w,h2,h3⟩,h4⟩:=h;split at h4
   .rename_i l hl;rw[ko _ _ _ h4]at hz;split at hz
    .rename_i s'' hs;have hf:pG (ops.filterMap (·.o.dst)) w s1 s1' s s':=⟨h3.le,h3.c9,h3.gl,h3.ob,h3.bS⟩
     obtain⟨s1'',w',g1,g2,g3,g4,_⟩:=mq hr h1 hf (fun i hi=>um h1 hl i (by rw[h2];simp[hi])) hl hs;exact⟨s1'',g1,s'',g2,⟨w',g3,g4⟩,hz⟩
    .simp at hz
   .simp at h4
 |seq a b e iha ihb=>
  intro β s1 s k z hz hr;have go:∀(o:kP)(s1' s1'':St)(s':S2),Sub s1' s1''->R2 s1'' s'->Fr (iC a) s1 s1'' s s'->(match o with|.normal=>pM tb b s' k|o=>k o s')=some z->nd (fun s'=>W P (iW b) s' (H8 (iC (.seq a b e)) s1 s k z)) (H8 (iC (.seq a b e)) s1 s k z) o s1':=by intro o s1' s1'' s' hsub h1 h2 h3;have hda:∀t∈iC a,t∈iC (.seq a b e):=fun t ht=>az _ ht;have hdb:∀t∈iC b,t∈iC (.seq a b e):=fun t ht=>av _ ht;cases o with|normal=>refine W.sub hsub (W.mono (fun o s2 h=>?_) (ihb s1'' s' k z h3 h1));exact wk.mono h fun _⟨s3,g1,g2,g3⟩=>⟨s3,g1,(h2.mono hda).trans (g2.mono hdb),g3⟩|exit id=>exact⟨s1'',hsub,s',h1,h2.mono hda,h3⟩|ret=>exact⟨s1'',hsub,s',h1,h2.mono hda,h3⟩
  cases e with
  |nil=>simp only[pM]at hz;refine FH (W.mono (fun o s1' h=>?_) (iha s1 s _ z hz hr));obtain⟨s1'',hsub,s',h1,h2,h3⟩:=h;exact go o s1' s1'' s' hsub h1 h2 h3
  |cons q r=>
   simp only[pM]at hz;obtain⟨x,hx,hz⟩:=lh hz;refine FH (W.mono (fun o s1' h=>?_) (iha s1 {s with wo:=[]} _ x hx (hr.wo [])));obtain⟨s1'',hsub,s',h1,⟨w,h2,h3⟩,h4⟩:=h;obtain⟨j,_,l,s'',g1,g2,g3⟩:=zD (q::r) x h4 hz;have hf:pG (iC a) w s1 s1'' s s':=⟨h3.le,h3.c9,h3.gl,h3.ob,h3.bS⟩
   obtain⟨s2,w',k1,k2,k3,k4,_⟩:=mq hr h1 hf (fun i hi=>um h1 g1 i (by rw[h2];simp[hi])) g1 g2;exact go o s1' s2 s'' (hsub.trans k1) k2 ⟨w',k3,k4⟩ g3
 |cond c a b iha ihb=>
  intro β s1 s k z hz hr;have hda:∀t∈iC a,t∈iC (.cond c a b):=fun t ht=>az _ ht;have hdb:∀t∈iC b,t∈iC (.cond c a b):=fun t ht=>av _ ht
  have go:∀t,L9 s1.bS c=some (tB t)->(bif t then pM tb a s k else pM tb b s k)=some z->W P (iW (.cond c a b)) s1 (H8 (iC (.cond c a b)) s1 s k z):=by
   intro t hc hz;refine Gf (t:=t) hc (fun ht=>?_) fun ht=>?_
   .subst ht;exact W.mono (fun o s2 h=>wk.mono h fun _⟨s3,g1,g2,g3⟩=>⟨s3,g1,g2.mono hda,g3⟩) (iha s1 s k z hz hr)
   .subst ht;exact W.mono (fun o s2 h=>wk.mono h fun _⟨s3,g1,g2,g3⟩=>⟨s3,g1,g2.mono hdb,g3⟩) (ihb s1 s k z hz hr)
  simp only[pM]at hz;split at hz
  .rename_i t ht;obtain⟨x,h1,h2,_⟩:=je hg hr ht;rw[oH h2]at h1;exact go t h1 hz
  .rename_i t ht;obtain⟨x,h1,h2,_⟩:=je hg hr ht;rw[yX h2]at h1;exact go t h1 hz
  .simp at hz
 |block id a ih=>
  intro β s1 s k z hz hr;simp only[pM]at hz;refine D5 (W.mono (fun o s1' h=>?_) (ih s1 s _ z hz hr));cases o with
  |normal=>exact h
  |ret=>exact h
  |exit i=>
   simp only[ov];obtain⟨s1'',hsub,s',h1,h2,h3⟩:=h;by_cases e:i=id
   .subst e;rw[if_pos rfl];simp only[beq_self_eq_true,cond_true]at h3;exact⟨s1'',hsub,s',h1,h2,h3⟩
   .rw [if_neg e];have e':(i==id)=false:=by simpa using e
    simp only[e',cond_false]at h3;exact⟨s1'',hsub,s',h1,h2,h3⟩
 |loop j e a ih=>
  intro β s1 s k z hz hr;simp only[pM]at hz;obtain⟨hkl,hz⟩:=aD hz;have hkl:∀x∈e,∀i∈j.kl,i∈x.2.kl:=fun x hx i hi=>by have:=aL.1 (aL.1 hkl x hx) i hi;simpa using this
  split at hz
  case h_2=>simp at hz
  rename_i l hl;split at hz
  case h_2=>simp at hz
  rename_i p0 hp0;obtain⟨x,hx,hz⟩:=lh hz;obtain⟨n,hn⟩:=tU.1 hx;clear hx
  generalize hf:(fun(p:kO (kg j))=>(match nw j (iC a) s (jC (kg j) p)with
     |some s1=>pM tb a {s1 with wo:=[]} fun o s'=>(match o with
      |.normal=>(match pN j s s' with|some l=>(match oJ (kg j) l with|some q=>some (Sum.inl q)|none=>none)|none=>none)
      |o=>(match AN s o s' e with|some x=>some (Sum.inr x)|none=>none))
     |none=>none:Option (kO (kg j)⊕wL e)))=f at hn
  have hrs:∀n p,iH f n p=some x->∃s2,nw j (iC a) s (jC (kg j) p)=some s2:=by
   intro n p h;cases n with
   |zero=>simp[iH]at h
   |succ n=>
    cases hq:nw j (iC a) s (jC (kg j) p)with
    |some s2=>exact⟨s2,rfl⟩
    |none=>
     have:f p=none:=by rw[<-hf];simp only[hq]
     simp[iH,this]at h
  refine⟨fun n t=>∃p s2 w,iH f n p=some x/\nw j (iC a) s (jC (kg j) p)=some s2/\R2 t s2/\pG (iC a) w s1 t s s2/\∀i∈w,s.next<=i\/i∈j.kl,n,?_,?_⟩
  .obtain ⟨s2,hs2⟩:=hrs n p0 hn;have hs3:=hs2;rw[ko _ _ _ hp0]at hs3;obtain⟨s1'',w',g1,g2,_,g4,g5⟩:=mq (w:=[]) hr (hr.wo []) ⟨ai _,fF.refl _ _,rfl,fun _ _ _=>⟨rfl,fun _ _ _ h=>h⟩,fun _ _ _ h _=>h⟩ (fun i hi=>by simp at hi) hl hs3;exact⟨s1'',g1,p0,s2,w',hn,hs2,g2,g4,g5⟩
  .rintro n t ⟨p,s2,w,h1,h2,h3,h4,h5⟩;cases n with
   |zero=>simp[iH]at h1
   |succ n=>
    have hfp:f p=pM tb a {s2 with wo:=[]} fun o s'=>(match o with
      |.normal=>(match pN j s s' with|some l=>(match oJ (kg j) l with|some q=>some (Sum.inl q)|none=>none)|none=>none)
      |o=>(match AN s o s' e with|some x=>some (Sum.inr x)|none=>none)):=by
     rw[<-hf];simp only[h2]
    have hend:∀(o:kP)(t' t'':St)(s':S2)(y:wL e),o≠.normal->Sub t' t''->R2 t'' s'->Fr (iC a) t t'' {s2 with wo:=[]} s'->AN s o s' e=some y->y=x->H8 (iC a) s1 s k z o t':=by
     rintro o t' t'' s' y _ hsub r1 ⟨wb,e1,e2⟩ hy rfl;obtain⟨j',hj',l',s'',g1,g2,g3⟩:=zD e y hy hz;have hfw:pG (iC a) (wb++w) s1 t'' s s':=h4.trans ⟨e2.le,e2.c9,e2.gl,e2.ob,e2.bS⟩
     obtain⟨s3,w',k1,k2,k3,k4,_⟩:=mq hr r1 hfw (fun i hi=>by
      rcases ah.1 hi with hi|hi
      .exact um r1 g1 i (by rw[e1];simp[hi])
      .exact (h5 i hi).imp id (hkl j' hj' i)) g1 g2
     exact⟨s3,hsub.trans k1,s'',k2,⟨w',k3,k4⟩,g3⟩
    simp only[iH]at h1;cases hr1:f p with
    |none=>simp[hr1]at h1
    |some r=>
     rw[hr1]at h1;rw[hfp]at hr1;refine W.mono (fun o t' hq=>?_) (ih t _ _ r hr1 (h3.wo []));obtain⟨t'',hsub,s',r1,r2,r3⟩:=hq;cases o with
     |normal=>
      simp only at r3;split at r3
      .rename_i l2 hl2;split at r3
       .rename_i q hq;obtain rfl:=aa r3;simp only at h1;obtain⟨wb,e1,e2⟩:=r2;obtain⟨s3,hs3⟩:=hrs n q h1;have hs4:=hs3;rw[ko _ _ _ hq]at hs4;have hfw:pG (iC a) (wb++w) s1 t'' s s':=h4.trans ⟨e2.le,e2.c9,e2.gl,e2.ob,e2.bS⟩
        obtain⟨t3,w',k1,k2,_,k4,k5⟩:=mq hr r1 hfw (fun i hi=>by
         rcases ah.1 hi with hi|hi
         .exact um r1 hl2 i (by rw[e1];simp[hi])
         .exact h5 i hi) hl2 hs4
        exact⟨n,Nat.lt_succ_self n,t3,hsub.trans k1,q,s3,w',h1,hs3,k2,k4,k5⟩
       .simp at r3
      .simp at r3
     |exit id=>
      simp only at r3;split at r3
      .rename_i y hy;obtain rfl:=aa r3;exact hend (.exit id) t' t'' s' y (by simp) hsub r1 r2 hy (aa h1)
      .simp at r3
     |ret=>
      simp only at r3;split at r3
      .rename_i y hy;obtain rfl:=aa r3;exact hend .ret t' t'' s' y (by simp) hsub r1 r2 hy (aa h1)
      .simp at r3
section
variable{h:H2}{n:Nat}{h1:aY}
theorem vh{id sz lo len:Nat}{rows:List (List D)}(ho:ak h1 id=some (.aB sz rows)\/ak h1 id=some (.ML sz rows))(hl:lo+len<=rows.length)(szo:Nat):
  ∃t aW rd,(∀k,cG h1 k (.da szo id lo len)=some (t,aW,rd))/\lT t=.sl szo ((rows.drop lo).take len)/\aW.Sublist [id]/\(ak h1 id=some (.aB sz rows)->t=.sl szo ((rows.drop lo).take len)):=by
 by_cases ha:ak h1 id=some (.aB sz rows)
 .exact ⟨.sl szo ((rows.drop lo).take len),[id],[id],fun k=>by cases k<;>simp only[cG,ha,if_pos hl],rfl,bq _,fun _=>rfl⟩
 .have hi:=ho.resolve_left ha;exact⟨.d (.sl szo ((rows.drop lo).take len)),[],[id],fun k=>by cases k<;>simp only[cG,hi,if_pos hl],rfl,fX _,fun e=>absurd e ha⟩
theorem ED(hr:HR n h1 h){id ver:Nat}{t:Ty}{s:Sl (El t)}(ho:fO h id=some (.ar t s ver)\/fO h id=some (.im t s ver)):
  ∃q aW rd,(∀k,cG h1 k (ij (bn t) (aJ t) id s)=some (q,aW,rd))/\lT q=oK (bn t) (aJ t) s/\aW.Sublist [id]:=by
 cases s with
 |nil=>exact⟨_,_,_,fun k=>nV k _,rfl,fX _⟩
 |mk l=>
  have hb:ak h1 id=some (.aB (bn t) (l.map (aJ t)))\/ak h1 id=some (.ML (bn t) (l.map (aJ t))):=by
   rcases ho with ho|ho
   .exact .inl ((hr.ob id _ ho).2.1.2.2 l rfl)
   .exact .inr ((hr.ob id _ ho).2.1.2.2 l rfl)
  obtain⟨q,aW,rd,g1,g2,g3,_⟩:=vh (lo:=0) (len:=(l.map (aJ t)).length) hb (by omega) (bn t);rw[mO]at g2;exact⟨q,aW,rd,g1,g2,g3⟩
theorem CZ{t:Ty}(s:Sl (Sl (El t))):lT (ql t s)=oK 1 (aJ (.sl t)) (s:Sl (El (.sl t))):=by cases s with|nil=>rfl|mk l=>simp only[ql,lT,oK,gX];congr 1;exact List.map_congr_left fun r _=>by cases r<;>rfl
theorem EE(hr:HR n h1 h){id:Nat}{t:Ty}{s:Sl (Sl (El t))}(ho:fO h id=some (.rw t s none)):
  ∃aW rd,(∀k,cG h1 k (ij 1 (aJ (.sl t)) id (s:Sl (El (.sl t))))=some (ql t s,aW,rd))/\aW.Sublist [id]:=by
 cases s with|nil=>exact⟨_,_,fun k=>nV k _,fX _⟩|mk l=>exact⟨_,_,fun k=>Jc (k:=k) ((hr.ob id _ ho).2.1.2.2 l rfl),bq _⟩
theorem ze(hr:HR n h1 h){id ver lo:Nat}{t:Ty}{r:Sl (El t)}(hk:cX n h (.sb id ver lo t r))(ha:uv h id ver=true):
  ∃q aW rd,(∀k,cG h1 k (qq id lo t r)=some (q,aW,rd))/\lT q=oK (bn t) (aJ t) r/\aW.Sublist [id]/\((∃u s v,fO h id=some (.ar u s v))->q=Gr (bn t) (aJ t) r):=by
 obtain⟨u,s,ho⟩:=gW ha;obtain⟨_,hc⟩:=hk.2 u s ver ho;obtain⟨hz,hc⟩:=hc rfl;cases r with
 |nil=>exact⟨_,_,_,fun k=>nV k _,rfl,fX _,fun _=>rfl⟩
 |mk m=>
  cases s with
  |nil=>exact hc.elim
  |mk l=>
   obtain⟨hl,he⟩:=hc
   have hb:ak h1 id=some (.aB (bn u) (l.map (aJ u)))\/ak h1 id=some (.ML (bn u) (l.map (aJ u))):=by
    rcases ho with ho|ho
    .exact .inl ((hr.ob id _ ho).2.1.2.2 l rfl)
    .exact .inr ((hr.ob id _ ho).2.1.2.2 l rfl)
   obtain⟨q,aW,rd,g1,g2,g3,g4⟩:=vh (lo:=lo) (len:=(m.map (aJ t)).length) hb (by simpa using hl) (bn t);rw[show(m.map (aJ t)).length=m.length by simp,he]at g2 g4;refine⟨q,aW,rd,fun k=>?_,g2,g3,?_⟩
   .have:=g1 k;simpa[qq]using this
   .rintro ⟨u',s',v',ho'⟩;rcases ho with ho|ho
    .exact g4 ((hr.ob id _ ho).2.1.2.2 l rfl)
    .rw [ho']at ho;simp at ho
theorem AI(ds:List D):(ds.map T.d).map lT=ds:=by induction ds with|nil=>rfl|cons d ds ih=>simp only[am,lT,ih]
theorem OX(hr:HR n h1 h):∀(v w:V)(l:List Nat)(cs:List C),fA h v=some (w,l)->cY h v cs->cX n h v->eT h v=true->
  ∃ts aW rd,(∀k,cs.length<=k->eY h1 k cs=some (ts,aW,rd))/\cY h w ((ts.map lT).map .d)/\aW.Sublist l/\cs.length=ts.length/\mu w=mu v:=by
 have done:∀(v:V)(ds:List D),cY h v (ds.map .d)->∃ts aW rd,(∀k,(ds.map C.d).length<=k->eY h1 k (ds.map .d)=some (ts,aW,rd))/\cY h v ((ts.map lT).map .d)/\aW.Sublist ([]:List Nat)/\(ds.map C.d).length=ts.length/\mu v=mu v:=fun v ds hv=>⟨ds.map .d,[],[],fun k hk=>kr ds k (by simpa using hk),by rw[AI];exact hv,bq _,by simp,rfl⟩
 have one:∀(c:C)(q:T)(aW rd:List Nat),(∀k,cG h1 k c=some (q,aW,rd))->∀k,[c].length<=k->eY h1 k [c]=some ([q],aW,rd):=fun c q aW rd hq k hk=>by
  obtain⟨k,rfl⟩:∃k',k=k'+1:=⟨k-1,by simp at hk;omega⟩
  exact nT (hq k)
 intro v;induction v with
 |so id=>
  intro w l cs hf hv hk ha;simp only[fA]at hf;split at hf
  .rename_i t s l' hs;obtain⟨rfl,rfl⟩:=ad (aa hf);obtain⟨ver,ho,e⟩:=nr hs;have e:l'=[id]:=e;subst e;obtain⟨c,rfl,hc,_⟩:=hv;rw[hc _ (ii ho)];obtain⟨q,aW,rd,q1,q2,q3⟩:=ED hr ho;have hd:L_ t=true:=by rcases ho with ho|ho<;>exact(hr.ob id _ ho).2.1.1
   exact⟨[q],aW,rd,one _ q aW rd q1,⟨hd,by simp only[am,aO,q2];rfl⟩,q3,rfl,rfl⟩
  .simp at hf
 |sr id=>
  intro w l cs hf hv hk ha;simp only[fA]at hf;split at hf
  .rename_i t s ho;obtain⟨rfl,rfl⟩:=ad (aa hf);obtain⟨c,rfl,hc,_⟩:=hv;rw[hc _ (Sp ho)];obtain⟨aW,rd,q1,q3⟩:=EE hr ho;exact⟨[_],aW,rd,one _ _ aW rd q1,⟨(hr.ob id _ ho).2.1.1,by simp only[am,aO,CZ];rfl⟩,q3,rfl,rfl⟩
  .simp at hf
 |sb id ver lo t r=>intro w l cs hf hv hk ha;simp only[fA,mU]at hf;obtain⟨rfl,rfl⟩:=ad (aa hf);obtain⟨hd,ha⟩:=bQ.1 ha;have ha:uv h id ver=true:=ha;obtain⟨c,rfl,hc,_⟩:=hv;rw[hc ha];obtain⟨q,aW,rd,q1,q2,q3,_⟩:=ze hr hk ha;exact⟨[q],aW,rd,one _ q aW rd q1,⟨hd,by simp only[am,aO,q2];rfl⟩,q3,rfl,rfl⟩
 |rc r ih=>
  intro w l cs hf hv hk ha;simp only[fA]at hf;split at hf
  .rename_i w' l' hw;obtain⟨rfl,rfl⟩:=ad (aa hf);obtain⟨ts,aW,rd,a1,a2,a3,a4,_⟩:=ih w' l' cs hw hv hk ha;exact⟨ts,aW,rd,a1,a2,a3,a4,rfl⟩
  .simp at hf
 |co a r iha ihr=>
  intro w l cs hf hv hk ha;simp only[fA]at hf;split at hf
  .rename_i x l1 y l2 hx hy;obtain⟨rfl,rfl⟩:=ad (aa hf);obtain⟨ca,cr,rfl,h2,h3⟩:=hv;simp only[eT,ae]at ha;obtain⟨ts,aW,rd,a1,a2,a3,a4,_⟩:=iha x l1 ca hx h2 hk.1 ha.1;obtain⟨us,own2,rd2,b1,b2,b3,b4,_⟩:=ihr y l2 cr hy h3 hk.2 ha.2;refine⟨ts++us,aW++own2,rd++rd2,fun k hk=>?_,⟨_,_,by simp,a2,b2⟩,a3.append b3,by simp[a4,b4],rfl⟩;simp only[bh]at hk;exact nU (a1 k (by omega)) (b1 _ (by omega)) (by omega)
  .simp at hf
 |x t v=>intro w l cs hf hv hk ha;obtain⟨rfl,rfl⟩:=ad (aa hf);obtain⟨hd,rfl⟩:=hv;exact done _ _ ⟨hd,rfl⟩
 |kb c=>intro w l cs hf hv hk ha;obtain⟨rfl,rfl⟩:=ad (aa hf);obtain rfl:=hv;exact done (.kb c) [_] rfl
 |nl k=>intro w l cs hf hv hk ha;obtain⟨rfl,rfl⟩:=ad (aa hf);obtain rfl:=hv;exact done (.nl k) [_] rfl
 |fl q=>
  intro w l cs hf hv hk ha;obtain⟨rfl,rfl⟩:=ad (aa hf);obtain⟨hp,rfl⟩:=hv;have e:db q=(q.map D.lit).map C.d:=by simp[db]
  rw[e];exact done (.fl q) (q.map D.lit) ⟨hp,e.symm⟩
 |ni=>intro w l cs hf hv hk ha;obtain⟨rfl,rfl⟩:=ad (aa hf);obtain rfl:=hv;exact done .ni [] rfl
 |pt t v=>intro w l cs hf hv hk ha;obtain⟨rfl,rfl⟩:=ad (aa hf);obtain⟨hd,rfl⟩:=hv;exact done (.pt t v) [_] ⟨hd,rfl⟩
 |fn z f q ih=>intro w l cs hf hv hk ha;cases z with|true=>obtain⟨rfl,rfl⟩:=ad (aa hf);obtain⟨ds,hd,rfl⟩:=hv;exact done (.fn true f q) [_] ⟨ds,hd,rfl⟩|false=>simp[fA]at hf
 |_=>intro w l cs hf hv hk ha;simp[fA]at hf
def x5:Sh->Bool
 |.x _=>true
 |_=>false
theorem DL:∀(c:Sh)(ln:Bool)(v:V)(l:List V)(i:List Nat),Wo h c ln v=some (l,i)->l.length=(Fc c).length:=by
 intro c;induction c with
 |x t=>
  intro ln v l i ha;cases ln with
  |true=>simp[Wo]at ha
  |false=>
   simp only[Wo]at ha;split at ha
   .obtain ⟨rfl,_⟩:=ad (aa ha);rfl
   .simp at ha
 |os t=>
  intro ln v l i ha;cases ln with
  |true=>simp[Wo]at ha
  |false=>
   cases v with
   |so id=>
    simp only[Wo]at ha;split at ha
    .split at ha
     .obtain ⟨rfl,_⟩:=ad (aa ha);rfl
     .simp at ha
    .simp at ha
   |nl k=>cases k with|zero=>obtain⟨rfl,_⟩:=ad (aa ha);rfl|succ=>simp[Wo]at ha
   |_=>simp[Wo]at ha
 |rw t=>
  intro ln v l i ha;cases ln with
  |true=>simp[Wo]at ha
  |false=>
   cases v with
   |sr id=>
    simp only[Wo]at ha;split at ha
    .split at ha
     .obtain ⟨rfl,_⟩:=ad (aa ha);rfl
     .simp at ha
    .simp at ha
   |nl k=>cases k with|zero=>obtain⟨rfl,_⟩:=ad (aa ha);rfl|succ=>simp[Wo]at ha
   |_=>simp[Wo]at ha
 |pb t c ih=>
  intro ln v l i ha;cases ln with
  |true=>simp[Wo]at ha
  |false=>
   cases v with
   |op id u p=>
    cases p with
    |cons=>simp[Wo]at ha
    |nil=>
     simp only[Wo]at ha;split at ha
     .obtain ⟨_,ha⟩:=aD ha;split at ha
      .rename_i hh;obtain⟨rfl,_⟩:=ad (aa ha);exact ih _ _ _ _ hh
      .simp at ha
     .simp at ha
   |_=>simp[Wo]at ha
 |nl k=>
  intro ln v l i ha;cases ln with
  |true=>simp[Wo]at ha
  |false=>cases v with|nl k'=>simp only[Wo]at ha;obtain⟨_,ha⟩:=aD ha;obtain⟨rfl,_⟩:=ad (aa ha);rfl|_=>simp[Wo]at ha
 |st c ih=>
  intro ln v l i ha;cases ln with
  |true=>simp[Wo]at ha
  |false=>
   cases v with
   |rc q=>exact ih true q l i ha
   |x t v=>cases t with|st u=>exact ih true _ l i ha|_=>simp[Wo]at ha
   |_=>simp[Wo]at ha
 |pr a c iha ihc=>
  intro ln v l i ha;cases ln with
  |false=>simp[Wo]at ha
  |true=>
   cases v with
   |co x r=>
    simp only[Wo]at ha;split at ha
    .rename_i l1 i1 l2 i2 h2 h3;obtain⟨rfl,rfl⟩:=ad (aa ha)
     have hA:l1.length=(Fc a).length:=by
      split at h2
      .unfold GN at h2;split at h2
       .obtain ⟨rfl,_⟩:=ad (aa h2);rfl
       .simp at h2
      .exact iha _ _ _ _ h2
     rw[bh,hA,ihc _ _ _ _ h3];simp[Fc]
    .simp at ha
   |_=>simp[Wo]at ha
 |ni=>
  intro ln v l i ha;cases ln with
  |false=>cases v<;>simp[Wo]at ha
  |true=>cases v with|ni=>obtain⟨rfl,_⟩:=ad (aa ha);rfl|_=>simp[Wo]at ha
 |_=>intro ln v l i ha;cases ln<;>cases v<;>simp[Wo]at ha
theorem Fz{c:Sh}{v:V}{l:List V}{i:List Nat}(ha:Wo h c false v=some (l,i))(hx:x5 c=false):mu v=pS c/\dD h v=Yz h v:=by
 cases c with
 |x t=>simp[x5]at hx
 |os t=>cases v<;>first|exact⟨rfl,rfl⟩|simp[Wo]at ha
 |rw t=>cases v<;>first|exact⟨rfl,rfl⟩|simp[Wo]at ha
 |pb t c=>cases v<;>first|exact⟨rfl,rfl⟩|simp[Wo]at ha
 |nl k=>cases v<;>first|exact⟨rfl,rfl⟩|simp[Wo]at ha
 |st c=>
  cases v with
  |rc q=>exact⟨rfl,rfl⟩
  |x t v=>cases t with|st u=>exact⟨rfl,rfl⟩|_=>simp[Wo]at ha
  |_=>simp[Wo]at ha
 |_=>cases v<;>simp[Wo]at ha
theorem l_{c:C}{ts:List T}{aW rd:List Nat}(hp:eY h1 301 [c]=some (ts,aW,rd)):∃t rd',cG h1 300 c=some (t,aW,rd')/\ts=[t]:=by
 simp only[eY,jL]at hp;split at hp
 .rename_i t a i xs b j hc hn;obtain⟨rfl,e⟩:=ad (aa hp);obtain⟨rfl,rfl⟩:=ad e;obtain⟨rfl,e⟩:=ad (aa hn);obtain⟨rfl,rfl⟩:=ad e;exact⟨t,i,by simpa using hc,rfl⟩
 .simp at hp
theorem BZ(hr:HR n h1 h){c:Sh}{v:V}{l:List V}{i:List Nat}{x:TV}(hc:Er h c v=some (l,i))(hx:dD h v x)(hk:cX n h v)(ha:eT h v=true)(hf:fy (kQ c) 300=true):
  l.length=(Fc c).length/\∃r0 aW,lO h1 x=some (r0,aW)/\aW.Sublist i/\∀rest,(bif x5 c then AT r0 else r0)=(bif pS c then .agg (df c (l++rest)).1 else .c ((df c (l++rest)).1.headD default))/\(df c (l++rest)).2=rest:=by
 have hf:kQ c<=300:=fx hf;have main:x5 c=false->Wo h c false v=some (l,i)->l.length=(Fc c).length/\∃r0 aW,lO h1 x=some (r0,aW)/\aW.Sublist i/\∀rest,(bif x5 c then AT r0 else r0)=(bif pS c then .agg (df c (l++rest)).1 else .c ((df c (l++rest)).1.headD default))/\(df c (l++rest)).2=rest:=by intro hX hc;obtain⟨hag,htv⟩:=Fz hc hX;rw[htv]at hx;obtain⟨cs,h2,h3,h4⟩:=hx;obtain⟨ts,aW,rd,g1,g2,g3,_,_,g6,_⟩:=pm hr c false v l i cs hc h2 hk;refine⟨DL _ _ _ _ _ hc,?_⟩;cases hg:pS c with|true=>obtain rfl:=h3 (hag.trans hg);refine⟨.agg ts,aW,by simp only[lO,g1 300 hf],g3,fun rest=>?_⟩;rw[g2 rest,hX];exact⟨rfl,rfl⟩|false=>obtain⟨c1,rfl,rfl⟩:=h4 (hag.trans hg);obtain⟨t,rd',p1,rfl⟩:=l_ (g1 301 (by omega));refine⟨.c t,aW,by simp only[lO,p1],g3,fun rest=>?_⟩;rw[g2 rest,hX];exact⟨rfl,rfl⟩
 cases c with
 |x t=>
  simp only[Er]at hc;split at hc
  .rename_i w l' hw;split at hc
   .rename_i y hy;obtain⟨rfl,rfl⟩:=ad (aa hc);have h5:Yz h v x:=by cases v with|tp q=>simp[fA]at hw|no=>simp[eT]at ha|gn=>simp[eT]at ha|_=>exact hx
    obtain⟨cs,h2,h3,h4⟩:=h5;obtain⟨ts,aW,rd,g1,g2,g3,g4,g5⟩:=OX hr v w l' cs hw h2 hk ha;have e:=fq w false t y _ hy g2;have e:=jW e;have hag:mu v=iS t:=g5.symm.trans (pd hy);have hlen:cs.length=bn t:=by rw[g4,<-bg t y,<-e,List.length_map]
    have hf2:bn t+1<=300:=hf;refine⟨rfl,?_⟩;cases hg:iS t with|true=>obtain rfl:=h3 (hag.trans hg);refine⟨.agg ts,aW,by simp only[lO,g1 300 (by omega)],g3,fun rest=>⟨?_,rfl⟩⟩;simp only[x5,cond_true,AT,pS,hg,df,aK,bc,R.agg.injEq];rw[<-e,gX];rfl|false=>obtain⟨c1,rfl,rfl⟩:=h4 (hag.trans hg);obtain⟨q,rd',p1,rfl⟩:=l_ (g1 301 (by simp));refine⟨.c q,aW,by simp only[lO,p1],g3,fun rest=>⟨?_,rfl⟩⟩;simp only[x5,cond_true,AT,pS,hg,cond_false,df,aK,bc,R.c.injEq];rw[<-e];rfl
   .simp at hc
  .simp at hc
 |os t=>
  cases v with
  |sb id ver lo u r=>
   simp only[Er]at hc;split at hc
   .rename_i u0 s0 v0 ho;split at hc
    .rename_i s hs;obtain⟨rfl,rfl⟩:=ad (aa hc);obtain⟨e,rfl⟩:=bL hs;cases e;obtain rfl:=kF hx ha;obtain⟨q,aW,rd,q1,_,q3,q4⟩:=ze hr hk (bQ.1 ha).2;obtain rfl:=q4 ⟨_,_,_,ho⟩;exact⟨rfl,.c (Gr (bn t) (aJ t) r),aW,by simp only[lO,q1],q3,fun rest=>⟨rfl,rfl⟩⟩
    .simp at hc
   .simp at hc
  |_=>exact main rfl hc
 |_=>exact main rfl hc
theorem xA(hr:HR n h1 h):∀(cs:List Sh)(vs:List V)(l:List V)(i:List Nat)(xs:List TV),sD h cs vs=some (l,i)->ig h vs xs->(∀v∈vs,cX n h v/\eT h v=true)->cs.all (fun c=>fy (kQ c) 300)=true->
  l.length=(eX cs).length/\∃rs0 aW,ma h1 xs=some (rs0,aW)/\aW.Sublist i/\m9 (cs.map x5) rs0=jB cs l:=by
 intro cs;induction cs with
 |nil=>intro vs l i xs hc hx _ _;cases vs with|cons=>simp[sD]at hc|nil=>obtain⟨rfl,rfl⟩:=ad (aa hc);rw[gK hx];exact⟨rfl,[],[],rfl,bq _,rfl⟩
 |cons c cs ih=>
  intro vs l i xs hc hx hk hf;cases vs with
  |nil=>simp[sD]at hc
  |cons v vs=>
   simp only[sD]at hc;split at hc
   .rename_i l1 i1 l2 i2 h2 h3;obtain⟨rfl,rfl⟩:=ad (aa hc);obtain⟨y,ys,rfl,hy,hys⟩:=dK hx;simp only[dC,ae]at hf;obtain⟨e1,r0,aW,a1,a2,a3⟩:=BZ hr h2 hy (hk v (by simp)).1 (hk v (by simp)).2 hf.1;obtain⟨e2,rs0,own2,b1,b2,b3⟩:=ih vs l2 i2 ys h3 hys (fun w hw=>hk w (by simp[hw])) hf.2;refine⟨by simp[eX,e1,e2],r0::rs0,aW++own2,by simp only[ma,a1,b1],a2.append b2,?_⟩;obtain⟨c1,c2⟩:=a3 l2;simp only[am,m9,jB,c2,b3];rw[<-c1];cases x5 c<;>rfl
   .simp at hc
theorem xz(hr:HR n h1 h):∀(cs:List Sh)(g:V)(l:List V)(i:List Nat)(xs:List C),sC h cs (si g)=some (l,i)->Bv h g xs->cX n h g->cs.all (fun c=>fy (kQ c) 300&&!x5 c)=true->
  ∃aW,mw h1 xs (gC cs l) aW/\aW.Sublist i:=by
 intro cs;induction cs with
 |nil=>intro g l i xs hc hx _ _;cases g with|ni=>obtain⟨rfl,rfl⟩:=ad (aa hc);obtain rfl:=hx;exact⟨[],.nil,bq _⟩|co a r=>simp[si,sC]at hc|_=>exact hx.elim
 |cons c cs ih=>
  intro g l i xs hc hx hk hf;cases g with
  |ni=>simp[si,sC]at hc
  |co a r=>
   simp only[si,sC]at hc;split at hc
   .rename_i l1 i1 l2 i2 h2 h3;obtain⟨rfl,rfl⟩:=ad (aa hc);obtain⟨y,ys,rfl,hy,hys⟩:=hx;simp only[dC,ae,Bool.not_eq_true']at hf;obtain⟨own2,b1,b2⟩:=ih r l2 i2 ys h3 hys hk.2 (by simpa using hf.2);have wS:(bif eT h a then Wo h c false a else none)=some (l1,i1)->∃aW,mw h1 (y::ys) (gC (c::cs) (l1++l2)) aW/\aW.Sublist (i1++i2):=by intro h2;obtain⟨ha,h2⟩:=aD h2;obtain⟨ts,aW,rd,g1,g2,g3,_⟩:=pm hr c false a l1 i1 [y] h2 (hy ha) hk.1;have hfu:kQ c<=300:=fx hf.1.1;obtain⟨t,rd',p1,rfl⟩:=l_ (g1 301 (by omega));refine⟨aW++own2,?_,g3.append b2⟩;simp only[gC,g2 l2,bd];exact .cons p1 b1
    cases c with|gn=>obtain⟨rfl,rfl⟩:=ad (aa (show some (([]:List V),([]:List Nat))=some (l1,i1)from h2));exact⟨own2,.Nl b1,b2⟩|_=>exact wS h2
   .simp at hc
  |_=>exact hx.elim
end
theorem Ae(hg:Mi){s1:St}{s:S2}(hr:R2 s1 s){r:RV}{v:V}(h:Ep s r=some v):∃x,nQ s1 r=some x/\dD s.heap v x/\cX s.next s.heap v/\eT s.heap v=true:=by
 cases r with
 |tmp t=>exact je hg hr (o:=.tmp t) h
 |cell t g n=>
  simp only[Ep]at h;split at h
  .rename_i p hp;split at h
   .rename_i w l hl;obtain⟨hc,h⟩:=aD h;obtain rfl:=aa h;obtain⟨x,h1,h2,h3,h4⟩:=je hg hr hp;obtain⟨y,h5,h6,h7⟩:=oW (nx:=0) (c:=kJ) hr.hr hl hc h2 h3;refine⟨y,?_,h6,h7,(jk hc).2.2.2⟩;have h1:bv s1.bS t=some x:=h1;simp only[nQ,h1];cases x with
    |c pc=>
     simp only[bD]at h5;split at h5
     .rename_i z aj hz;obtain⟨rfl,_⟩:=ad (aa h5);simp only[hz]
     .simp at h5
    |_=>simp[bD]at h5
   .simp at h
  .simp at h
theorem AJ(hg:Mi){s1:St}{s:S2}(hr:R2 s1 s):∀(gu:List RV)(vs:List V),ER (Ep s) gu=some vs->∃xs,cD (gu.map (nQ s1))=some xs/\ig s.heap vs xs/\∀v∈vs,cX s.next s.heap v/\eT s.heap v=true:=by
 intro gu;induction gu with
 |nil=>intro vs h;obtain rfl:=aa h;exact⟨[],rfl,trivial,fun v hv=>by simp at hv⟩
 |cons r gu ih=>
  intro vs h;simp only[ER]at h;split at h
  .rename_i x y hx hy;obtain rfl:=aa h;obtain⟨x1,a1,a2,a3⟩:=Ae hg hr hx;obtain⟨xs,b1,b2,b3⟩:=ih y hy;refine⟨x1::xs,by simp only[am,cD,a1,b1],⟨a2,b2⟩,fun v hv=>?_⟩;rcases aE.1 hv with rfl|hv
   .exact a3
   .exact b3 v hv
  .simp at h
def Iu(al:Wy):Bool:=al.all fun w=>w.1.all (fun c=>fy (kQ c) 300)&&w.2.all (fun c=>fy (kQ c) 300&&!x5 c)
theorem AW(hg:Mi){s1:St}{s:S2}(hr:R2 s1 s){gu:List RV}{rs os:List Sh}{l:List V}(h:AX gu rs os s=some l)(hf1:rs.all (fun c=>fy (kQ c) 300)=true)(hf2:os.all (fun c=>fy (kQ c) 300&&!x5 c)=true):
  ∃rs0,my gu s1 rs0 (gC os (l.drop (eX rs).length))/\m9 (rs.map x5) rs0=jB rs (l.take (eX rs).length):=by
 unfold AX at h;split at h
 .rename_i vs hvs;split at h
  .rename_i l1 i m j h2 h3;obtain⟨hn,h⟩:=aD h;obtain rfl:=aa h;obtain⟨xs,a1,a2,a3⟩:=AJ hg hr gu vs hvs;obtain⟨e,rs0,aW,b1,b2,b3⟩:=xA hr.hr rs vs l1 i xs h2 a2 a3 hf1;obtain⟨own2,c1,c2⟩:=xz hr.hr os s.gh m j s1.gh h3 hr.gh.1 hr.gh.2 hf2;rw[<-e,List.take_left,List.drop_left];exact⟨rs0,⟨xs,aW,own2,a1,b1,c1,(b2.append c2).nodup (vE hn)⟩,b3⟩
  .simp at h
 .simp at h
section
variable{h1:aY}
theorem zT:∀(c:Sh)(l:List V)(w:V)(l':List V),uL c l=some (w,l')->kN w=some (ld c l).1/\l'=(ld c l).2:=by
 intro c;induction c with
 |ni=>intro l w l' h;obtain⟨rfl,rfl⟩:=ad (aa h);exact⟨rfl,rfl⟩
 |pr a c _ ih=>
  intro l w l' h;cases a with
  |pt t=>
   match l with
   |.x u v::l=>
    simp only[uL]at h;obtain⟨hc,hh⟩:=aD h;clear h;simp only[ae,decide_eq_true_eq]at hc;obtain⟨rfl,hd⟩:=hc;split at hh
    .rename_i w2 l2 hw;obtain⟨rfl,rfl⟩:=ad (aa hh);obtain⟨h2,h3⟩:=ih l w2 l2 hw;refine⟨?_,h3⟩;simp only[kN,hd,if_true,h2,ld]
    .simp at hh
   |[]|.kb _::_|.nl _::_|.so _::_|.sb _ _ _ _ _::_|.op _ _ _::_|.ep _ _ _ _::_|.pt _ _::_|.fn _ _ _::_|.om _::_|.rc _::_|.tp _::_|.ni::_|.co _ _::_|.fl _::_|.no::_|.gn::_=>simp[uL]at h
  |_=>simp[uL]at h
 |_=>intro l w l' h;simp[uL]at h
theorem Bg:∀{w:V}{ds:List D},kN w=some ds->ut w=true:=by
 intro w;induction w with
 |pt t v=>
  intro ds h;simp only[kN]at h;split at h
  .assumption
  .simp at h
 |ni=>intro ds _;rfl
 |co a r iha ihr=>
  intro ds h;simp only[kN]at h;split at h
  .rename_i x y hx hy;simp only[ut,iha hx,ihr hy,Bool.and_self]
  .simp at h
 |_=>intro ds h;simp[kN]at h
theorem FW{h:H2}{n:Nat}{i:Nat}{u:Ty}{v:El u}(hd:L_ u=true)(hs:(pS (.x u)||qI (.x u))=true):∃x,dD h (.x u v) x/\cX n h (.x u v)/\
  ∀(r:List A)(k:Nat),enter ((bif pS (.x u)then A.agg (aJ u v)else A.d ((aJ u v).headD default))::r) i k=((i,x)::(enter r (i+1) k).1,(enter r (i+1) k).2.1,(enter r (i+1) k).2.2.1,(enter r (i+1) k).2.2.2):=by
 cases hg:iS u with
 |true=>refine⟨.agg ((aJ u v).map .d),bA ⟨_,⟨hd,rfl⟩,fun _=>rfl,fun e=>(by rw[show mu (.x u v)=iS u from rfl,hg]at e;cases e)⟩,trivial,fun r k=>?_⟩;simp only[pS,hg,cond_true,enter]
 |false=>
  have h1:bn u=1:=by simpa[pS,hg,qI]using hs
  have hl:=bg u v;rw[h1]at hl
  match he:aJ u v,hl with|[d],_=>refine⟨.c (.d d),bA ⟨[.d d],⟨hd,by rw[he];rfl⟩,fun e=>(by rw[show mu (.x u v)=iS u from rfl,hg]at e;cases e),fun _=>⟨_,rfl,rfl⟩⟩,trivial,fun r k=>?_⟩;simp only[pS,hg,cond_false,enter,bd]
theorem pz{α:Type}{a t:Nat}{x:α}{l:List (Nat×α)}(h:a≠t):bv ((a,x)::l) t=bv l t:=by simp only[bv];rw[show(a==t)=false by simpa using h,cond_false]
theorem ky{α:Type}{a:Nat}{x:α}{l:List (Nat×α)}:bv ((a,x)::l) a=some x:=by simp[bv]
theorem A5:∀(ps:List (Bool×Sh))(i:Nat)(l:List V)(s:S2)(h1:aY)(e:List (Nat×V))(s':S2),ml ps i l s=some (e,s')->tL ps=true->HR s.next h1 s.heap->s.gh=.ni->
  HR s'.next ((enter (ez ps l) i s.next).2.1++h1) s'.heap/\fF s.next s.heap s'.heap/\s.next<=s'.next/\(∀p∈(enter (ez ps l) i s.next).2.1,s.next<=p.1/\p.1<s'.next)/\
  (∀t v,bv e t=some v->cX s'.next s'.heap v/\∃x,bv (enter (ez ps l) i s.next).1 t=some x/\dD s'.heap v x)/\
  s'.next=(enter (ez ps l) i s.next).2.2.1/\Bv s'.heap s'.gh (enter (ez ps l) i s.next).2.2.2/\cX s'.next s'.heap s'.gh:=by
 intro ps;induction ps with
 |nil=>
  intro i l s h1 e s' he _ hr hg;cases l with
  |cons=>simp[ml]at he
  |nil=>
   obtain⟨rfl,rfl⟩:=ad (aa he);simp only[ez,enter,bc];refine⟨hr,fF.refl _ _,ai _,fun p hp=>by simp at hp,fun t v h=>by simp[bv]at h,trivial,?_,?_⟩
   .rw [hg];rfl
   .rw [hg];trivial
 |cons p ps ih=>
  obtain⟨b,c⟩:=p;intro i l s h1 e s' he hp hr hg;simp only[tL,ae]at hp;obtain⟨hc,hps⟩:=hp
  -- data: one Oy temporary
  have data:∀(l2:List V)(w:V)(a:A)(x:TV),ez ((b,c)::ps) l=a::ez ps l2->(∀(r:List A)(k:Nat),enter (a::r) i k=((i,x)::(enter r (i+1) k).1,(enter r (i+1) k).2.1,(enter r (i+1) k).2.2.1,(enter r (i+1) k).2.2.2))->
    (∀h,dD h w x)->(∀n h,cX n h w)->(match ml ps (i+1) l2 s with|some (e,s)=>some ((i,w)::e,s)|none=>none)=some (e,s')->
    HR s'.next ((enter (ez ((b,c)::ps) l) i s.next).2.1++h1) s'.heap/\fF s.next s.heap s'.heap/\s.next<=s'.next/\(∀p∈(enter (ez ((b,c)::ps) l) i s.next).2.1,s.next<=p.1/\p.1<s'.next)/\
    (∀t v,bv e t=some v->cX s'.next s'.heap v/\∃x,bv (enter (ez ((b,c)::ps) l) i s.next).1 t=some x/\dD s'.heap v x)/\
    s'.next=(enter (ez ((b,c)::ps) l) i s.next).2.2.1/\Bv s'.heap s'.gh (enter (ez ((b,c)::ps) l) i s.next).2.2.2/\cX s'.next s'.heap s'.gh:=by
   intro l2 w a x ha hen hx hk he;split at he
   .rename_i e1 s1 h2;obtain⟨rfl,rfl⟩:=ad (aa he);obtain⟨a1,a2,a3,a4,a5,a6,a7,a8⟩:=ih (i+1) l2 s h1 e1 s1 h2 hps hr hg;rw[ha,hen];refine⟨a1,a2,a3,a4,fun t v h=>?_,a6,a7,a8⟩;by_cases et:i=t
    .subst et;rw[ky]at h;obtain rfl:=aa h;exact⟨hk _ _,x,ky,hx _⟩
    .rw [pz et]at h|-;exact a5 t v h
   .simp at he
  cases b with
  |true=>
   simp only[cond_true,ae]at hc;simp only[ml]at he;split at he
   .rename_i w l2 s1 hm;split at he
    .rename_i e1 s2 h2;obtain⟨rfl,rfl⟩:=ad (aa he);obtain⟨g1,g2,g3,g4,g5,_⟩:=Nf c false l s w l2 s1 h1 hm hr;have hone:qI c=true:=by have:=hc.1;cases c<;>simp[Nh]at this<;>rfl
     have hlen:=uh hm hone
     match ht:(df c l).1,hlen with
     |[t0],_=>
      have hu:eW s.next [t0]=([(gJ s.next t0).1],(gJ s.next t0).2.1++[],(gJ s.next t0).2.2):=rfl;rw[ht,hu]at g1 g3 g4;simp only[eI]at g1 g3 g4;obtain⟨k1,k2,k3,k4,k5,k6,_⟩:=g3;obtain⟨a1,a2,a3,a4,a5,a6,a7,a8⟩:=ih (i+1) l2 s1 ((gJ s.next t0).2.1++h1) e1 s2 h2 hps k1 (k4.trans hg);have hen:enter (ez ((true,c)::ps) l) i s.next=((i,.c (gJ s.next t0).1)::(enter (ez ps l2) (i+1) s1.next).1,(gJ s.next t0).2.1++(enter (ez ps l2) (i+1) s1.next).2.1,(enter (ez ps l2) (i+1) s1.next).2.2.1,(gJ s.next t0).1::(enter (ez ps l2) (i+1) s1.next).2.2.2):=by simp only[ez,ht,bd,<-g5,enter,<-g4]
      rw[hen];have hk:=WI a3 a2 g2;have hcel:=gV a2 g2 g1;refine⟨a1.ext fun j=>oU (fun p hp q hq e=>?_) j,fF.trans k5 k2 a2,cZ k5 a3,fun p hp=>?_,fun t v h=>?_,a6,⟨_,_,rfl,fun _=>hcel,a7⟩,⟨hk,a8⟩⟩
      .have:=(k6 p hp).2;have:=(a4 q hq).1;omega
      .rcases ah.1 hp with hp|hp
       .exact ⟨(k6 p hp).1,Nat.lt_of_lt_of_le (k6 p hp).2 a3⟩
       .exact ⟨cZ k5 (a4 p hp).1,(a4 p hp).2⟩
      .by_cases et:i=t
       .subst et;rw[ky]at h;obtain rfl:=aa h;refine⟨hk,_,ky,?_⟩;have hag:mu w=false:=by have:=Nf c false l s w l2 s1 h1 hm hr;rw[this.2.2.2.2.2 rfl];have:=hc.1;cases c<;>simp[Nh]at this<;>rfl
        exact bA ⟨_,hcel,fun e=>(by rw[hag]at e;cases e),fun _=>⟨_,rfl,rfl⟩⟩
       .rw [pz et]at h|-;exact a5 t v h
    .simp at he
   .simp at he
  |false=>
   simp only[cond_false,ae]at hc;cases c with
   |x t=>
    match l,he with
    |.x u v::l,he=>
     simp only[ml]at he;obtain⟨hd,he2⟩:=aD he;simp only[ae,decide_eq_true_eq]at hd;obtain⟨rfl,hd⟩:=hd;obtain⟨x,_,_,h3⟩:=FW (h:=[]) (n:=0) (i:=i) (v:=v) hd hc.1
     have hx:∀h,dD h (.x u v) x:=fun h=>by
      obtain⟨x',h1,_,h3'⟩:=FW (h:=h) (n:=0) (i:=i) (v:=v) hd hc.1;have e1:=h3 [] 0;rw[h3' [] 0]at e1;have:x'=x:=by have:=(ad e1).1;exact(ad (List.cons.inj this).1).2
      rw[<-this];exact h1
     exact data l (.x u v) _ x rfl h3 hx (fun _ _=>trivial) he2
    |[],he|.kb _::_,he|.nl _::_,he|.so _::_,he|.sb _ _ _ _ _::_,he|.op _ _ _::_,he|.ep _ _ _ _::_,he|.pt _ _::_,he|.fn _ _ _::_,he|.om _::_,he|.rc _::_,he|.tp _::_,he|.ni::_,he|.co _ _::_,he|.fl _::_,he|.no::_,he|.gn::_,he=>simp[ml]at he
   |pt t=>match l,he with|.x u v::l,he=>simp only[ml]at he;obtain⟨hd,he2⟩:=aD he;simp only[ae,decide_eq_true_eq]at hd;obtain⟨rfl,hd⟩:=hd;refine data l (.pt u v) (.d (.pt (aJ u v))) (.c (.d (.pt (aJ u v)))) rfl (fun r k=>by simp only[enter]) (fun h=>bA (cn rfl ⟨hd,rfl⟩)) (fun _ _=>trivial) he2|[],he|.kb _::_,he|.nl _::_,he|.so _::_,he|.sb _ _ _ _ _::_,he|.op _ _ _::_,he|.ep _ _ _ _::_,he|.pt _ _::_,he|.fn _ _ _::_,he|.om _::_,he|.rc _::_,he|.tp _::_,he|.ni::_,he|.co _ _::_,he|.fl _::_,he|.no::_,he|.gn::_,he=>simp[ml]at he
   |nl k=>
    have he:(match ml ps (i+1) l s with|some (e,s)=>some ((i,V.nl k)::e,s)|none=>none)=some (e,s'):=by cases l<;>exact he
    refine data l (.nl k) (.d (FN k)) (.c (.d (FN k))) (by cases l<;>rfl) (fun r k=>by simp only[enter]) (fun h=>bA (cn rfl rfl)) (fun _ _=>trivial) he
   |fn f c2=>
    have he:(match uL c2 l with|some (w,l)=>(match ml ps (i+1) l s with|some (e,s)=>some ((i,V.fn true f w)::e,s)|none=>none)|none=>none)=some (e,s'):=by cases l<;>exact he
    split at he
    .rename_i w l2 hw;obtain⟨h2,rfl⟩:=zT c2 l w l2 hw;refine data _ (.fn true f w) (.d (.fn f (ld c2 l).1)) (.c (.d (.fn f (ld c2 l).1))) (by cases l<;>rfl) (fun r k=>by simp only[enter]) (fun h=>bA (cn rfl ⟨_,h2,rfl⟩)) (fun n h=>?_) he;exact(rG (h:=h) w (Bg h2)).2 n
    .simp at he
   |_=>cases l<;>simp[ml]at he
theorem A4{ps:List (Bool×Sh)}{l:List V}{s:S2}(h:Hj ps l=some s)(hp:tL ps=true):R2 (iP (ez ps l)) s:=by
 unfold Hj at h;split at h
 .rename_i e s1 he;obtain rfl:=aa h;obtain⟨a1,a2,a3,a4,a5,a6,a7,a8⟩:=A5 ps 0 l ⟨[],[],0,[],.ni⟩ [] e s1 he hp ⟨fun i o ho=>by simp[fO,bv]at ho⟩ rfl;rw[eI]at a1;exact⟨fun t v ht=>⟨(a5 t v ht).1,fun _=>(a5 t v ht).2⟩,a1,Kp a6.symm,a7,a8⟩
 .simp at h
end
theorem A6:∀(ps:List (Bool×Sh))(l:List V),(ez ps l).length=ps.length:=by intro ps;induction ps with|nil=>intro l;rfl|cons p ps ih=>obtain⟨b,c⟩:=p;intro l;cases b<;>simp[ez,ih]
theorem Ds{P:Program}{QC:pT}{nt:Nat}{an:List (Nat×An)}:∀(c:Code)(n:Nat)(s:St)(Q:kP->St->Prop),W P (iW (j7 P QC nt an c n).1) s Q->W P (kf P QC nt c) s Q:=by
 intro c;induction c with
 |skip=>intro n s Q h;exact h
 |exit id=>intro n s Q h;exact h
 |ret=>intro n s Q h;exact h
 |region o ops draw=>
  intro n s Q h;have hm:(ops.toList.map (GI P QC nt ops)).map (·.o)=ops.toList.map (QL P QC nt ops):=by rw[gX];rfl
  cases draw with
  |false=>simp only[j7,aG,if_false,iW,hm]at h;simpa only[kf,aG,if_false]using h
  |true=>
   simp only[j7,if_true]at h;simp only[kf,if_true,pf];split at h
   .rename_i hc;simp only[iW,hm]at h;rw[if_pos (by simpa using hc)];exact h
   .exact h.elim
 |seq a b iha ihb=>intro n s Q h;simp only[j7,iW]at h;exact iha _ s _ (W.mono (nd.mono (fun s1 h1=>ihb _ s1 Q h1) fun _ _ h=>h) h)
 |cond x a b iha ihb=>intro n s Q h;simp only[j7,iW]at h;obtain⟨s1,h0,t,h1,h2,h3⟩:=h;exact⟨s1,h0,t,h1,fun ht=>iha _ s1 Q (h2 ht),fun ht=>ihb _ s1 Q (h3 ht)⟩
 |block id a ih=>intro n s Q h;simp only[j7,iW]at h;exact ih _ s _ h
 |loop a ih=>
  intro n s Q h;simp only[j7]at h;split at h
  .simp only[iW]at h;obtain⟨I,m,h1,h2⟩:=h;exact⟨I,m,h1,fun k s1 hI=>ih _ s1 _ (h2 k s1 hI)⟩
  .exact h.elim
 |scope a ih=>intro n s Q h;exact ih _ s Q h
 |label l=>intro n s Q h;exact h
 |_=>intro n s Q h;exact h.elim
theorem yt{P:Program}{QC:pT}{f np:Nat}{an:List (Nat×An)}{F:F2}(h:sX P QC f np an=some F):∃G,nD P QC f np=some G/\G.np=np/\G.gu=F.gu/\∀s Q,W P (iW F.body) s Q->W P G.body s Q:=by
 unfold sX at h;split at h
 .simp at h
 rename_i g hg;split at h
 .simp at h
 rename_i code hb;split at h
 case isFalse=>simp at h
 rename_i hc;split at h
 case h_2=>simp at h
 rename_i gu hrv;obtain rfl:=aa h;unfold nD;simp only[hg,hb,hrv];rw[if_pos (by simpa using hc)];exact⟨_,rfl,rfl,rfl,fun s Q hw=>Ds code 0 s Q hw⟩
theorem aaP{gu:List RV}:∀(al:Wy)(z:ou al),∃r o l,(r,o)∈al/\(∀s,E2 gu s al=some z->AX gu r o s=some l)/\∀Q:List Sh->List Sh->List V->Prop,Q r o l->D3 Q al z:=by
 have key:∀(w:Wy)(r o:List Sh)(z:ou.yN r o w),∃r' o' l,(r',o')∈(r,o)::w/\(∀s,AY gu s r o w=some z->AX gu r' o' s=some l)/\∀Q:List Sh->List Sh->List V->Prop,Q r' o' l->D2 Q r o w z:=by
  intro w;induction w with
  |nil=>
   intro r o z;refine⟨r,o,jC (eX r++eX o) z,by simp,fun s hz=>?_,fun Q hQ=>hQ⟩;simp only[AY]at hz;split at hz
   .rename_i l hl;rw[ko _ _ _ hz];exact hl
   .simp at hz
  |cons p w ih=>
   obtain⟨r',o'⟩:=p;intro r o z;cases z with
   |inl y=>
    refine⟨r,o,jC (eX r++eX o) y,by simp,fun s hz=>?_,fun Q hQ=>hQ⟩;simp only[AY]at hz;split at hz
    .rename_i l hl;split at hz
     .rename_i y2 hy;have e:y2=y:=by have:=aa hz;cases this;rfl
      subst e;rw[ko _ _ _ hy];exact hl
     .simp at hz
    .split at hz
     .have:=aa hz;cases this
     .simp at hz
   |inr y=>
    obtain⟨r2,o2,l,h1,h2,h3⟩:=ih r' o' y;refine⟨r2,o2,l,aq _ h1,fun s hz=>?_,fun Q hQ=>h3 Q hQ⟩;simp only[AY]at hz;split at hz
    .split at hz
     .have:=aa hz;cases this
     .simp at hz
    .split at hz
     .rename_i y2 hy;have e:y2=y:=by have:=aa hz;cases this;rfl
      subst e;exact h2 s hy
     .simp at hz
 intro al z;cases al with|nil=>exact nomatch z|cons p w=>exact key w p.1 p.2 z
theorem Dh{P:Program}(hm:P.follows .mixedOrders=true){QC:pT}{f np:Nat}{an:List (Nat×An)}{F:F2}{tb:wK}(htb:ke P tb)(hg:Mi)(hF:sX P QC f np an=some F){ps:List (Bool×Sh)}{al:Wy}(hnp:ps.length=np)(hps:tL ps=true)(hal:Iu al=true)
  {p:kO (eX (ps.map (·.2)))} {z:ou al} (hz:Ix tb (some F) ps al p=some z):
  D3 (fun rs os l=>ow P f (ez ps (jC (eX (ps.map (·.2))) p)) (jB rs (l.take (eX rs).length)) (gC os (l.drop (eX rs).length))) al z:=by
 obtain⟨G,hG,hGn,hGr,hGb⟩:=yt hF;simp only[Ix]at hz;split at hz
 case h_2=>simp at hz
 rename_i s hs;have hr:=A4 hs hps
 -- the ways that the run may end in
 have hend:∀o s1',H8 (iC F.body) (iP (ez ps (jC _ p))) s (fun o s=>match o with|.exit _=>none|_=>E2 F.gu s al) z o s1'->wk (fun s1''=>∃s',R2 s1'' s'/\s1''.gh.length=(iP (ez ps (jC _ p))).gh.length/\(∀i,o≠.exit i)/\E2 F.gu s' al=some z) s1':=by
  intro o s1' h;refine wk.mono h fun s1''⟨s',h1,⟨w,h2,h3⟩,h4⟩=>⟨s',h1,h3.gl,fun i e=>?_,?_⟩
  .subst e;simp at h4
  .cases o with|exit i=>simp at h4|_=>exact h4
 have hW:=W.mono hend (A0 htb hg F.body _ s _ z hz hr);obtain⟨r,o,l,h1,h2,h3⟩:=aaP (gu:=F.gu) al z;refine h3 _ (zG hm hG (m:=r.map x5) ⟨?_,hGb _ _ (W.mono (fun ku s1' h=>?_) hW)⟩)
 .rw [A6,hnp,hGn]
 .have hf:=aL.1 hal (r,o) h1;simp only[ae]at hf;have fin:wk (fun s=>s.gh.length=(iP (ez ps (jC (eX (ps.map (·.2))) p))).gh.length/\∃rs0,my G.gu s rs0 (gC o (l.drop (eX r).length))/\m9 (r.map x5) rs0=jB r (l.take (eX r).length)) s1':=by refine wk.mono h fun s1''⟨s',k1,k2,_,k4⟩=>⟨k2,?_⟩;rw[hGr];exact AW hg k1 (h2 s' k4) hf.1 hf.2
  cases ku with|normal=>exact fin|ret=>exact fin|exit i=>obtain⟨_,_,_,_,_,k,_⟩:=h;exact absurd rfl (k i)
theorem iF{P:Program}(hm:P.follows .mixedOrders=true)(hg:Mi){QC:pT}{f np:Nat}{an:List (Nat×An)}{tb:wK}(htb:ke P tb){sp:pE}
  (h1:(D1 sp&&eL sp.ps.length np&&Iu sp.al)=true) (h3:(fun p=>Ix tb (sX P QC f np an) sp.ps sp.al p)=sp.fn):gg P f sp:=by
 simp only[ae]at h1;obtain⟨⟨h4,h5⟩,h6⟩:=h1;refine⟨h4,fun p z hz=>?_⟩;have hp:tL sp.ps=true:=by simp only[D1,ae]at h4;exact h4.1.1.2
 rw[<-h3]at hz;have hz:Ix tb (sX P QC f np an) sp.ps sp.al p=some z:=hz;cases hF:sX P QC f np an with|none=>rw[hF]at hz;simp[Ix]at hz|some F=>rw[hF]at hz;exact Dh hm htb hg hF (br h5) hp h6 hz
theorem G2(h:∀g,G3 g=none):Mi:=fun g v hg=>by rw[h g]at hg;simp at hg
open Go.ChangeShapes Go.WideShapes Go.ChangeAt Go.RowKit
def pL:(t:Ty)->El t->Prop
 |.i k,x=>k.min<=x/\x<=k.max
 |.s,s=>s.size<=maxLen
 |.f k,b=>(Lit.float k b).wf=true
 |.sl t,s=>s.l.length<=maxLen/\∀x∈s.l,pL t x
 |.pr a c,v=>pL a v.1/\pL c v.2
 |.st t,v=>pL t v
 |.ar _ t,v=>∀x∈v.1,pL t x
 |_,_=>True
def Ax(P:Program)(ok:TypeId->Bool)(sz:TypeId->Nat):List Field->Nat->Nat->Bool
 |[],off,Gm=>eL off Gm
 |f::r,off,Gm=>ok f.type&&eL f.offset off&&eL (P.cellsOf f.type) (sz f.type)&&Ax P ok sz r (off+sz f.type) Gm
def zj(P:Program):Nat->TypeId->Bool
 |0,_=>false
 |n+1,t=>match P.underlying t with|some (.int _)|some .bool|some .string|some (.float _)=>true|some (.slice e)=>zj P n e&&Nat.blt 0 (bn (cP P n e))&&eL (P.cellsOf e) (bn (cP P n e))|some (.struct fs)=>Ax P (zj P n) (fun t=>bn (cP P n t)) fs.toList 0 (P.cellsOf t)|some (.array m e)=>zj P n e&&eL (P.cellsOf e) (bn (cP P n e))&&eL (P.cellsOf t) (m*bn (cP P n e))|_=>false
theorem B8{P:Program}:∀(n:Nat)(t:TypeId),zj P n t=true->li P t (aJ (cP P n t)) (pL (cP P n t)):=by
 intro n;induction n with
 |zero=>intro t h;simp[zj]at h
 |succ n ih=>
  intro t h;simp only[zj]at h;split at h
  .rename_i k hu;rw[show cP P (n+1) t=.i k by simp only[cP,hu]];exact Ar hu
  .rename_i hu;rw[show cP P (n+1) t=.b by simp only[cP,hu]];exact xL hu
  .rename_i hu;rw[show cP P (n+1) t=.s by simp only[cP,hu]];exact tO hu
  .rename_i k hu;rw[show cP P (n+1) t=.f k by simp only[cP,hu]];exact vp hu
  .rename_i e hu;simp only[ae]at h;obtain⟨⟨h1,h2⟩,h3⟩:=h;rw[show cP P (n+1) t=.sl (cP P n e)by simp only[cP,hu]];exact vo (enc:=aJ (cP P n e)) hu (br h3) (by simpa[Nat.blt_eq]using h2) (fun a=>bg _ a) (ih e h1)
  .rename_i fs hu;rw[show cP P (n+1) t=.st (cP.IJ (fs.toList.map fun f=>cP P n f.type))by simp only[cP,hu]];intro H en w fuel cs x hx;have hl:=xa hu hx
   have key:∀(suf:List Field)(i off:Nat),(∀j,fs[i+j]?=suf[j]?)->Ax P (zj P n) (fun t=>bn (cP P n t)) suf off (P.cellsOf t)=true->
     ∃v:El (cP.IJ (suf.map fun f=>cP P n f.type)),pL _ v/\gF w (cs.drop off) (aJ _ v):=by
    intro suf;induction suf with
    |nil=>intro i off _ hok;have e:=br hok;exact⟨(),trivial,gF.nil (by rw[ew,hl,e];omega)⟩
    |cons f r ihr=>
     intro i off hi hok;simp only[Ax,ae]at hok;obtain⟨⟨⟨k1,k2⟩,k3⟩,k4⟩:=hok;have k2:=br k2;have k3:=br k3;have hf:fs[i]?=some f:=by have:=hi 0;simpa using this
     obtain⟨a,f1,c1⟩:=vq hu hx hf (ih f.type k1);rw[k2,k3]at c1;obtain⟨v,f2,c2⟩:=ihr (i+1) (off+bn (cP P n f.type)) (fun j=>by have:=hi (j+1);rw[show i+1+j=i+(j+1)by omega,this];rfl) k4
     have hle:off+bn (cP P n f.type)<=cs.length:=by
      have hmono:∀(suf:List Field)(off:Nat),Ax P (zj P n) (fun t=>bn (cP P n t)) suf off (P.cellsOf t)=true->off<=P.cellsOf t:=by intro suf;induction suf with|nil=>intro off h;exact Kp (br h)|cons g r ih=>intro off h;simp only[Ax,ae]at h;have:=ih _ h.2;omega
      rw[hl];exact hmono r _ k4
     have hfield:=gF.field c1 rfl c2 hle;cases r with|nil=>have e:aJ (cP.IJ (([]:List Field).map fun f=>cP P n f.type)) v=[]:=rfl;rw[e,eI]at hfield;exact⟨a,f1,hfield⟩|cons g r=>exact⟨(a,v),⟨f1,f2⟩,hfield⟩
   obtain⟨v,f1,c1⟩:=key fs.toList 0 0 (fun j=>by simp) h;exact⟨v,f1,by rw[cA]at c1;exact c1⟩
  .rename_i m e hu;simp only[ae]at h;obtain⟨⟨h1,h2⟩,h3⟩:=h;have h2:=br h2;have h3:=br h3;rw[show cP P (n+1) t=.ar m (cP P n e)by simp only[cP,hu]];intro H en w fuel cs x hx;have hl:=Bp hu hx
   have key:∀j,j<=m->∃l:List (El (cP P n e)),l.length=j/\(∀y∈l,pL _ y)/\gF w (cs.drop ((m-j)*bn (cP P n e))) (l.flatMap (aJ (cP P n e))):=by
    intro j;induction j with
    |zero=>intro _;exact⟨[],rfl,fun y hy=>by simp at hy,gF.nil (by rw[ew,hl,h3];simp)⟩
    |succ j ihj=>
     intro hj;obtain⟨l,l1,l2,l3⟩:=ihj (by omega);obtain⟨a,f1,c1⟩:=xK hu hx (i:=m-(j+1)) (by omega) (ih e h1);rw[h2]at c1;have hs:(m-(j+1))*bn (cP P n e)+bn (cP P n e)=(m-j)*bn (cP P n e):=by rw[show m-j=(m-(j+1))+1 by omega,Nat.succ_mul]
     refine⟨a::l,by simp[l1],fun y hy=>?_,?_⟩
     .rcases aE.1 hy with rfl|hy
      .exact f1
      .exact l2 y hy
     .rw [List.flatMap_cons];refine gF.field c1 hs l3 ?_;rw[hl,h3];exact Nat.mul_le_mul_right _ (by omega)
   obtain⟨l,l1,l2,l3⟩:=key m (ai _);rw[Nat.sub_self,Nat.zero_mul,cA]at l3;exact⟨⟨l,l1⟩,l2,l3⟩
  .simp at h
def wP:List Ty->List V->Prop
 |[],l=>l=[]
 |a::r,l=>∃(v:El a)(m:List V),l=.x a v::m/\pL a v/\wP r m
theorem zM{a:Ty}(v:El a):nc a (.x a v)=some v:=by simp[nc,dT]
theorem wP.fm:∀{cs:List Ty}{l:List V},wP cs l->∃p,oJ cs l=some p/\jC cs p=l:=by
 have key:∀(r:List Ty)(a:Ty)(l:List V),wP (a::r) l->∃p,w8 a r l=some p:=by intro r;induction r with|nil=>rintro a l ⟨v,m,rfl,_,hm⟩;have hm:m=[]:=hm;subst hm;exact⟨v,zM v⟩|cons c r ih=>rintro a l ⟨v,m,rfl,_,hm⟩;obtain⟨p,hp⟩:=ih c m hm;refine⟨(v,p),?_⟩;show zX (nc a (.x a v)) (w8 c r m)=_;rw[zM,hp];rfl
 intro cs l h;cases cs with|nil=>have h:l=[]:=h;subst h;exact⟨(),rfl,rfl⟩|cons a r=>obtain⟨p,hp⟩:=key r a l h;exact⟨p,hp,ko (a::r) l p hp⟩
theorem HK{P:Program}{n:Nat}{t:TypeId}(ho:zj P n t=true)(h1:(iS (cP P n t)||eL (bn (cP P n t)) 1)=true){w:World}{r:Reach}{b:Nat}{v:Value}(hv:Value.okWide P w r b t v)
  {H:Type} {en:TypeId×Value->H} {x:DataW H} {ps:List MemPlace} (h:DataW.Trod en P w 0 (fun _=>true) true t v x ps):∃a:El (cP P n t),pL _ a/\RA (S0 w) w (bif iS (cP P n t)then .agg (aJ _ a)else .d ((aJ _ a).headD default)) v []:=by
 have hop:=B8 n t ho;cases hag:iS (cP P n t)with
 |true=>
  simp only[cond_true];cases n with
  |zero=>simp[zj]at ho
  |succ n=>
   simp only[zj]at ho;split at ho
   .rename_i hu;simp[cP,hu,iS]at hag
   .rename_i hu;simp[cP,hu,iS]at hag
   .rename_i hu;simp[cP,hu,iS]at hag
   .rename_i hu;simp[cP,hu,iS]at hag
   .rename_i hu;simp[cP,hu,iS]at hag
   .rename_i fs hu;exact Fy hop hv hu h
   .rename_i m e hu;exact Fx hop hv hu h
   .simp at ho
 |false=>
  simp only[cond_false];have hsz:bn (cP P n t)=1:=by rw[hag,Bool.false_or]at h1;exact br h1
  have he:(fun a=>[(aJ (cP P n t) a).headD default])=aJ (cP P n t):=by
   funext a;have hl:=bg (cP P n t) a;rw[hsz]at hl
   match hh:aJ (cP P n t) a,hl with|[d],_=>rfl
  have hs:match P.underlying t with|some (.struct _)|some (.array _ _)|some (.interface _)|some (.func ..)|some (.chan ..)|some .unsafePointer|some (.map _ _)=>False|_=>True:=by
   cases n with
   |zero=>simp[zj]at ho
   |succ n=>
    simp only[zj]at ho;split at ho
    .rename_i hu;rw[hu];trivial
    .rename_i hu;rw[hu];trivial
    .rename_i hu;rw[hu];trivial
    .rename_i hu;rw[hu];trivial
    .rename_i hu;rw[hu];trivial
    .rename_i fs hu;simp[cP,hu,iS]at hag
    .rename_i m e hu;simp[cP,hu,iS]at hag
    .simp at ho
  exact IN (d:=fun a=>(aJ (cP P n t) a).headD default) (fit:=pL (cP P n t)) (by rw[he];exact hop) hv hs h
def IT(P:Program)(ts:List TypeId):Bool:=ts.all fun t=>zj P A7 t&&(iS (cP P A7 t)||eL (bn (cP P A7 t)) 1)
theorem Fw{P:Program}{W:World}{aF:Nat}{H:Type}{en:TypeId×Value->H}:∀(ts:List TypeId)(vs:List Value)(ds:List (DataW H))(ps:List MemPlace),DataW.TrodAll en P W 0 (fun _=>true) true ts vs ds ps->IT P ts=true->
  (∀(j:Nat)t v,ts[j]?=some t->vs[j]?=some v->Value.okWide P W .any aF t v)->∃l,wP (ts.map (cP P A7)) l/\D0 (S0 W) W (ez (ts.map fun t=>(false,Sh.x (cP P A7 t))) l) vs []:=by
 intro ts;induction ts with
 |nil=>intro vs ds ps h _ _;cases vs with|nil=>exact⟨[],rfl,rfl⟩|cons=>cases ds<;>exact h.elim
 |cons t ts ih=>
  intro vs ds ps h hok hv;cases vs with
  |nil=>cases ds<;>exact h.elim
  |cons v vs=>cases ds with|nil=>exact h.elim|cons d ds=>obtain⟨p,q,h1,h2,rfl⟩:=h;simp only[IT,dC,ae]at hok;obtain⟨a,f1,r1⟩:=HK hok.1.1 (by simpa using hok.1.2) (hv 0 t v rfl rfl) h1;obtain⟨l,f2,r2⟩:=ih vs ds q h2 (by simpa[IT]using hok.2) fun j t' v' ht hv'=>hv (j+1) t' v' (by simpa using ht) (by simpa using hv');exact⟨.x _ a::l,⟨a,l,rfl,f1,f2⟩,[],[],rfl,r1,r2⟩
theorem Hu:∀(tys:List Ty),eX ((tys.map fun t=>(false,Sh.x t)).map (·.2))=tys:=by intro tys;induction tys with|nil=>rfl|cons a r ih=>show a::eX ((r.map fun t=>(false,Sh.x t)).map (·.2))=a::r;rw[ih]
theorem Bb{P:Program}{f:FuncId}{fn:Func}{s:ChangeSpec}{Mh dP handsOn again:Bool}{tb:TypeId}{H:Type}{en:TypeId×Value->H}(hl:laidOutB P=true)(hfn:P.funcs[f]?=some fn)(hbody:fn.body.isSome=true)(hname:(fn.name== "runtime.NumGoroutine")=false)
  (hts:fn.params.toList.all (fun t=>P.readableRec t&&decide (t<P.types.size))=true) (hrt:fn.resultTypes= #[tb]) (htb:P.underlying tb=some .bool) (hvars:s.vars=[])
  {W:World} {args:Array Value} {ds gs:List (DataW H)} {cV:List MemPlace} (hW:DataW.Whole en P fn.params.toList s.vars Mh W args.toList ds gs cV)
  (hspec:(s.fn H (ds++gs)).results=[.lit (.bool true)]/\(s.fn H (ds++gs)).args=ds/\(s.fn H (ds++gs)).vars=[])
  (hgl:uz (S0 W) W) {aF:Nat} (hval:∀(j:Nat)t v,fn.params[j]?=some t->args[j]?=some v->Value.okWide P W .any aF t v)
  {tys:List Ty} (hty:fn.params.toList.map (cP P A7)=tys) (hok:IT P fn.params.toList=true) {ro:Bool} {ga:List Bool} {g:kO (eX ((tys.map fun t=>(false,Sh.x t)).map (·.2)))->Option (ou [([.x .b],[])])}
  (hsp:gg P f ⟨tys.map fun t=>(false,Sh.x t),[([.x .b],[])],ro,ga,g⟩) (law:∀p,wP (eX ((tys.map fun t=>(false,Sh.x t)).map (·.2))) (jC _ p)->g p=some true):
  Calls P f args W fun e W'=>∃v,e=.returned v/\s.post en P fn Mh dP handsOn again W args v W':=by
 have hW':=hW;obtain⟨p,q,hA0,hV,hpq,hfz,hnd⟩:=hW;have hA:DataW.TrodAll en P W 0 (fun _=>true) true fn.params.toList args.toList ds p:=hA0;obtain⟨l,h1,h2⟩:=Fw (aF:=aF) _ _ _ _ hA hok fun j t v ht hv=>hval j t v (by simpa using ht) (by simpa using hv);have h3:fn.params.toList.map (fun t=>(false,Sh.x (cP P A7 t)))=tys.map fun t=>(false,Sh.x t):=by rw[<-hty,gX];rfl
 rw[h3]at h2;rw[hty,<-Hu tys]at h1;obtain⟨pl,hp,hu⟩:=h1.fm;have hg:=hsp.2 pl true (law pl (by rw[hu];exact h1));rw[<-hu]at h2;exact Dr hl hfn hbody hname hts hrt htb hvars hW' hspec hgl ⟨_,h2,hg⟩
end Go.Ev
