/- Code: what is evaluated is what the abstract machine does. Conditions: as stated. -/
import Derived.Test.YthcplpfiidlinaaDoorKh
import Derived.Test.YthcplpfiidlinaaDoorEvY
open Bool renaming and_eq_true->ai,and_eq_true_iff->dm,false_eq_true->aX
open List renaming all_cons->iJ,all_eq_true->bq,append_nil->bR,cons_append->bd,drop_zero->ck,headD_cons->cg,length_append->ap,length_drop->gQ,map_cons->aD,map_map->lN,map_nil->bh,mem_append->au,mem_append_left->aG,mem_append_right->aI,mem_cons->aQ,mem_cons_of_mem->aF,nil_append->bw,nil_sublist->j5
open List.Sublist renaming refl->ci
open Nat renaming beq->kV,ble->i_,eq_of_beq_eq_true->dC,le_of_ble_eq_true->iZ,le_refl->aw,le_trans->fI
open Option.some renaming inj->aa
open Prod.mk renaming inj->ad
namespace Go.Ev
theorem Cn(j:J)(s0 s:S2):xO j s0 s=Br j s0 (Ar j.vs s):=rfl
theorem Cm{j:J}{s1':St}{s0 s':S2}{l:List V}(hr:R2 s1' s')(hc:xO j s0 s'=some l):∀i∈s'.wo,s0.next<=i\/i∈j.kl:=by
 obtain⟨s1c,_,_,wc,hwc,_⟩:=Bl j.vs s1' s' hr;rw[Cn]at hc;unfold Br at hc;split at hc
 case h_2=>simp at hc
 split at hc
 case h_2=>simp at hc
 split at hc
 case h_2=>simp at hc
 obtain⟨hchk,_⟩:=aR hc;simp only[ai,bq]at hchk;intro i hi;have:=hchk.1 i (by rw[hwc];simp[hi]);simpa[Nat.ble_eq]using this
theorem tR{j:J}{ds w:List Nat}{s1 s1':St}{s0 s' s'':S2}{l:List V}(hr0:R2 s1 s0)(hr:R2 s1' s')(hf:xG ds w s1 s1' s0 s')(hw:∀i∈w,s0.next<=i\/i∈j.kl)(hc:xO j s0 s'=some l)(hs:uY j ds s0 l=some s''):
  ∃s1'' w',Sub s1' s1''/\R2 s1'' s''/\s''.wo=w'++s0.wo/\xG ds w' s1 s1'' s0 s''/\∀i∈w',s0.next<=i\/i∈j.kl:=by
 obtain⟨s1c,hsub,hrc,wc,hwc,hfc⟩:=Bl j.vs s1' s' hr;have hc2:=hc;rw[Cn]at hc2
 have hwcc:∀i∈wc,s0.next<=i\/i∈j.kl:=by
  unfold Br at hc2;split at hc2
  case h_2=>simp at hc2
  split at hc2
  case h_2=>simp at hc2
  split at hc2
  case h_2=>simp at hc2
  obtain⟨hchk,_⟩:=aR hc2;simp only[ai,bq]at hchk;intro i hi;have:=hchk.1 i (by rw[hwc];simp[hi]);simpa[Nat.ble_eq]using this
 obtain⟨s1'',w',h1,h2,h3,h4,h5⟩:=PK (w:=wc++w) hr0 hrc (hf.trans (hfc.mono (fun t ht=>by simp at ht) fun i hi=>hi)) (fun i hi=>by
  rcases au.1 hi with hi|hi
  .exact hwcc i hi
  .exact hw i hi) (by rw[<-Cn];exact hc) hs
 exact⟨s1'',w',hsub.trans h1,h2,h3,h4,h5⟩
theorem Hc{β:Type}{s0 s':S2}{o:sR}{ds:List Nat}{k:sR->S2->Option β}{z:β}:∀(e:Ex)(x:EG e),IC s0 o s' e=some x->JY ds s0 k e x=some z->∃j∈e,∃l s'',xO j.2 s0 s'=some l/\uY j.2 ds s0 l=some s''/\k o s''=some z:=by
 have fin:∀(j:J)(p:rg (qu j))(l:List V),wq (qu j) l=some p->(match uY j ds s0 (px (qu j) p)with|some s=>k o s|none=>none)=some z->∃s'',uY j ds s0 l=some s''/\k o s''=some z:=by
  intro j p l h1 h2;rw[qz _ _ _ h1]at h2;split at h2
  .rename_i s'' hs;exact⟨s'',hs,h2⟩
  .simp at h2
 have key:∀(r:Ex)(o1:sR)(j:J)(x:EG.LW j r),KY s0 o s' o1 j r=some x->ON ds s0 k o1 j r x=some z->∃j'∈(o1,j)::r,∃l s'',xO j'.2 s0 s'=some l/\uY j'.2 ds s0 l=some s''/\k o s''=some z:=by
  intro r;induction r with
  |nil=>
   intro o1 j x hx hz;simp only[KY]at hx;obtain⟨ho,hx2⟩:=aR hx;clear hx;obtain rfl:o=o1:=by simpa using ho
   split at hx2
   .rename_i l hl;obtain⟨s'',h1,h2⟩:=fin j x l hx2 hz;exact⟨(o,j),by simp,l,s'',hl,h1,h2⟩
   .simp at hx2
  |cons q r ih=>
   obtain⟨o2,j2⟩:=q;intro o1 j x hx hz;simp only[KY]at hx;cases hd:decide (o=o1)with
   |true=>
    rw[hd,cond_true]at hx;obtain rfl:o=o1:=by simpa using hd
    split at hx
    .rename_i l hl;split at hx
     .rename_i p hp;obtain rfl:=aa hx;obtain⟨s'',h1,h2⟩:=fin j p l hp hz;exact⟨(o,j),by simp,l,s'',hl,h1,h2⟩
     .simp at hx
    .simp at hx
   |false=>
    rw[hd,cond_false]at hx;split at hx
    .rename_i y hy;obtain rfl:=aa hx;obtain⟨j',h1,h2⟩:=ih o2 j2 y hy hz;exact⟨j',aF _ h1,h2⟩
    .simp at hx
 intro e x hx hz;cases e with|nil=>exact nomatch x|cons q r=>exact key r q.1 q.2 x hx hz
def Qf{β:Type}(ds:List Nat)(s1:St)(s:S2)(k:sR->S2->Option β)(z:β)(o:sR)(s1':St):Prop:=wk (fun s1''=>∃s',R2 s1'' s'/\Fr ds s1 s1'' s s'/\k o s'=some z) s1'
theorem IP{P:Program}{tb:EF}(htb:qn P tb)(hg:mn):∀(c:C2){β:Type}(s1:St)(s:S2)(k:sR->S2->Option β)(z:β),xM tb c s k=some z->R2 s1 s->W P (nF c) s1 (Qf (mU c) s1 s k z):=by
 intro c;induction c with
 |skip=>intro β s1 s k z hz hr;exact wk.of (wk.of ⟨s,hr,Fr.refl,hz⟩)
 |exit id=>intro β s1 s k z hz hr;exact wk.of (wk.of ⟨s,hr,Fr.refl,hz⟩)
 |ret=>intro β s1 s k z hz hr;exact wk.of (wk.of ⟨s,hr,Fr.refl,hz⟩)
 |gi=>intro β s1 s k z hz hr;simp[xM]at hz
 |MD ops dr jn=>
  intro β s1 s k z hz hr;cases jn with
  |none=>refine W.mono (fun o s1' h=>?_) (Dg (jn:=none) htb hg (show Hh tb ops dr s (fun s=>k .normal s)=some z by simpa only[xM]using hz) hr);obtain⟨rfl,s',h1,h2,h3⟩:=h;exact wk.of ⟨s',h1,h2,h3⟩
  |some j=>
   simp only[xM]at hz;obtain⟨p,hp,hz⟩:=sG hz;refine W.mono (fun o s1' h=>?_) (Dg (jn:=some j) htb hg hp (hr.wo []));obtain⟨rfl,s',h1,⟨w,h2,h3⟩,h4⟩:=h;split at h4
   .rename_i l hl;rw[qz _ _ _ h4]at hz;split at hz
    .rename_i s'' hs;have hf:xG (ops.filterMap (·.o.dst)) w s1 s1' s s':=⟨h3.le,h3.eh,h3.gl,h3.ob,h3.dH⟩
     obtain⟨s1'',w',g1,g2,g3,g4,_⟩:=tR hr h1 hf (fun i hi=>Cm h1 hl i (by rw[h2];simp[hi])) hl hs;exact⟨s1'',g1,s'',g2,⟨w',g3,g4⟩,hz⟩
    .simp at hz
   .simp at h4
 |seq a b e iha ihb=>
  intro β s1 s k z hz hr;have go:∀(o:sR)(s1' s1'':St)(s':S2),Sub s1' s1''->R2 s1'' s'->Fr (mU a) s1 s1'' s s'->(match o with|.normal=>xM tb b s' k|o=>k o s')=some z->uK (fun s'=>W P (nF b) s' (Qf (mU (.seq a b e)) s1 s k z)) (Qf (mU (.seq a b e)) s1 s k z) o s1':=by intro o s1' s1'' s' hsub h1 h2 h3;have hda:∀t∈mU a,t∈mU (.seq a b e):=fun t ht=>aG _ ht;have hdb:∀t∈mU b,t∈mU (.seq a b e):=fun t ht=>aI _ ht;cases o with|normal=>refine W.sub hsub (W.mono (fun o s2 h=>?_) (ihb s1'' s' k z h3 h1));exact wk.mono h fun _⟨s3,g1,g2,g3⟩=>⟨s3,g1,(h2.mono hda).trans (g2.mono hdb),g3⟩|exit id=>exact⟨s1'',hsub,s',h1,h2.mono hda,h3⟩|ret=>exact⟨s1'',hsub,s',h1,h2.mono hda,h3⟩
  cases e with
  |nil=>simp only[xM]at hz;refine NR (W.mono (fun o s1' h=>?_) (iha s1 s _ z hz hr));obtain⟨s1'',hsub,s',h1,h2,h3⟩:=h;exact go o s1' s1'' s' hsub h1 h2 h3
  |cons q r=>
   simp only[xM]at hz;obtain⟨x,hx,hz⟩:=sG hz;refine NR (W.mono (fun o s1' h=>?_) (iha s1 {s with wo:=[]} _ x hx (hr.wo [])));obtain⟨s1'',hsub,s',h1,⟨w,h2,h3⟩,h4⟩:=h;obtain⟨j,_,l,s'',g1,g2,g3⟩:=Hc (q::r) x h4 hz;have hf:xG (mU a) w s1 s1'' s s':=⟨h3.le,h3.eh,h3.gl,h3.ob,h3.dH⟩
   obtain⟨s2,w',k1,k2,k3,k4,_⟩:=tR hr h1 hf (fun i hi=>Cm h1 g1 i (by rw[h2];simp[hi])) g1 g2;exact go o s1' s2 s'' (hsub.trans k1) k2 ⟨w',k3,k4⟩ g3
 |cond c a b iha ihb=>
  intro β s1 s k z hz hr;have hda:∀t∈mU a,t∈mU (.cond c a b):=fun t ht=>aG _ ht;have hdb:∀t∈mU b,t∈mU (.cond c a b):=fun t ht=>aI _ ht
  have go:∀t,kP s1.dH c=some (tB t)->(bif t then xM tb a s k else xM tb b s k)=some z->W P (nF (.cond c a b)) s1 (Qf (mU (.cond c a b)) s1 s k z):=by
   intro t hc hz;refine Ot (t:=t) hc (fun ht=>?_) fun ht=>?_
   .subst ht;exact W.mono (fun o s2 h=>wk.mono h fun _⟨s3,g1,g2,g3⟩=>⟨s3,g1,g2.mono hda,g3⟩) (iha s1 s k z hz hr)
   .subst ht;exact W.mono (fun o s2 h=>wk.mono h fun _⟨s3,g1,g2,g3⟩=>⟨s3,g1,g2.mono hdb,g3⟩) (ihb s1 s k z hz hr)
  simp only[xM]at hz;split at hz
  .rename_i t ht;obtain⟨x,h1,h2,_⟩:=oN hg hr ht;rw[wm h2]at h1;exact go t h1 hz
  .rename_i t ht;obtain⟨x,h1,h2,_⟩:=oN hg hr ht;rw[GO h2]at h1;exact go t h1 hz
  .simp at hz
 |block id a ih=>
  intro β s1 s k z hz hr;simp only[xM]at hz;refine Ma (W.mono (fun o s1' h=>?_) (ih s1 s _ z hz hr));cases o with
  |normal=>exact h
  |ret=>exact h
  |exit i=>
   simp only[wa];obtain⟨s1'',hsub,s',h1,h2,h3⟩:=h;by_cases e:i=id
   .subst e;rw[if_pos rfl];simp only[beq_self_eq_true,cond_true]at h3;exact⟨s1'',hsub,s',h1,h2,h3⟩
   .rw [if_neg e];have e':(i==id)=false:=by simpa using e
    simp only[e',cond_false]at h3;exact⟨s1'',hsub,s',h1,h2,h3⟩
 |loop j e a ih=>
  intro β s1 s k z hz hr;simp only[xM]at hz;obtain⟨hkl,hz⟩:=aR hz;have hkl:∀x∈e,∀i∈j.kl,i∈x.2.kl:=fun x hx i hi=>by have:=bq.1 (bq.1 hkl x hx) i hi;simpa using this
  split at hz
  case h_2=>simp at hz
  rename_i l hl;split at hz
  case h_2=>simp at hz
  rename_i p0 hp0;obtain⟨x,hx,hz⟩:=sG hz;obtain⟨n,hn⟩:=pC.1 hx;clear hx
  generalize hf:(fun(p:rg (qu j))=>(match uY j (mU a) s (px (qu j) p)with
     |some s1=>xM tb a {s1 with wo:=[]} fun o s'=>(match o with
      |.normal=>(match xO j s s' with|some l=>(match wq (qu j) l with|some q=>some (Sum.inl q)|none=>none)|none=>none)
      |o=>(match IC s o s' e with|some x=>some (Sum.inr x)|none=>none))
     |none=>none:Option (rg (qu j)⊕EG e)))=f at hn
  have hrs:∀n p,jP f n p=some x->∃s2,uY j (mU a) s (px (qu j) p)=some s2:=by
   intro n p h;cases n with
   |zero=>simp[jP]at h
   |succ n=>
    cases hq:uY j (mU a) s (px (qu j) p)with
    |some s2=>exact⟨s2,rfl⟩
    |none=>
     have:f p=none:=by rw[<-hf];simp only[hq]
     simp[jP,this]at h
  refine⟨fun n t=>∃p s2 w,jP f n p=some x/\uY j (mU a) s (px (qu j) p)=some s2/\R2 t s2/\xG (mU a) w s1 t s s2/\∀i∈w,s.next<=i\/i∈j.kl,n,?_,?_⟩
  .obtain ⟨s2,hs2⟩:=hrs n p0 hn;have hs3:=hs2;rw[qz _ _ _ hp0]at hs3;obtain⟨s1'',w',g1,g2,_,g4,g5⟩:=tR (w:=[]) hr (hr.wo []) ⟨aw _,jp.refl _ _,rfl,fun _ _ _=>⟨rfl,fun _ _ _ h=>h⟩,fun _ _ _ h _=>h⟩ (fun i hi=>by simp at hi) hl hs3;exact⟨s1'',g1,p0,s2,w',hn,hs2,g2,g4,g5⟩
  .rintro n t ⟨p,s2,w,h1,h2,h3,h4,h5⟩;cases n with
   |zero=>simp[jP]at h1
   |succ n=>
    have hfp:f p=xM tb a {s2 with wo:=[]} fun o s'=>(match o with
      |.normal=>(match xO j s s' with|some l=>(match wq (qu j) l with|some q=>some (Sum.inl q)|none=>none)|none=>none)
      |o=>(match IC s o s' e with|some x=>some (Sum.inr x)|none=>none)):=by
     rw[<-hf];simp only[h2]
    have hend:∀(o:sR)(t' t'':St)(s':S2)(y:EG e),o≠.normal->Sub t' t''->R2 t'' s'->Fr (mU a) t t'' {s2 with wo:=[]} s'->IC s o s' e=some y->y=x->Qf (mU a) s1 s k z o t':=by
     rintro o t' t'' s' y _ hsub r1 ⟨wb,e1,e2⟩ hy rfl;obtain⟨j',hj',l',s'',g1,g2,g3⟩:=Hc e y hy hz;have hfw:xG (mU a) (wb++w) s1 t'' s s':=h4.trans ⟨e2.le,e2.eh,e2.gl,e2.ob,e2.dH⟩
     obtain⟨s3,w',k1,k2,k3,k4,_⟩:=tR hr r1 hfw (fun i hi=>by
      rcases au.1 hi with hi|hi
      .exact Cm r1 g1 i (by rw[e1];simp[hi])
      .exact (h5 i hi).imp id (hkl j' hj' i)) g1 g2
     exact⟨s3,hsub.trans k1,s'',k2,⟨w',k3,k4⟩,g3⟩
    simp only[jP]at h1;cases hr1:f p with
    |none=>simp[hr1]at h1
    |some r=>
     rw[hr1]at h1;rw[hfp]at hr1;refine W.mono (fun o t' hq=>?_) (ih t _ _ r hr1 (h3.wo []));obtain⟨t'',hsub,s',r1,r2,r3⟩:=hq;cases o with
     |normal=>
      simp only at r3;split at r3
      .rename_i l2 hl2;split at r3
       .rename_i q hq;obtain rfl:=aa r3;simp only at h1;obtain⟨wb,e1,e2⟩:=r2;obtain⟨s3,hs3⟩:=hrs n q h1;have hs4:=hs3;rw[qz _ _ _ hq]at hs4;have hfw:xG (mU a) (wb++w) s1 t'' s s':=h4.trans ⟨e2.le,e2.eh,e2.gl,e2.ob,e2.dH⟩
        obtain⟨t3,w',k1,k2,_,k4,k5⟩:=tR hr r1 hfw (fun i hi=>by
         rcases au.1 hi with hi|hi
         .exact Cm r1 hl2 i (by rw[e1];simp[hi])
         .exact h5 i hi) hl2 hs4
        exact⟨n,Nat.lt_succ_self n,t3,hsub.trans k1,q,s3,w',h1,hs3,k2,k4,k5⟩
       .simp at r3
      .simp at r3
     |exit id=>
      simp only at r3;split at r3
      .rename_i y hy;obtain rfl:=aa r3;exact hend (.exit id) t' t'' s' y (by simp) hsub r1 r2 hy (aa h1)
      .simp at r3
     |ret=>
      simp only at r3;split at r3
      .rename_i y hy;obtain rfl:=aa r3;exact hend .ret t' t'' s' y (by simp) hsub r1 r2 hy (aa h1)
      .simp at r3
section
variable{h:H2}{n:Nat}{h1:bM}
theorem Dq{id sz lo len:Nat}{ao:List (List D)}(ho:aC h1 id=some (.aP sz ao)\/aC h1 id=some (.qc sz ao))(hl:lo+len<=ao.length)(szo:Nat):
  ∃t bG rd,(∀k,eK h1 k (.fh szo id lo len)=some (t,bG,rd))/\sV t=.sl szo ((ao.drop lo).take len)/\bG.Sublist [id]/\(aC h1 id=some (.aP sz ao)->t=.sl szo ((ao.drop lo).take len)):=by
 by_cases ha:aC h1 id=some (.aP sz ao)
 .exact ⟨.sl szo ((ao.drop lo).take len),[id],[id],fun k=>by cases k<;>simp only[eK,ha,if_pos hl],rfl,ci _,fun _=>rfl⟩
 .have hi:=ho.resolve_left ha;exact⟨.d (.sl szo ((ao.drop lo).take len)),[],[id],fun k=>by cases k<;>simp only[eK,hi,if_pos hl],rfl,j5 _,fun e=>absurd e ha⟩
theorem ML(hr:HR n h1 h){id ver:Nat}{t:Ty}{s:Sl (El t)}(ho:fO h id=some (.ar t s ver)\/fO h id=some (.im t s ver)):
  ∃q bG rd,(∀k,eK h1 k (mx (ce t) (a_ t) id s)=some (q,bG,rd))/\sV q=wt (ce t) (a_ t) s/\bG.Sublist [id]:=by
 cases s with
 |nil=>exact⟨_,_,_,fun k=>vF k _,rfl,j5 _⟩
 |mk l=>
  have hb:aC h1 id=some (.aP (ce t) (l.map (a_ t)))\/aC h1 id=some (.qc (ce t) (l.map (a_ t))):=by
   rcases ho with ho|ho
   .exact .inl ((hr.ob id _ ho).2.1.2.2 l rfl)
   .exact .inr ((hr.ob id _ ho).2.1.2.2 l rfl)
  obtain⟨q,bG,rd,g1,g2,g3,_⟩:=Dq (lo:=0) (len:=(l.map (a_ t)).length) hb (by omega) (ce t);rw[uk]at g2;exact⟨q,bG,rd,g1,g2,g3⟩
theorem K_{t:Ty}(s:Sl (Sl (El t))):sV (yy t s)=wt 1 (a_ (.sl t)) (s:Sl (El (.sl t))):=by cases s with|nil=>rfl|mk l=>simp only[yy,sV,wt,lN];congr 1;exact List.map_congr_left fun r _=>by cases r<;>rfl
theorem MM(hr:HR n h1 h){id:Nat}{t:Ty}{s:Sl (Sl (El t))}(ho:fO h id=some (.rw t s none)):
  ∃bG rd,(∀k,eK h1 k (mx 1 (a_ (.sl t)) id (s:Sl (El (.sl t))))=some (yy t s,bG,rd))/\bG.Sublist [id]:=by
 cases s with|nil=>exact⟨_,_,fun k=>vF k _,j5 _⟩|mk l=>exact⟨_,_,fun k=>Su (k:=k) ((hr.ob id _ ho).2.1.2.2 l rfl),ci _⟩
theorem GZ(hr:HR n h1 h){id ver lo:Nat}{t:Ty}{r:Sl (El t)}(hk:eY n h (.sb id ver lo t r))(ha:Cu h id ver=true):
  ∃q bG rd,(∀k,eK h1 k (yD id lo t r)=some (q,bG,rd))/\sV q=wt (ce t) (a_ t) r/\bG.Sublist [id]/\((∃u s v,fO h id=some (.ar u s v))->q=P8 (ce t) (a_ t) r):=by
 obtain⟨u,s,ho⟩:=lL ha;obtain⟨_,hc⟩:=hk.2 u s ver ho;obtain⟨hz,hc⟩:=hc rfl;cases r with
 |nil=>exact⟨_,_,_,fun k=>vF k _,rfl,j5 _,fun _=>rfl⟩
 |mk m=>
  cases s with
  |nil=>exact hc.elim
  |mk l=>
   obtain⟨hl,he⟩:=hc
   have hb:aC h1 id=some (.aP (ce u) (l.map (a_ u)))\/aC h1 id=some (.qc (ce u) (l.map (a_ u))):=by
    rcases ho with ho|ho
    .exact .inl ((hr.ob id _ ho).2.1.2.2 l rfl)
    .exact .inr ((hr.ob id _ ho).2.1.2.2 l rfl)
   obtain⟨q,bG,rd,g1,g2,g3,g4⟩:=Dq (lo:=lo) (len:=(m.map (a_ t)).length) hb (by simpa using hl) (ce t);rw[show(m.map (a_ t)).length=m.length by simp,he]at g2 g4;refine⟨q,bG,rd,fun k=>?_,g2,g3,?_⟩
   .have:=g1 k;simpa[yD]using this
   .rintro ⟨u',s',v',ho'⟩;rcases ho with ho|ho
    .exact g4 ((hr.ob id _ ho).2.1.2.2 l rfl)
    .rw [ho']at ho;simp at ho
theorem Iv(ds:List D):(ds.map T.d).map sV=ds:=by induction ds with|nil=>rfl|cons d ds ih=>simp only[aD,sV,ih]
theorem Lb(hr:HR n h1 h):∀(v w:V)(l:List Nat)(cs:List C),jg h v=some (w,l)->e9 h v cs->eY n h v->ir h v=true->
  ∃ts bG rd,(∀k,cs.length<=k->iF h1 k cs=some (ts,bG,rd))/\e9 h w ((ts.map sV).map .d)/\bG.Sublist l/\cs.length=ts.length/\tW w=tW v:=by
 have done:∀(v:V)(ds:List D),e9 h v (ds.map .d)->∃ts bG rd,(∀k,(ds.map C.d).length<=k->iF h1 k (ds.map .d)=some (ts,bG,rd))/\e9 h v ((ts.map sV).map .d)/\bG.Sublist ([]:List Nat)/\(ds.map C.d).length=ts.length/\tW v=tW v:=fun v ds hv=>⟨ds.map .d,[],[],fun k hk=>qH ds k (by simpa using hk),by rw[Iv];exact hv,ci _,by simp,rfl⟩
 have one:∀(c:C)(q:T)(bG rd:List Nat),(∀k,eK h1 k c=some (q,bG,rd))->∀k,[c].length<=k->iF h1 k [c]=some ([q],bG,rd):=fun c q bG rd hq k hk=>by
  obtain⟨k,rfl⟩:∃k',k=k'+1:=⟨k-1,by simp at hk;omega⟩
  exact vD (hq k)
 intro v;induction v with
 |so id=>
  intro w l cs hf hv hk ha;simp only[jg]at hf;split at hf
  .rename_i t s l' hs;obtain⟨rfl,rfl⟩:=ad (aa hf);obtain⟨ver,ho,e⟩:=uV hs;have e:l'=[id]:=e;subst e;obtain⟨c,rfl,hc,_⟩:=hv;rw[hc _ (mw ho)];obtain⟨q,bG,rd,q1,q2,q3⟩:=ML hr ho;have hd:kL t=true:=by rcases ho with ho|ho<;>exact(hr.ob id _ ho).2.1.1
   exact⟨[q],bG,rd,one _ q bG rd q1,⟨hd,by simp only[aD,bh,q2];rfl⟩,q3,rfl,rfl⟩
  .simp at hf
 |sr id=>
  intro w l cs hf hv hk ha;simp only[jg]at hf;split at hf
  .rename_i t s ho;obtain⟨rfl,rfl⟩:=ad (aa hf);obtain⟨c,rfl,hc,_⟩:=hv;rw[hc _ (tj ho)];obtain⟨bG,rd,q1,q3⟩:=MM hr ho;exact⟨[_],bG,rd,one _ _ bG rd q1,⟨(hr.ob id _ ho).2.1.1,by simp only[aD,bh,K_];rfl⟩,q3,rfl,rfl⟩
  .simp at hf
 |sb id ver lo t r=>intro w l cs hf hv hk ha;simp only[jg,ur]at hf;obtain⟨rfl,rfl⟩:=ad (aa hf);obtain⟨hd,ha⟩:=dm.1 ha;have ha:Cu h id ver=true:=ha;obtain⟨c,rfl,hc,_⟩:=hv;rw[hc ha];obtain⟨q,bG,rd,q1,q2,q3,_⟩:=GZ hr hk ha;exact⟨[q],bG,rd,one _ q bG rd q1,⟨hd,by simp only[aD,bh,q2];rfl⟩,q3,rfl,rfl⟩
 |rc r ih=>
  intro w l cs hf hv hk ha;simp only[jg]at hf;split at hf
  .rename_i w' l' hw;obtain⟨rfl,rfl⟩:=ad (aa hf);obtain⟨ts,bG,rd,a1,a2,a3,a4,_⟩:=ih w' l' cs hw hv hk ha;exact⟨ts,bG,rd,a1,a2,a3,a4,rfl⟩
  .simp at hf
 |co a r iha ihr=>
  intro w l cs hf hv hk ha;simp only[jg]at hf;split at hf
  .rename_i x l1 y l2 hx hy;obtain⟨rfl,rfl⟩:=ad (aa hf);obtain⟨ca,cr,rfl,h2,h3⟩:=hv;simp only[ir,ai]at ha;obtain⟨ts,bG,rd,a1,a2,a3,a4,_⟩:=iha x l1 ca hx h2 hk.1 ha.1;obtain⟨us,own2,rd2,b1,b2,b3,b4,_⟩:=ihr y l2 cr hy h3 hk.2 ha.2;refine⟨ts++us,bG++own2,rd++rd2,fun k hk=>?_,⟨_,_,by simp,a2,b2⟩,a3.append b3,by simp[a4,b4],rfl⟩;simp only[ap]at hk;exact vE (a1 k (by omega)) (b1 _ (by omega)) (by omega)
  .simp at hf
 |x t v=>intro w l cs hf hv hk ha;obtain⟨rfl,rfl⟩:=ad (aa hf);obtain⟨hd,rfl⟩:=hv;exact done _ _ ⟨hd,rfl⟩
 |kb c=>intro w l cs hf hv hk ha;obtain⟨rfl,rfl⟩:=ad (aa hf);obtain rfl:=hv;exact done (.kb c) [_] rfl
 |nl k=>intro w l cs hf hv hk ha;obtain⟨rfl,rfl⟩:=ad (aa hf);obtain rfl:=hv;exact done (.nl k) [_] rfl
 |fl q=>
  intro w l cs hf hv hk ha;obtain⟨rfl,rfl⟩:=ad (aa hf);obtain⟨hp,rfl⟩:=hv;have e:fk q=(q.map D.lit).map C.d:=by simp[fk]
  rw[e];exact done (.fl q) (q.map D.lit) ⟨hp,e.symm⟩
 |ni=>intro w l cs hf hv hk ha;obtain⟨rfl,rfl⟩:=ad (aa hf);obtain rfl:=hv;exact done .ni [] rfl
 |pt t v=>intro w l cs hf hv hk ha;obtain⟨rfl,rfl⟩:=ad (aa hf);obtain⟨hd,rfl⟩:=hv;exact done (.pt t v) [_] ⟨hd,rfl⟩
 |fn z f q ih=>intro w l cs hf hv hk ha;cases z with|true=>obtain⟨rfl,rfl⟩:=ad (aa hf);obtain⟨ds,hd,rfl⟩:=hv;exact done (.fn true f q) [_] ⟨ds,hd,rfl⟩|false=>simp[jg]at hf
 |_=>intro w l cs hf hv hk ha;simp[jg]at hf
def F0:Sh->Bool
 |.x _=>true
 |_=>false
theorem LP:∀(c:Sh)(ln:Bool)(v:V)(l:List V)(i:List Nat),ed h c ln v=some (l,i)->l.length=(Nq c).length:=by
 intro c;induction c with
 |x t=>
  intro ln v l i ha;cases ln with
  |true=>simp[ed]at ha
  |false=>
   simp only[ed]at ha;split at ha
   .obtain ⟨rfl,_⟩:=ad (aa ha);rfl
   .simp at ha
 |os t=>
  intro ln v l i ha;cases ln with
  |true=>simp[ed]at ha
  |false=>
   cases v with
   |so id=>
    simp only[ed]at ha;split at ha
    .split at ha
     .obtain ⟨rfl,_⟩:=ad (aa ha);rfl
     .simp at ha
    .simp at ha
   |nl k=>cases k with|zero=>obtain⟨rfl,_⟩:=ad (aa ha);rfl|succ=>simp[ed]at ha
   |_=>simp[ed]at ha
 |rw t=>
  intro ln v l i ha;cases ln with
  |true=>simp[ed]at ha
  |false=>
   cases v with
   |sr id=>
    simp only[ed]at ha;split at ha
    .split at ha
     .obtain ⟨rfl,_⟩:=ad (aa ha);rfl
     .simp at ha
    .simp at ha
   |nl k=>cases k with|zero=>obtain⟨rfl,_⟩:=ad (aa ha);rfl|succ=>simp[ed]at ha
   |_=>simp[ed]at ha
 |pb t c ih=>
  intro ln v l i ha;cases ln with
  |true=>simp[ed]at ha
  |false=>
   cases v with
   |op id u p=>
    cases p with
    |cons=>simp[ed]at ha
    |nil=>
     simp only[ed]at ha;split at ha
     .obtain ⟨_,ha⟩:=aR ha;split at ha
      .rename_i hh;obtain⟨rfl,_⟩:=ad (aa ha);exact ih _ _ _ _ hh
      .simp at ha
     .simp at ha
   |_=>simp[ed]at ha
 |nl k=>
  intro ln v l i ha;cases ln with
  |true=>simp[ed]at ha
  |false=>cases v with|nl k'=>simp only[ed]at ha;obtain⟨_,ha⟩:=aR ha;obtain⟨rfl,_⟩:=ad (aa ha);rfl|_=>simp[ed]at ha
 |st c ih=>
  intro ln v l i ha;cases ln with
  |true=>simp[ed]at ha
  |false=>
   cases v with
   |rc q=>exact ih true q l i ha
   |x t v=>cases t with|st u=>exact ih true _ l i ha|_=>simp[ed]at ha
   |_=>simp[ed]at ha
 |pr a c iha ihc=>
  intro ln v l i ha;cases ln with
  |false=>simp[ed]at ha
  |true=>
   cases v with
   |co x r=>
    simp only[ed]at ha;split at ha
    .rename_i l1 i1 l2 i2 h2 h3;obtain⟨rfl,rfl⟩:=ad (aa ha)
     have hA:l1.length=(Nq a).length:=by
      split at h2
      .unfold O4 at h2;split at h2
       .obtain ⟨rfl,_⟩:=ad (aa h2);rfl
       .simp at h2
      .exact iha _ _ _ _ h2
     rw[ap,hA,ihc _ _ _ _ h3];simp[Nq]
    .simp at ha
   |_=>simp[ed]at ha
 |ni=>
  intro ln v l i ha;cases ln with
  |false=>cases v<;>simp[ed]at ha
  |true=>cases v with|ni=>obtain⟨rfl,_⟩:=ad (aa ha);rfl|_=>simp[ed]at ha
 |_=>intro ln v l i ha;cases ln<;>cases v<;>simp[ed]at ha
theorem NH{c:Sh}{v:V}{l:List V}{i:List Nat}(ha:ed h c false v=some (l,i))(hx:F0 c=false):tW v=xR c/\fX h v=th h v:=by
 cases c with
 |x t=>simp[F0]at hx
 |os t=>cases v<;>first|exact⟨rfl,rfl⟩|simp[ed]at ha
 |rw t=>cases v<;>first|exact⟨rfl,rfl⟩|simp[ed]at ha
 |pb t c=>cases v<;>first|exact⟨rfl,rfl⟩|simp[ed]at ha
 |nl k=>cases v<;>first|exact⟨rfl,rfl⟩|simp[ed]at ha
 |st c=>
  cases v with
  |rc q=>exact⟨rfl,rfl⟩
  |x t v=>cases t with|st u=>exact⟨rfl,rfl⟩|_=>simp[ed]at ha
  |_=>simp[ed]at ha
 |_=>cases v<;>simp[ed]at ha
theorem tC{c:C}{ts:List T}{bG rd:List Nat}(hp:iF h1 301 [c]=some (ts,bG,rd)):∃t rd',eK h1 300 c=some (t,bG,rd')/\ts=[t]:=by
 simp only[iF,pM]at hp;split at hp
 .rename_i t a i xs b j hc hn;obtain⟨rfl,e⟩:=ad (aa hp);obtain⟨rfl,rfl⟩:=ad e;obtain⟨rfl,e⟩:=ad (aa hn);obtain⟨rfl,rfl⟩:=ad e;exact⟨t,i,by simpa using hc,rfl⟩
 .simp at hp
theorem JR(hr:HR n h1 h){c:Sh}{v:V}{l:List V}{i:List Nat}{x:TV}(hc:MB h c v=some (l,i))(hx:fX h v x)(hk:eY n h v)(ha:ir h v=true)(hf:i_ (rh c) 300=true):
  l.length=(Nq c).length/\∃r0 bG,sM h1 x=some (r0,bG)/\bG.Sublist i/\∀rest,(bif F0 c then IG r0 else r0)=(bif xR c then .agg (fE c (l++rest)).1 else .c ((fE c (l++rest)).1.headD default))/\(fE c (l++rest)).2=rest:=by
 have hf:rh c<=300:=iZ hf;have main:F0 c=false->ed h c false v=some (l,i)->l.length=(Nq c).length/\∃r0 bG,sM h1 x=some (r0,bG)/\bG.Sublist i/\∀rest,(bif F0 c then IG r0 else r0)=(bif xR c then .agg (fE c (l++rest)).1 else .c ((fE c (l++rest)).1.headD default))/\(fE c (l++rest)).2=rest:=by intro hX hc;obtain⟨hag,htv⟩:=NH hc hX;rw[htv]at hx;obtain⟨cs,h2,h3,h4⟩:=hx;obtain⟨ts,bG,rd,g1,g2,g3,_,_,g6,_⟩:=xa hr c false v l i cs hc h2 hk;refine⟨LP _ _ _ _ _ hc,?_⟩;cases hg:xR c with|true=>obtain rfl:=h3 (hag.trans hg);refine⟨.agg ts,bG,by simp only[sM,g1 300 hf],g3,fun rest=>?_⟩;rw[g2 rest,hX];exact⟨rfl,rfl⟩|false=>obtain⟨c1,rfl,rfl⟩:=h4 (hag.trans hg);obtain⟨t,rd',p1,rfl⟩:=tC (g1 301 (by omega));refine⟨.c t,bG,by simp only[sM,p1],g3,fun rest=>?_⟩;rw[g2 rest,hX];exact⟨rfl,rfl⟩
 cases c with
 |x t=>
  simp only[MB]at hc;split at hc
  .rename_i w l' hw;split at hc
   .rename_i y hy;obtain⟨rfl,rfl⟩:=ad (aa hc);have h5:th h v x:=by cases v with|tp q=>simp[jg]at hw|no=>simp[ir]at ha|gn=>simp[ir]at ha|_=>exact hx
    obtain⟨cs,h2,h3,h4⟩:=h5;obtain⟨ts,bG,rd,g1,g2,g3,g4,g5⟩:=Lb hr v w l' cs hw h2 hk ha;have e:=iW w false t y _ hy g2;have e:=p8 e;have hag:tW v=nB t:=g5.symm.trans (wY hy);have hlen:cs.length=ce t:=by rw[g4,<-bV t y,<-e,List.length_map]
    have hf2:ce t+1<=300:=hf;refine⟨rfl,?_⟩;cases hg:nB t with|true=>obtain rfl:=h3 (hag.trans hg);refine⟨.agg ts,bG,by simp only[sM,g1 300 (by omega)],g3,fun rest=>⟨?_,rfl⟩⟩;simp only[F0,cond_true,IG,xR,hg,fE,bd,bw,R.agg.injEq];rw[<-e,lN];rfl|false=>obtain⟨c1,rfl,rfl⟩:=h4 (hag.trans hg);obtain⟨q,rd',p1,rfl⟩:=tC (g1 301 (by simp));refine⟨.c q,bG,by simp only[sM,p1],g3,fun rest=>⟨?_,rfl⟩⟩;simp only[F0,cond_true,IG,xR,hg,cond_false,fE,bd,bw,R.c.injEq];rw[<-e];rfl
   .simp at hc
  .simp at hc
 |os t=>
  cases v with
  |sb id ver lo u r=>
   simp only[MB]at hc;split at hc
   .rename_i u0 s0 v0 ho;split at hc
    .rename_i s hs;obtain⟨rfl,rfl⟩:=ad (aa hc);obtain⟨e,rfl⟩:=dq hs;cases e;obtain rfl:=qP hx ha;obtain⟨q,bG,rd,q1,_,q3,q4⟩:=GZ hr hk (dm.1 ha).2;obtain rfl:=q4 ⟨_,_,_,ho⟩;exact⟨rfl,.c (P8 (ce t) (a_ t) r),bG,by simp only[sM,q1],q3,fun rest=>⟨rfl,rfl⟩⟩
    .simp at hc
   .simp at hc
  |_=>exact main rfl hc
 |_=>exact main rfl hc
theorem Fw(hr:HR n h1 h):∀(cs:List Sh)(vs:List V)(l:List V)(i:List Nat)(xs:List TV),AO h cs vs=some (l,i)->mR h vs xs->(∀v∈vs,eY n h v/\ir h v=true)->cs.all (fun c=>i_ (rh c) 300)=true->
  l.length=(gT cs).length/\∃rs0 bG,u6 h1 xs=some (rs0,bG)/\bG.Sublist i/\uG (cs.map F0) rs0=mO cs l:=by
 intro cs;induction cs with
 |nil=>intro vs l i xs hc hx _ _;cases vs with|cons=>simp[AO]at hc|nil=>obtain⟨rfl,rfl⟩:=ad (aa hc);rw[lV hx];exact⟨rfl,[],[],rfl,ci _,rfl⟩
 |cons c cs ih=>
  intro vs l i xs hc hx hk hf;cases vs with
  |nil=>simp[AO]at hc
  |cons v vs=>
   simp only[AO]at hc;split at hc
   .rename_i l1 i1 l2 i2 h2 h3;obtain⟨rfl,rfl⟩:=ad (aa hc);obtain⟨y,ys,rfl,hy,hys⟩:=gL hx;simp only[iJ,ai]at hf;obtain⟨e1,r0,bG,a1,a2,a3⟩:=JR hr h2 hy (hk v (by simp)).1 (hk v (by simp)).2 hf.1;obtain⟨e2,rs0,own2,b1,b2,b3⟩:=ih vs l2 i2 ys h3 hys (fun w hw=>hk w (by simp[hw])) hf.2;refine⟨by simp[gT,e1,e2],r0::rs0,bG++own2,by simp only[u6,a1,b1],a2.append b2,?_⟩;obtain⟨c1,c2⟩:=a3 l2;simp only[aD,uG,mO,c2,b3];rw[<-c1];cases F0 c<;>rfl
   .simp at hc
theorem Fv(hr:HR n h1 h):∀(cs:List Sh)(g:V)(l:List V)(i:List Nat)(xs:List C),AN h cs (AD g)=some (l,i)->Jn h g xs->eY n h g->cs.all (fun c=>i_ (rh c) 300&&!F0 c)=true->
  ∃bG,v_ h1 xs (lB cs l) bG/\bG.Sublist i:=by
 intro cs;induction cs with
 |nil=>intro g l i xs hc hx _ _;cases g with|ni=>obtain⟨rfl,rfl⟩:=ad (aa hc);obtain rfl:=hx;exact⟨[],.nil,ci _⟩|co a r=>simp[AD,AN]at hc|_=>exact hx.elim
 |cons c cs ih=>
  intro g l i xs hc hx hk hf;cases g with
  |ni=>simp[AD,AN]at hc
  |co a r=>
   simp only[AD,AN]at hc;split at hc
   .rename_i l1 i1 l2 i2 h2 h3;obtain⟨rfl,rfl⟩:=ad (aa hc);obtain⟨y,ys,rfl,hy,hys⟩:=hx;simp only[iJ,ai,Bool.not_eq_true']at hf;obtain⟨own2,b1,b2⟩:=ih r l2 i2 ys h3 hys hk.2 (by simpa using hf.2);have EP:(bif ir h a then ed h c false a else none)=some (l1,i1)->∃bG,v_ h1 (y::ys) (lB (c::cs) (l1++l2)) bG/\bG.Sublist (i1++i2):=by intro h2;obtain⟨ha,h2⟩:=aR h2;obtain⟨ts,bG,rd,g1,g2,g3,_⟩:=xa hr c false a l1 i1 [y] h2 (hy ha) hk.1;have hfu:rh c<=300:=iZ hf.1.1;obtain⟨t,rd',p1,rfl⟩:=tC (g1 301 (by omega));refine⟨bG++own2,?_,g3.append b2⟩;simp only[lB,g2 l2,cg];exact .cons p1 b1
    cases c with|gn=>obtain⟨rfl,rfl⟩:=ad (aa (show some (([]:List V),([]:List Nat))=some (l1,i1)from h2));exact⟨own2,.wR b1,b2⟩|_=>exact EP h2
   .simp at hc
  |_=>exact hx.elim
end
theorem HW(hg:mn){s1:St}{s:S2}(hr:R2 s1 s){r:RV}{v:V}(h:MA s r=some v):∃x,xn s1 r=some x/\fX s.heap v x/\eY s.next s.heap v/\ir s.heap v=true:=by
 cases r with
 |tmp t=>exact oN hg hr (o:=.tmp t) h
 |cell t g n=>
  simp only[MA]at h;split at h
  .rename_i p hp;split at h
   .rename_i w l hl;obtain⟨hc,h⟩:=aR h;obtain rfl:=aa h;obtain⟨x,h1,h2,h3,h4⟩:=oN hg hr hp;obtain⟨y,h5,h6,h7⟩:=wK (nx:=0) (c:=qU) hr.hr hl hc h2 h3;refine⟨y,?_,h6,h7,(oY hc).2.2.2⟩;have h1:cz s1.dH t=some x:=h1;simp only[xn,h1];cases x with
    |c pc=>
     simp only[cL]at h5;split at h5
     .rename_i z aB hz;obtain⟨rfl,_⟩:=ad (aa h5);simp only[hz]
     .simp at h5
    |_=>simp[cL]at h5
   .simp at h
  .simp at h
theorem Iw(hg:mn){s1:St}{s:S2}(hr:R2 s1 s):∀(k8:List RV)(vs:List V),MY (MA s) k8=some vs->∃xs,eH (k8.map (xn s1))=some xs/\mR s.heap vs xs/\∀v∈vs,eY s.next s.heap v/\ir s.heap v=true:=by
 intro k8;induction k8 with
 |nil=>intro vs h;obtain rfl:=aa h;exact⟨[],rfl,trivial,fun v hv=>by simp at hv⟩
 |cons r k8 ih=>
  intro vs h;simp only[MY]at h;split at h
  .rename_i x y hx hy;obtain rfl:=aa h;obtain⟨x1,a1,a2,a3⟩:=HW hg hr hx;obtain⟨xs,b1,b2,b3⟩:=ih y hy;refine⟨x1::xs,by simp only[aD,eH,a1,b1],⟨a2,b2⟩,fun v hv=>?_⟩;rcases aQ.1 hv with rfl|hv
   .exact a3
   .exact b3 v hv
  .simp at h
def QH(al:Wy):Bool:=al.all fun w=>w.1.all (fun c=>i_ (rh c) 300)&&w.2.all (fun c=>i_ (rh c) 300&&!F0 c)
theorem IL(hg:mn){s1:St}{s:S2}(hr:R2 s1 s){k8:List RV}{rs os:List Sh}{l:List V}(h:IM k8 rs os s=some l)(hf1:rs.all (fun c=>i_ (rh c) 300)=true)(hf2:os.all (fun c=>i_ (rh c) 300&&!F0 c)=true):
  ∃rs0,xg k8 s1 rs0 (lB os (l.drop (gT rs).length))/\uG (rs.map F0) rs0=mO rs (l.take (gT rs).length):=by
 unfold IM at h;split at h
 .rename_i vs hvs;split at h
  .rename_i l1 i m j h2 h3;obtain⟨hn,h⟩:=aR h;obtain rfl:=aa h;obtain⟨xs,a1,a2,a3⟩:=Iw hg hr k8 vs hvs;obtain⟨e,rs0,bG,b1,b2,b3⟩:=Fw hr.hr rs vs l1 i xs h2 a2 a3 hf1;obtain⟨own2,c1,c2⟩:=Fv hr.hr os s.gh m j s1.gh h3 hr.gh.1 hr.gh.2 hf2;rw[<-e,List.take_left,List.drop_left];exact⟨rs0,⟨xs,bG,own2,a1,b1,c1,(b2.append c2).nodup (DI hn)⟩,b3⟩
  .simp at h
 .simp at h
section
variable{h1:bM}
theorem HA:∀(c:Sh)(l:List V)(w:V)(l':List V),CM c l=some (w,l')->rf w=some (rG c l).1/\l'=(rG c l).2:=by
 intro c;induction c with
 |ni=>intro l w l' h;obtain⟨rfl,rfl⟩:=ad (aa h);exact⟨rfl,rfl⟩
 |pr a c _ ih=>
  intro l w l' h;cases a with
  |pt t=>
   match l with
   |.x u v::l=>
    simp only[CM]at h;obtain⟨hc,hh⟩:=aR h;clear h;simp only[ai,decide_eq_true_eq]at hc;obtain⟨rfl,hd⟩:=hc;split at hh
    .rename_i w2 l2 hw;obtain⟨rfl,rfl⟩:=ad (aa hh);obtain⟨h2,h3⟩:=ih l w2 l2 hw;refine⟨?_,h3⟩;simp only[rf,hd,if_true,h2,rG]
    .simp at hh
   |[]|.kb _::_|.nl _::_|.so _::_|.sb _ _ _ _ _::_|.op _ _ _::_|.ep _ _ _ _::_|.pt _ _::_|.fn _ _ _::_|.om _::_|.rc _::_|.tp _::_|.ni::_|.co _ _::_|.fl _::_|.no::_|.gn::_=>simp[CM]at h
  |_=>simp[CM]at h
 |_=>intro l w l' h;simp[CM]at h
theorem I6:∀{w:V}{ds:List D},rf w=some ds->Ct w=true:=by
 intro w;induction w with
 |pt t v=>
  intro ds h;simp only[rf]at h;split at h
  .assumption
  .simp at h
 |ni=>intro ds _;rfl
 |co a r iha ihr=>
  intro ds h;simp only[rf]at h;split at h
  .rename_i x y hx hy;simp only[Ct,iha hx,ihr hy,Bool.and_self]
  .simp at h
 |_=>intro ds h;simp[rf]at h
theorem N4{h:H2}{n:Nat}{i:Nat}{u:Ty}{v:El u}(hd:kL u=true)(hs:(xR (.x u)||yV (.x u))=true):∃x,fX h (.x u v) x/\eY n h (.x u v)/\
  ∀(r:List A)(k:Nat),enter ((bif xR (.x u)then A.agg (a_ u v)else A.d ((a_ u v).headD default))::r) i k=((i,x)::(enter r (i+1) k).1,(enter r (i+1) k).2.1,(enter r (i+1) k).2.2.1,(enter r (i+1) k).2.2.2):=by
 cases hg:nB u with
 |true=>refine⟨.agg ((a_ u v).map .d),cu ⟨_,⟨hd,rfl⟩,fun _=>rfl,fun e=>(by rw[show tW (.x u v)=nB u from rfl,hg]at e;cases e)⟩,trivial,fun r k=>?_⟩;simp only[xR,hg,cond_true,enter]
 |false=>
  have h1:ce u=1:=by simpa[xR,hg,yV]using hs
  have hl:=bV u v;rw[h1]at hl
  match he:a_ u v,hl with|[d],_=>refine⟨.c (.d d),cu ⟨[.d d],⟨hd,by rw[he];rfl⟩,fun e=>(by rw[show tW (.x u v)=nB u from rfl,hg]at e;cases e),fun _=>⟨_,rfl,rfl⟩⟩,trivial,fun r k=>?_⟩;simp only[xR,hg,cond_false,enter,cg]
theorem xA{α:Type}{a t:Nat}{x:α}{l:List (Nat×α)}(h:a≠t):cz ((a,x)::l) t=cz l t:=by simp only[cz];rw[show(a==t)=false by simpa using h,cond_false]
theorem qJ{α:Type}{a:Nat}{x:α}{l:List (Nat×α)}:cz ((a,x)::l) a=some x:=by simp[cz]
theorem IU:∀(ps:List (Bool×Sh))(i:Nat)(l:List V)(s:S2)(h1:bM)(e:List (Nat×V))(s':S2),tN ps i l s=some (e,s')->BU ps=true->HR s.next h1 s.heap->s.gh=.ni->
  HR s'.next ((enter (gR ps l) i s.next).2.1++h1) s'.heap/\jp s.next s.heap s'.heap/\s.next<=s'.next/\(∀p∈(enter (gR ps l) i s.next).2.1,s.next<=p.1/\p.1<s'.next)/\
  (∀t v,cz e t=some v->eY s'.next s'.heap v/\∃x,cz (enter (gR ps l) i s.next).1 t=some x/\fX s'.heap v x)/\
  s'.next=(enter (gR ps l) i s.next).2.2.1/\Jn s'.heap s'.gh (enter (gR ps l) i s.next).2.2.2/\eY s'.next s'.heap s'.gh:=by
 intro ps;induction ps with
 |nil=>
  intro i l s h1 e s' he _ hr hg;cases l with
  |cons=>simp[tN]at he
  |nil=>
   obtain⟨rfl,rfl⟩:=ad (aa he);simp only[gR,enter,bw];refine⟨hr,jp.refl _ _,aw _,fun p hp=>by simp at hp,fun t v h=>by simp[cz]at h,trivial,?_,?_⟩
   .rw [hg];rfl
   .rw [hg];trivial
 |cons p ps ih=>
  obtain⟨b,c⟩:=p;intro i l s h1 e s' he hp hr hg;simp only[BU,ai]at hp;obtain⟨hc,hps⟩:=hp
  -- data: one more temporary
  have data:∀(l2:List V)(w:V)(a:A)(x:TV),gR ((b,c)::ps) l=a::gR ps l2->(∀(r:List A)(k:Nat),enter (a::r) i k=((i,x)::(enter r (i+1) k).1,(enter r (i+1) k).2.1,(enter r (i+1) k).2.2.1,(enter r (i+1) k).2.2.2))->
    (∀h,fX h w x)->(∀n h,eY n h w)->(match tN ps (i+1) l2 s with|some (e,s)=>some ((i,w)::e,s)|none=>none)=some (e,s')->
    HR s'.next ((enter (gR ((b,c)::ps) l) i s.next).2.1++h1) s'.heap/\jp s.next s.heap s'.heap/\s.next<=s'.next/\(∀p∈(enter (gR ((b,c)::ps) l) i s.next).2.1,s.next<=p.1/\p.1<s'.next)/\
    (∀t v,cz e t=some v->eY s'.next s'.heap v/\∃x,cz (enter (gR ((b,c)::ps) l) i s.next).1 t=some x/\fX s'.heap v x)/\
    s'.next=(enter (gR ((b,c)::ps) l) i s.next).2.2.1/\Jn s'.heap s'.gh (enter (gR ((b,c)::ps) l) i s.next).2.2.2/\eY s'.next s'.heap s'.gh:=by
   intro l2 w a x ha hen hx hk he;split at he
   .rename_i e1 s1 h2;obtain⟨rfl,rfl⟩:=ad (aa he);obtain⟨a1,a2,a3,a4,a5,a6,a7,a8⟩:=ih (i+1) l2 s h1 e1 s1 h2 hps hr hg;rw[ha,hen];refine⟨a1,a2,a3,a4,fun t v h=>?_,a6,a7,a8⟩;by_cases et:i=t
    .subst et;rw[qJ]at h;obtain rfl:=aa h;exact⟨hk _ _,x,qJ,hx _⟩
    .rw [xA et]at h|-;exact a5 t v h
   .simp at he
  cases b with
  |true=>
   simp only[cond_true,ai]at hc;simp only[tN]at he;split at he
   .rename_i w l2 s1 hm;split at he
    .rename_i e1 s2 h2;obtain⟨rfl,rfl⟩:=ad (aa he);obtain⟨g1,g2,g3,g4,g5,_⟩:=vO c false l s w l2 s1 h1 hm hr;have hone:yV c=true:=by have:=hc.1;cases c<;>simp[vR]at this<;>rfl
     have hlen:=Cg hm hone
     match ht:(fE c l).1,hlen with
     |[t0],_=>
      have hu:iC s.next [t0]=([(kY s.next t0).1],(kY s.next t0).2.1++[],(kY s.next t0).2.2):=rfl;rw[ht,hu]at g1 g3 g4;simp only[bR]at g1 g3 g4;obtain⟨k1,k2,k3,k4,k5,k6,_⟩:=g3;obtain⟨a1,a2,a3,a4,a5,a6,a7,a8⟩:=ih (i+1) l2 s1 ((kY s.next t0).2.1++h1) e1 s2 h2 hps k1 (k4.trans hg);have hen:enter (gR ((true,c)::ps) l) i s.next=((i,.c (kY s.next t0).1)::(enter (gR ps l2) (i+1) s1.next).1,(kY s.next t0).2.1++(enter (gR ps l2) (i+1) s1.next).2.1,(enter (gR ps l2) (i+1) s1.next).2.2.1,(kY s.next t0).1::(enter (gR ps l2) (i+1) s1.next).2.2.2):=by simp only[gR,ht,cg,<-g5,enter,<-g4]
      rw[hen];have hk:=gK a3 a2 g2;have hcel:=lK a2 g2 g1;refine⟨a1.ext fun j=>wI (fun p hp q hq e=>?_) j,jp.trans k5 k2 a2,fI k5 a3,fun p hp=>?_,fun t v h=>?_,a6,⟨_,_,rfl,fun _=>hcel,a7⟩,⟨hk,a8⟩⟩
      .have:=(k6 p hp).2;have:=(a4 q hq).1;omega
      .rcases au.1 hp with hp|hp
       .exact ⟨(k6 p hp).1,Nat.lt_of_lt_of_le (k6 p hp).2 a3⟩
       .exact ⟨fI k5 (a4 p hp).1,(a4 p hp).2⟩
      .by_cases et:i=t
       .subst et;rw[qJ]at h;obtain rfl:=aa h;refine⟨hk,_,qJ,?_⟩;have hag:tW w=false:=by have:=vO c false l s w l2 s1 h1 hm hr;rw[this.2.2.2.2.2 rfl];have:=hc.1;cases c<;>simp[vR]at this<;>rfl
        exact cu ⟨_,hcel,fun e=>(by rw[hag]at e;cases e),fun _=>⟨_,rfl,rfl⟩⟩
       .rw [xA et]at h|-;exact a5 t v h
    .simp at he
   .simp at he
  |false=>
   simp only[cond_false,ai]at hc;cases c with
   |x t=>
    match l,he with
    |.x u v::l,he=>
     simp only[tN]at he;obtain⟨hd,he2⟩:=aR he;simp only[ai,decide_eq_true_eq]at hd;obtain⟨rfl,hd⟩:=hd;obtain⟨x,_,_,h3⟩:=N4 (h:=[]) (n:=0) (i:=i) (v:=v) hd hc.1
     have hx:∀h,fX h (.x u v) x:=fun h=>by
      obtain⟨x',h1,_,h3'⟩:=N4 (h:=h) (n:=0) (i:=i) (v:=v) hd hc.1;have e1:=h3 [] 0;rw[h3' [] 0]at e1;have:x'=x:=by have:=(ad e1).1;exact(ad (List.cons.inj this).1).2
      rw[<-this];exact h1
     exact data l (.x u v) _ x rfl h3 hx (fun _ _=>trivial) he2
    |[],he|.kb _::_,he|.nl _::_,he|.so _::_,he|.sb _ _ _ _ _::_,he|.op _ _ _::_,he|.ep _ _ _ _::_,he|.pt _ _::_,he|.fn _ _ _::_,he|.om _::_,he|.rc _::_,he|.tp _::_,he|.ni::_,he|.co _ _::_,he|.fl _::_,he|.no::_,he|.gn::_,he=>simp[tN]at he
   |pt t=>match l,he with|.x u v::l,he=>simp only[tN]at he;obtain⟨hd,he2⟩:=aR he;simp only[ai,decide_eq_true_eq]at hd;obtain⟨rfl,hd⟩:=hd;refine data l (.pt u v) (.d (.pt (a_ u v))) (.c (.d (.pt (a_ u v)))) rfl (fun r k=>by simp only[enter]) (fun h=>cu (dX rfl ⟨hd,rfl⟩)) (fun _ _=>trivial) he2|[],he|.kb _::_,he|.nl _::_,he|.so _::_,he|.sb _ _ _ _ _::_,he|.op _ _ _::_,he|.ep _ _ _ _::_,he|.pt _ _::_,he|.fn _ _ _::_,he|.om _::_,he|.rc _::_,he|.tp _::_,he|.ni::_,he|.co _ _::_,he|.fl _::_,he|.no::_,he|.gn::_,he=>simp[tN]at he
   |nl k=>
    have he:(match tN ps (i+1) l s with|some (e,s)=>some ((i,V.nl k)::e,s)|none=>none)=some (e,s'):=by cases l<;>exact he
    refine data l (.nl k) (.d (NY k)) (.c (.d (NY k))) (by cases l<;>rfl) (fun r k=>by simp only[enter]) (fun h=>cu (dX rfl rfl)) (fun _ _=>trivial) he
   |fn f c2=>
    have he:(match CM c2 l with|some (w,l)=>(match tN ps (i+1) l s with|some (e,s)=>some ((i,V.fn true f w)::e,s)|none=>none)|none=>none)=some (e,s'):=by cases l<;>exact he
    split at he
    .rename_i w l2 hw;obtain⟨h2,rfl⟩:=HA c2 l w l2 hw;refine data _ (.fn true f w) (.d (.fn f (rG c2 l).1)) (.c (.d (.fn f (rG c2 l).1))) (by cases l<;>rfl) (fun r k=>by simp only[enter]) (fun h=>cu (dX rfl ⟨_,h2,rfl⟩)) (fun n h=>?_) he;exact(zT (h:=h) w (I6 h2)).2 n
    .simp at he
   |_=>cases l<;>simp[tN]at he
theorem IT{ps:List (Bool×Sh)}{l:List V}{s:S2}(h:Pw ps l=some s)(hp:BU ps=true):R2 (pG (gR ps l)) s:=by
 unfold Pw at h;split at h
 .rename_i e s1 he;obtain rfl:=aa h;obtain⟨a1,a2,a3,a4,a5,a6,a7,a8⟩:=IU ps 0 l ⟨[],[],0,[],.ni⟩ [] e s1 he hp ⟨fun i o ho=>by simp[fO,cz]at ho⟩ rfl;rw[bR]at a1;exact⟨fun t v ht=>⟨(a5 t v ht).1,fun _=>(a5 t v ht).2⟩,a1,Nat.le_of_eq a6.symm,a7,a8⟩
 .simp at h
end
theorem IV:∀(ps:List (Bool×Sh))(l:List V),(gR ps l).length=ps.length:=by intro ps;induction ps with|nil=>intro l;rfl|cons p ps ih=>obtain⟨b,c⟩:=p;intro l;cases b<;>simp[gR,ih]
theorem LA{P:Program}{cH:Bz}{nt:Nat}{an:List (Nat×An)}:∀(c:Code)(n:Nat)(s:St)(Q:sR->St->Prop),W P (nF (qi P cH nt an c n).1) s Q->W P (qt P cH nt c) s Q:=by
 intro c;induction c with
 |skip=>intro n s Q h;exact h
 |exit id=>intro n s Q h;exact h
 |ret=>intro n s Q h;exact h
 |region o ops draw=>
  intro n s Q h;have hm:(ops.toList.map (OV P cH nt ops)).map (·.o)=ops.toList.map (gw P cH nt ops):=by rw[lN];rfl
  cases draw with
  |false=>simp only[qi,aX,if_false,nF,hm]at h;simpa only[qt,aX,if_false]using h
  |true=>
   simp only[qi,if_true]at h;simp only[qt,if_true,wZ];split at h
   .rename_i hc;simp only[nF,hm]at h;rw[if_pos (by simpa using hc)];exact h
   .exact h.elim
 |seq a b iha ihb=>intro n s Q h;simp only[qi,nF]at h;exact iha _ s _ (W.mono (uK.mono (fun s1 h1=>ihb _ s1 Q h1) fun _ _ h=>h) h)
 |cond x a b iha ihb=>intro n s Q h;simp only[qi,nF]at h;obtain⟨s1,h0,t,h1,h2,h3⟩:=h;exact⟨s1,h0,t,h1,fun ht=>iha _ s1 Q (h2 ht),fun ht=>ihb _ s1 Q (h3 ht)⟩
 |block id a ih=>intro n s Q h;simp only[qi,nF]at h;exact ih _ s _ h
 |loop a ih=>
  intro n s Q h;simp only[qi]at h;split at h
  .simp only[nF]at h;obtain⟨I,m,h1,h2⟩:=h;exact⟨I,m,h1,fun k s1 hI=>ih _ s1 _ (h2 k s1 hI)⟩
  .exact h.elim
 |scope a ih=>intro n s Q h;exact ih _ s Q h
 |label l=>intro n s Q h;exact h
 |_=>intro n s Q h;exact h.elim
theorem Gq{P:Program}{cH:Bz}{f np:Nat}{an:List (Nat×An)}{F:F2}(h:Bm P cH f np an=some F):∃G,zK P cH f np=some G/\G.np=np/\G.k8=F.k8/\∀s Q,W P (nF F.body) s Q->W P G.body s Q:=by
 unfold Bm at h;split at h
 .simp at h
 rename_i g hg;split at h
 .simp at h
 rename_i code hb;split at h
 case isFalse=>simp at h
 rename_i hc;split at h
 case h_2=>simp at h
 rename_i k8 hrv;obtain rfl:=aa h;unfold zK;simp only[hg,hb,hrv];rw[if_pos (by simpa using hc)];exact⟨_,rfl,rfl,rfl,fun s Q hw=>LA code 0 s Q hw⟩
theorem Oo{k8:List RV}:∀(al:Wy)(z:v9 al),∃r o l,(r,o)∈al/\(∀s,Nf k8 s al=some z->IM k8 r o s=some l)/\∀Q:List Sh->List Sh->List V->Prop,Q r o l->L9 Q al z:=by
 have key:∀(w:Wy)(r o:List Sh)(z:v9.GF r o w),∃r' o' l,(r',o')∈(r,o)::w/\(∀s,IN k8 s r o w=some z->IM k8 r' o' s=some l)/\∀Q:List Sh->List Sh->List V->Prop,Q r' o' l->L8 Q r o w z:=by
  intro w;induction w with
  |nil=>
   intro r o z;refine⟨r,o,px (gT r++gT o) z,by simp,fun s hz=>?_,fun Q hQ=>hQ⟩;simp only[IN]at hz;split at hz
   .rename_i l hl;rw[qz _ _ _ hz];exact hl
   .simp at hz
  |cons p w ih=>
   obtain⟨r',o'⟩:=p;intro r o z;cases z with
   |inl y=>
    refine⟨r,o,px (gT r++gT o) y,by simp,fun s hz=>?_,fun Q hQ=>hQ⟩;simp only[IN]at hz;split at hz
    .rename_i l hl;split at hz
     .rename_i y2 hy;have e:y2=y:=by have:=aa hz;cases this;rfl
      subst e;rw[qz _ _ _ hy];exact hl
     .simp at hz
    .split at hz
     .have:=aa hz;cases this
     .simp at hz
   |inr y=>
    obtain⟨r2,o2,l,h1,h2,h3⟩:=ih r' o' y;refine⟨r2,o2,l,aF _ h1,fun s hz=>?_,fun Q hQ=>h3 Q hQ⟩;simp only[IN]at hz;split at hz
    .split at hz
     .have:=aa hz;cases this
     .simp at hz
    .split at hz
     .rename_i y2 hy;have e:y2=y:=by have:=aa hz;cases this;rfl
      subst e;exact h2 s hy
     .simp at hz
 intro al z;cases al with|nil=>exact nomatch z|cons p w=>exact key w p.1 p.2 z
theorem Lp{P:Program}(hm:P.follows .mixedOrders=true){cH:Bz}{f np:Nat}{an:List (Nat×An)}{F:F2}{tb:EF}(htb:qn P tb)(hg:mn)(hF:Bm P cH f np an=some F){ps:List (Bool×Sh)}{al:Wy}(hnp:ps.length=np)(hps:BU ps=true)(hal:QH al=true)
  {p:rg (gT (ps.map (·.2)))} {z:v9 al} (hz:QK tb (some F) ps al p=some z):
  L9 (fun rs os l=>Cz P f (gR ps (px (gT (ps.map (·.2))) p)) (mO rs (l.take (gT rs).length)) (lB os (l.drop (gT rs).length))) al z:=by
 obtain⟨G,hG,hGn,hGr,hGb⟩:=Gq hF;simp only[QK]at hz;split at hz
 case h_2=>simp at hz
 rename_i s hs;have hr:=IT hs hps
 -- the ways that the run may end in
 have hend:∀o s1',Qf (mU F.body) (pG (gR ps (px _ p))) s (fun o s=>match o with|.exit _=>none|_=>Nf F.k8 s al) z o s1'->wk (fun s1''=>∃s',R2 s1'' s'/\s1''.gh.length=(pG (gR ps (px _ p))).gh.length/\(∀i,o≠.exit i)/\Nf F.k8 s' al=some z) s1':=by
  intro o s1' h;refine wk.mono h fun s1''⟨s',h1,⟨w,h2,h3⟩,h4⟩=>⟨s',h1,h3.gl,fun i e=>?_,?_⟩
  .subst e;simp at h4
  .cases o with|exit i=>simp at h4|_=>exact h4
 have hW:=W.mono hend (IP htb hg F.body _ s _ z hz hr);obtain⟨r,o,l,h1,h2,h3⟩:=Oo (k8:=F.k8) al z;refine h3 _ (Nb hm hG (m:=r.map F0) ⟨?_,hGb _ _ (W.mono (fun cF s1' h=>?_) hW)⟩)
 .rw [IV,hnp,hGn]
 .have hf:=bq.1 hal (r,o) h1;simp only[ai]at hf;have fin:wk (fun s=>s.gh.length=(pG (gR ps (px (gT (ps.map (·.2))) p))).gh.length/\∃rs0,xg G.k8 s rs0 (lB o (l.drop (gT r).length))/\uG (r.map F0) rs0=mO r (l.take (gT r).length)) s1':=by refine wk.mono h fun s1''⟨s',k1,k2,_,k4⟩=>⟨k2,?_⟩;rw[hGr];exact IL hg k1 (h2 s' k4) hf.1 hf.2
  cases cF with|normal=>exact fin|ret=>exact fin|exit i=>obtain⟨_,_,_,_,_,k,_⟩:=h;exact absurd rfl (k i)
theorem bU{P:Program}(hm:P.follows .mixedOrders=true)(hg:mn){cH:Bz}{f np:Nat}{an:List (Nat×An)}{tb:EF}(htb:qn P tb){sp:j8}
  (h1:(L7 sp&&kV sp.ps.length np&&QH sp.al)=true) (h3:(fun p=>QK tb (Bm P cH f np an) sp.ps sp.al p)=sp.fn):cJ P f sp:=by
 simp only[ai]at h1;obtain⟨⟨h4,h5⟩,h6⟩:=h1;refine⟨h4,fun p z hz=>?_⟩;have hp:BU sp.ps=true:=by simp only[L7,ai]at h4;exact h4.1.1.2
 rw[<-h3]at hz;have hz:QK tb (Bm P cH f np an) sp.ps sp.al p=some z:=hz;cases hF:Bm P cH f np an with|none=>rw[hF]at hz;simp[QK]at hz|some F=>rw[hF]at hz;exact Lp hm htb hg hF (dC h5) hp h6 hz
theorem M7{v:V}{d:D}(hv:∀g w,M8 g=some w->g=0/\w=v)(h0:Pj 0=some d)(hd:∀h n,fX h v (.c (.d d))/\eY n h v/\ir h v=true):mn:=fun g w hg=>by obtain⟨rfl,rfl⟩:=hv g w hg;exact⟨d,h0,hd⟩
section
variable{P:Program}{sz:Nat}{z:List Value}{ao:List (List D)}{i j:Int}
end
section
variable{H:bM}{nx:Nat}
end
section
variable{P:Program}{z:List Value}{ao:List (List D)}{x:List D}{i:Int}
end
open Go.ChangeShapes Go.WideShapes Go.ChangeAt Go.RowKit
def wV:(t:Ty)->El t->Prop
 |.i k,x=>k.min<=x/\x<=k.max
 |.s,s=>s.size<=maxLen
 |.f k,b=>(Lit.float k b).wf=true
 |.sl t,s=>s.l.length<=maxLen/\∀x∈s.l,wV t x
 |.pr a c,v=>wV a v.1/\wV c v.2
 |.st t,v=>wV t v
 |.ar _ t,v=>∀x∈v.1,wV t x
 |_,_=>True
def In(P:Program)(ok:TypeId->Bool)(sz:TypeId->Nat):List Field->Nat->Nat->Bool
 |[],off,OA=>kV off OA
 |f::r,off,OA=>ok f.type&&kV f.offset off&&kV (P.cellsOf f.type) (sz f.type)&&In P ok sz r (off+sz f.type) OA
def G4(P:Program):Nat->TypeId->Bool
 |0,_=>false
 |n+1,t=>match P.underlying t with|some (.int _)|some .bool|some .string|some (.float _)=>true|some (.slice e)=>G4 P n e&&Nat.blt 0 (ce (eM P n e))&&kV (P.cellsOf e) (ce (eM P n e))|some (.struct fs)=>In P (G4 P n) (fun t=>ce (eM P n t)) fs.toList 0 (P.cellsOf t)|some (.array m e)=>G4 P n e&&kV (P.cellsOf e) (ce (eM P n e))&&kV (P.cellsOf t) (m*ce (eM P n e))|_=>false
theorem J0{P:Program}:∀(n:Nat)(t:TypeId),G4 P n t=true->rK P t (a_ (eM P n t)) (wV (eM P n t)):=by
 intro n;induction n with
 |zero=>intro t h;simp[G4]at h
 |succ n ih=>
  intro t h;simp only[G4]at h;split at h
  .rename_i k hu;rw[show eM P (n+1) t=.i k by simp only[eM,hu]];exact Ih hu
  .rename_i hu;rw[show eM P (n+1) t=.b by simp only[eM,hu]];exact FK hu
  .rename_i hu;rw[show eM P (n+1) t=.s by simp only[eM,hu]];exact BY hu
  .rename_i k hu;rw[show eM P (n+1) t=.f k by simp only[eM,hu]];exact Dw hu
  .rename_i e hu;simp only[ai]at h;obtain⟨⟨h1,h2⟩,h3⟩:=h;rw[show eM P (n+1) t=.sl (eM P n e)by simp only[eM,hu]];exact Dv (enc:=a_ (eM P n e)) hu (dC h3) (by simpa[Nat.blt_eq]using h2) (fun a=>bV _ a) (ih e h1)
  .rename_i fs hu;rw[show eM P (n+1) t=.st (eM.QW (fs.toList.map fun f=>eM P n f.type))by simp only[eM,hu]];intro H en w fuel cs x hx;have hl:=E3 hu hx
   have key:∀(suf:List Field)(i off:Nat),(∀j,fs[i+j]?=suf[j]?)->In P (G4 P n) (fun t=>ce (eM P n t)) suf off (P.cellsOf t)=true->
     ∃v:El (eM.QW (suf.map fun f=>eM P n f.type)),wV _ v/\kT w (cs.drop off) (a_ _ v):=by
    intro suf;induction suf with
    |nil=>intro i off _ hok;have e:=dC hok;exact⟨(),trivial,kT.nil (by rw[gQ,hl,e];omega)⟩
    |cons f r ihr=>
     intro i off hi hok;simp only[In,ai]at hok;obtain⟨⟨⟨k1,k2⟩,k3⟩,k4⟩:=hok;have k2:=dC k2;have k3:=dC k3;have hf:fs[i]?=some f:=by have:=hi 0;simpa using this
     obtain⟨a,f1,c1⟩:=Dx hu hx hf (ih f.type k1);rw[k2,k3]at c1;obtain⟨v,f2,c2⟩:=ihr (i+1) (off+ce (eM P n f.type)) (fun j=>by have:=hi (j+1);rw[show i+1+j=i+(j+1)by omega,this];rfl) k4
     have hle:off+ce (eM P n f.type)<=cs.length:=by
      have hmono:∀(suf:List Field)(off:Nat),In P (G4 P n) (fun t=>ce (eM P n t)) suf off (P.cellsOf t)=true->off<=P.cellsOf t:=by intro suf;induction suf with|nil=>intro off h;exact Nat.le_of_eq (dC h)|cons g r ih=>intro off h;simp only[In,ai]at h;have:=ih _ h.2;omega
      rw[hl];exact hmono r _ k4
     have hfield:=kT.field c1 rfl c2 hle;cases r with|nil=>have e:a_ (eM.QW (([]:List Field).map fun f=>eM P n f.type)) v=[]:=rfl;rw[e,bR]at hfield;exact⟨a,f1,hfield⟩|cons g r=>exact⟨(a,v),⟨f1,f2⟩,hfield⟩
   obtain⟨v,f1,c1⟩:=key fs.toList 0 0 (fun j=>by simp) h;exact⟨v,f1,by rw[ck]at c1;exact c1⟩
  .rename_i m e hu;simp only[ai]at h;obtain⟨⟨h1,h2⟩,h3⟩:=h;have h2:=dC h2;have h3:=dC h3;rw[show eM P (n+1) t=.ar m (eM P n e)by simp only[eM,hu]];intro H en w fuel cs x hx;have hl:=Jg hu hx
   have key:∀j,j<=m->∃l:List (El (eM P n e)),l.length=j/\(∀y∈l,wV _ y)/\kT w (cs.drop ((m-j)*ce (eM P n e))) (l.flatMap (a_ (eM P n e))):=by
    intro j;induction j with
    |zero=>intro _;exact⟨[],rfl,fun y hy=>by simp at hy,kT.nil (by rw[gQ,hl,h3];simp)⟩
    |succ j ihj=>
     intro hj;obtain⟨l,l1,l2,l3⟩:=ihj (by omega);obtain⟨a,f1,c1⟩:=FJ hu hx (i:=m-(j+1)) (by omega) (ih e h1);rw[h2]at c1;have hs:(m-(j+1))*ce (eM P n e)+ce (eM P n e)=(m-j)*ce (eM P n e):=by rw[show m-j=(m-(j+1))+1 by omega,Nat.succ_mul]
     refine⟨a::l,by simp[l1],fun y hy=>?_,?_⟩
     .rcases aQ.1 hy with rfl|hy
      .exact f1
      .exact l2 y hy
     .rw [List.flatMap_cons];refine kT.field c1 hs l3 ?_;rw[hl,h3];exact Nat.mul_le_mul_right _ (by omega)
   obtain⟨l,l1,l2,l3⟩:=key m (aw _);rw[Nat.sub_self,Nat.zero_mul,ck]at l3;exact⟨⟨l,l1⟩,l2,l3⟩
  .simp at h
def EL:List Ty->List V->Prop
 |[],l=>l=[]
 |a::r,l=>∃(v:El a)(m:List V),l=.x a v::m/\wV a v/\EL r m
theorem Ho{a:Ty}(v:El a):uJ a (.x a v)=some v:=by simp[uJ,gH]
theorem EL.iP:∀{cs:List Ty}{l:List V},EL cs l->∃p,wq cs l=some p/\px cs p=l:=by
 have key:∀(r:List Ty)(a:Ty)(l:List V),EL (a::r) l->∃p,EX a r l=some p:=by intro r;induction r with|nil=>rintro a l ⟨v,m,rfl,_,hm⟩;have hm:m=[]:=hm;subst hm;exact⟨v,Ho v⟩|cons c r ih=>rintro a l ⟨v,m,rfl,_,hm⟩;obtain⟨p,hp⟩:=ih c m hm;refine⟨(v,p),?_⟩;show HD (uJ a (.x a v)) (EX c r m)=_;rw[Ho,hp];rfl
 intro cs l h;cases cs with|nil=>have h:l=[]:=h;subst h;exact⟨(),rfl,rfl⟩|cons a r=>obtain⟨p,hp⟩:=key r a l h;exact⟨p,hp,qz (a::r) l p hp⟩
theorem PV{P:Program}{n:Nat}{t:TypeId}(ho:G4 P n t=true)(h1:(nB (eM P n t)||kV (ce (eM P n t)) 1)=true){w:World}{r:Reach}{b:Nat}{v:Value}(hv:Value.okWide P w r b t v)
  {H:Type} {en:TypeId×Value->H} {x:DataW H} {ps:List MemPlace} (h:DataW.Trod en P w 0 (fun _=>true) true t v x ps):∃a:El (eM P n t),wV _ a/\RA (S0 w) w (bif nB (eM P n t)then .agg (a_ _ a)else .d ((a_ _ a).headD default)) v []:=by
 have hop:=J0 n t ho;cases hag:nB (eM P n t)with
 |true=>
  simp only[cond_true];cases n with
  |zero=>simp[G4]at ho
  |succ n=>
   simp only[G4]at ho;split at ho
   .rename_i hu;simp[eM,hu,nB]at hag
   .rename_i hu;simp[eM,hu,nB]at hag
   .rename_i hu;simp[eM,hu,nB]at hag
   .rename_i hu;simp[eM,hu,nB]at hag
   .rename_i hu;simp[eM,hu,nB]at hag
   .rename_i fs hu;exact NG hop hv hu h
   .rename_i m e hu;exact NF hop hv hu h
   .simp at ho
 |false=>
  simp only[cond_false];have hsz:ce (eM P n t)=1:=by rw[hag,Bool.false_or]at h1;exact dC h1
  have he:(fun a=>[(a_ (eM P n t) a).headD default])=a_ (eM P n t):=by
   funext a;have hl:=bV (eM P n t) a;rw[hsz]at hl
   match hh:a_ (eM P n t) a,hl with|[d],_=>rfl
  have hs:match P.underlying t with|some (.struct _)|some (.array _ _)|some (.interface _)|some (.func ..)|some (.chan ..)|some .unsafePointer|some (.map _ _)=>False|_=>True:=by
   cases n with
   |zero=>simp[G4]at ho
   |succ n=>
    simp only[G4]at ho;split at ho
    .rename_i hu;rw[hu];trivial
    .rename_i hu;rw[hu];trivial
    .rename_i hu;rw[hu];trivial
    .rename_i hu;rw[hu];trivial
    .rename_i hu;rw[hu];trivial
    .rename_i fs hu;simp[eM,hu,nB]at hag
    .rename_i m e hu;simp[eM,hu,nB]at hag
    .simp at ho
  exact QZ (d:=fun a=>(a_ (eM P n t) a).headD default) (fit:=wV (eM P n t)) (by rw[he];exact hop) hv hs h
def Q5(P:Program)(ts:List TypeId):Bool:=ts.all fun t=>G4 P IX t&&(nB (eM P IX t)||kV (ce (eM P IX t)) 1)
theorem NE{P:Program}{W:World}{aT:Nat}{H:Type}{en:TypeId×Value->H}:∀(ts:List TypeId)(vs:List Value)(ds:List (DataW H))(ps:List MemPlace),DataW.TrodAll en P W 0 (fun _=>true) true ts vs ds ps->Q5 P ts=true->
  (∀(j:Nat)t v,ts[j]?=some t->vs[j]?=some v->Value.okWide P W .any aT t v)->∃l,EL (ts.map (eM P IX)) l/\L6 (S0 W) W (gR (ts.map fun t=>(false,Sh.x (eM P IX t))) l) vs []:=by
 intro ts;induction ts with
 |nil=>intro vs ds ps h _ _;cases vs with|nil=>exact⟨[],rfl,rfl⟩|cons=>cases ds<;>exact h.elim
 |cons t ts ih=>
  intro vs ds ps h hok hv;cases vs with
  |nil=>cases ds<;>exact h.elim
  |cons v vs=>cases ds with|nil=>exact h.elim|cons d ds=>obtain⟨p,q,h1,h2,rfl⟩:=h;simp only[Q5,iJ,ai]at hok;obtain⟨a,f1,r1⟩:=PV hok.1.1 (by simpa using hok.1.2) (hv 0 t v rfl rfl) h1;obtain⟨l,f2,r2⟩:=ih vs ds q h2 (by simpa[Q5]using hok.2) fun j t' v' ht hv'=>hv (j+1) t' v' (by simpa using ht) (by simpa using hv');exact⟨.x _ a::l,⟨a,l,rfl,f1,f2⟩,[],[],rfl,r1,r2⟩
theorem PG:∀(tys:List Ty),gT ((tys.map fun t=>(false,Sh.x t)).map (·.2))=tys:=by intro tys;induction tys with|nil=>rfl|cons a r ih=>show a::gT ((r.map fun t=>(false,Sh.x t)).map (·.2))=a::r;rw[ih]
theorem I1{P:Program}{f:FuncId}{fn:Func}{s:ChangeSpec}{mm gG handsOn again:Bool}{tb:TypeId}{H:Type}{en:TypeId×Value->H}(hl:laidOutB P=true)(hfn:P.funcs[f]?=some fn)(hbody:fn.body.isSome=true)(hname:(fn.name== "runtime.NumGoroutine")=false)
  (hts:fn.params.toList.all (fun t=>P.readableRec t&&decide (t<P.types.size))=true) (hrt:fn.resultTypes= #[tb]) (htb:P.underlying tb=some .bool) (hvars:s.vars=[])
  {W:World} {args:Array Value} {ds gs:List (DataW H)} {eX:List MemPlace} (hW:DataW.Whole en P fn.params.toList s.vars mm W args.toList ds gs eX)
  (hspec:(s.fn H (ds++gs)).results=[.lit (.bool true)]/\(s.fn H (ds++gs)).args=ds/\(s.fn H (ds++gs)).vars=[])
  (hgl:Ay (S0 W) W) {aT:Nat} (hval:∀(j:Nat)t v,fn.params[j]?=some t->args[j]?=some v->Value.okWide P W .any aT t v)
  {tys:List Ty} (hty:fn.params.toList.map (eM P IX)=tys) (hok:Q5 P fn.params.toList=true) {ro:Bool} {j7:List Bool} {g:rg (gT ((tys.map fun t=>(false,Sh.x t)).map (·.2)))->Option (v9 [([.x .b],[])])}
  (hsp:cJ P f ⟨tys.map fun t=>(false,Sh.x t),[([.x .b],[])],ro,j7,g⟩) (law:∀p,EL (gT ((tys.map fun t=>(false,Sh.x t)).map (·.2))) (px _ p)->g p=some true):
  Calls P f args W fun e W'=>∃v,e=.returned v/\s.post en P fn mm gG handsOn again W args v W':=by
 have hW':=hW;obtain⟨p,q,hA0,hV,hpq,hfz,hnd⟩:=hW;have hA:DataW.TrodAll en P W 0 (fun _=>true) true fn.params.toList args.toList ds p:=hA0;obtain⟨l,h1,h2⟩:=NE (aT:=aT) _ _ _ _ hA hok fun j t v ht hv=>hval j t v (by simpa using ht) (by simpa using hv);have h3:fn.params.toList.map (fun t=>(false,Sh.x (eM P IX t)))=tys.map fun t=>(false,Sh.x t):=by rw[<-hty,lN];rfl
 rw[h3]at h2;rw[hty,<-PG tys]at h1;obtain⟨pl,hp,hu⟩:=h1.iP;have hg:=hsp.2 pl true (law pl (by rw[hu];exact h1));rw[<-hu]at h2;exact Lz hl hfn hbody hname hts hrt htb hvars hW' hspec hgl ⟨_,h2,hg⟩
end Go.Ev
