/- Code: what is evaluated is what the abstract machine does. Conditions: as stated. -/
import Derived.Test.YthcplpfiidlinaaDoorKh
import Derived.Test.YthcplpfiidlinaaDoorEvY
open Bool renaming and_eq_true->ai,and_eq_true_iff->dp,false_eq_true->aT
open List renaming all_cons->iN,all_eq_true->bd,append_nil->bC,cons_append->aU,drop_zero->cT,headD_cons->bX,length_append->av,length_drop->fL,map_cons->aD,map_map->lN,map_nil->aW,mem_append->ap,mem_append_left->aE,mem_append_right->aG,mem_cons->aN,mem_cons_of_mem->aC,nil_append->bl,nil_sublist->kf
open List.Sublist renaming refl->bM
open Nat renaming beq->kZ,ble->jg,eq_of_beq_eq_true->dD,le_of_ble_eq_true->jf,le_refl->au,le_trans->fq
open Option.some renaming inj->aa
open Prod.mk renaming inj->ad
namespace Go.Ev
theorem Cv(j:J)(s0 s:S2):xE j s0 s=Bw j s0 (Av j.vs s):=rfl
theorem Cu{j:J}{s1':St}{s0 s':S2}{l:List V}(hr:R2 s1' s')(hc:xE j s0 s'=some l):∀i∈s'.wo,s0.next<=i\/i∈j.kl:=by
 obtain⟨s1c,_,_,wc,hwc,_⟩:=Br j.vs s1' s' hr;rw[Cv]at hc;unfold Bw at hc;split at hc
 case h_2=>simp at hc
 split at hc
 case h_2=>simp at hc
 split at hc
 case h_2=>simp at hc
 obtain⟨hchk,_⟩:=aP hc;simp only[ai,bd]at hchk;intro i hi;have:=hchk.1 i (by rw[hwc];simp[hi]);simpa[Nat.ble_eq]using this
theorem tn{j:J}{ds w:List Nat}{s1 s1':St}{s0 s' s'':S2}{l:List V}(hr0:R2 s1 s0)(hr:R2 s1' s')(hf:xu ds w s1 s1' s0 s')(hw:∀i∈w,s0.next<=i\/i∈j.kl)(hc:xE j s0 s'=some l)(hs:uJ j ds s0 l=some s''):
  ∃s1'' w',Sub s1' s1''/\R2 s1'' s''/\s''.wo=w'++s0.wo/\xu ds w' s1 s1'' s0 s''/\∀i∈w',s0.next<=i\/i∈j.kl:=by
 obtain⟨s1c,hsub,hrc,wc,hwc,hfc⟩:=Br j.vs s1' s' hr;have hc2:=hc;rw[Cv]at hc2
 have hwcc:∀i∈wc,s0.next<=i\/i∈j.kl:=by
  unfold Bw at hc2;split at hc2
  case h_2=>simp at hc2
  split at hc2
  case h_2=>simp at hc2
  split at hc2
  case h_2=>simp at hc2
  obtain⟨hchk,_⟩:=aP hc2;simp only[ai,bd]at hchk;intro i hi;have:=hchk.1 i (by rw[hwc];simp[hi]);simpa[Nat.ble_eq]using this
 obtain⟨s1'',w',h1,h2,h3,h4,h5⟩:=Rf (w:=wc++w) hr0 hrc (hf.trans (hfc.mono (fun t ht=>by simp at ht) fun i hi=>hi)) (fun i hi=>by
  rcases ap.1 hi with hi|hi
  .exact hwcc i hi
  .exact hw i hi) (by rw[<-Cv];exact hc) hs
 exact⟨s1'',w',hsub.trans h1,h2,h3,h4,h5⟩
theorem HF{β:Type}{s0 s':S2}{o:sn}{ds:List Nat}{k:sn->S2->Option β}{z:β}:∀(e:Ex)(x:EU e),Ji s0 o s' e=some x->KU ds s0 k e x=some z->∃j∈e,∃l s'',xE j.2 s0 s'=some l/\uJ j.2 ds s0 l=some s''/\k o s''=some z:=by
 have fin:∀(j:J)(p:qH (pZ j))(l:List V),v_ (pZ j) l=some p->(match uJ j ds s0 (o9 (pZ j) p)with|some s=>k o s|none=>none)=some z->∃s'',uJ j ds s0 l=some s''/\k o s''=some z:=by
  intro j p l h1 h2;rw[qb _ _ _ h1]at h2;split at h2
  .rename_i s'' hs;exact⟨s'',hs,h2⟩
  .simp at h2
 have key:∀(r:Ex)(o1:sn)(j:J)(x:EU.Nd j r),LW s0 o s' o1 j r=some x->Ql ds s0 k o1 j r x=some z->∃j'∈(o1,j)::r,∃l s'',xE j'.2 s0 s'=some l/\uJ j'.2 ds s0 l=some s''/\k o s''=some z:=by
  intro r;induction r with
  |nil=>
   intro o1 j x hx hz;simp only[LW]at hx;obtain⟨ho,hx2⟩:=aP hx;clear hx;obtain rfl:o=o1:=by simpa using ho
   split at hx2
   .rename_i l hl;obtain⟨s'',h1,h2⟩:=fin j x l hx2 hz;exact⟨(o,j),by simp,l,s'',hl,h1,h2⟩
   .simp at hx2
  |cons q r ih=>
   obtain⟨o2,j2⟩:=q;intro o1 j x hx hz;simp only[LW]at hx;cases hd:decide (o=o1)with
   |true=>
    rw[hd,cond_true]at hx;obtain rfl:o=o1:=by simpa using hd
    split at hx
    .rename_i l hl;split at hx
     .rename_i p hp;obtain rfl:=aa hx;obtain⟨s'',h1,h2⟩:=fin j p l hp hz;exact⟨(o,j),by simp,l,s'',hl,h1,h2⟩
     .simp at hx
    .simp at hx
   |false=>
    rw[hd,cond_false]at hx;split at hx
    .rename_i y hy;obtain rfl:=aa hx;obtain⟨j',h1,h2⟩:=ih o2 j2 y hy hz;exact⟨j',aC _ h1,h2⟩
    .simp at hx
 intro e x hx hz;cases e with|nil=>exact nomatch x|cons q r=>exact key r q.1 q.2 x hx hz
def RY{β:Type}(ds:List Nat)(s1:St)(s:S2)(k:sn->S2->Option β)(z:β)(o:sn)(s1':St):Prop:=wk (fun s1''=>∃s',R2 s1'' s'/\Fr ds s1 s1'' s s'/\k o s'=some z) s1'
theorem Jx{P:Program}{tb:ET}(htb:pS P tb)(hg:lQ):∀(c:C2){β:Type}(s1:St)(s:S2)(k:sn->S2->Option β)(z:β),xC tb c s k=some z->R2 s1 s->W P (nD c) s1 (RY (mW c) s1 s k z):=by
 intro c;induction c with
 |skip=>intro β s1 s k z hz hr;exact wk.of (wk.of ⟨s,hr,Fr.refl,hz⟩)
 |exit id=>intro β s1 s k z hz hr;exact wk.of (wk.of ⟨s,hr,Fr.refl,hz⟩)
 |ret=>intro β s1 s k z hz hr;exact wk.of (wk.of ⟨s,hr,Fr.refl,hz⟩)
 |gx=>intro β s1 s k z hz hr;simp[xC]at hz
 |N3 ops dr jn=>
  intro β s1 s k z hz hr;cases jn with
  |none=>refine W.mono (fun o s1' h=>?_) (Dm (jn:=none) htb hg (show HO tb ops dr s (fun s=>k .normal s)=some z by simpa only[xC]using hz) hr);obtain⟨rfl,s',h1,h2,h3⟩:=h;exact wk.of ⟨s',h1,h2,h3⟩
  |some j=>
   simp only[xC]at hz;obtain⟨p,hp,hz⟩:=rT hz;refine W.mono (fun o s1' h=>?_) (Dm (jn:=some j) htb hg hp (hr.wo []));obtain⟨rfl,s',h1,⟨w,h2,h3⟩,h4⟩:=h;split at h4
   .rename_i l hl;rw[qb _ _ _ h4]at hz;split at hz
    .rename_i s'' hs;have hf:xu (ops.filterMap (·.o.dst)) w s1 s1' s s':=⟨h3.le,h3.eQ,h3.gl,h3.ob,h3.dH⟩
     obtain⟨s1'',w',g1,g2,g3,g4,_⟩:=tn hr h1 hf (fun i hi=>Cu h1 hl i (by rw[h2];simp[hi])) hl hs;exact⟨s1'',g1,s'',g2,⟨w',g3,g4⟩,hz⟩
    .simp at hz
   .simp at h4
 |seq a b e iha ihb=>
  intro β s1 s k z hz hr;have go:∀(o:sn)(s1' s1'':St)(s':S2),Sub s1' s1''->R2 s1'' s'->Fr (mW a) s1 s1'' s s'->(match o with|.normal=>xC tb b s' k|o=>k o s')=some z->uw (fun s'=>W P (nD b) s' (RY (mW (.seq a b e)) s1 s k z)) (RY (mW (.seq a b e)) s1 s k z) o s1':=by intro o s1' s1'' s' hsub h1 h2 h3;have hda:∀t∈mW a,t∈mW (.seq a b e):=fun t ht=>aE _ ht;have hdb:∀t∈mW b,t∈mW (.seq a b e):=fun t ht=>aG _ ht;cases o with|normal=>refine W.sub hsub (W.mono (fun o s2 h=>?_) (ihb s1'' s' k z h3 h1));exact wk.mono h fun _⟨s3,g1,g2,g3⟩=>⟨s3,g1,(h2.mono hda).trans (g2.mono hdb),g3⟩|exit id=>exact⟨s1'',hsub,s',h1,h2.mono hda,h3⟩|ret=>exact⟨s1'',hsub,s',h1,h2.mono hda,h3⟩
  cases e with
  |nil=>simp only[xC]at hz;refine Pn (W.mono (fun o s1' h=>?_) (iha s1 s _ z hz hr));obtain⟨s1'',hsub,s',h1,h2,h3⟩:=h;exact go o s1' s1'' s' hsub h1 h2 h3
  |cons q r=>
   simp only[xC]at hz;obtain⟨x,hx,hz⟩:=rT hz;refine Pn (W.mono (fun o s1' h=>?_) (iha s1 {s with wo:=[]} _ x hx (hr.wo [])));obtain⟨s1'',hsub,s',h1,⟨w,h2,h3⟩,h4⟩:=h;obtain⟨j,_,l,s'',g1,g2,g3⟩:=HF (q::r) x h4 hz;have hf:xu (mW a) w s1 s1'' s s':=⟨h3.le,h3.eQ,h3.gl,h3.ob,h3.dH⟩
   obtain⟨s2,w',k1,k2,k3,k4,_⟩:=tn hr h1 hf (fun i hi=>Cu h1 g1 i (by rw[h2];simp[hi])) g1 g2;exact go o s1' s2 s'' (hsub.trans k1) k2 ⟨w',k3,k4⟩ g3
 |cond c a b iha ihb=>
  intro β s1 s k z hz hr;have hda:∀t∈mW a,t∈mW (.cond c a b):=fun t ht=>aE _ ht;have hdb:∀t∈mW b,t∈mW (.cond c a b):=fun t ht=>aG _ ht
  have go:∀t,kU s1.dH c=some (tB t)->(bif t then xC tb a s k else xC tb b s k)=some z->W P (nD (.cond c a b)) s1 (RY (mW (.cond c a b)) s1 s k z):=by
   intro t hc hz;refine PZ (t:=t) hc (fun ht=>?_) fun ht=>?_
   .subst ht;exact W.mono (fun o s2 h=>wk.mono h fun _⟨s3,g1,g2,g3⟩=>⟨s3,g1,g2.mono hda,g3⟩) (iha s1 s k z hz hr)
   .subst ht;exact W.mono (fun o s2 h=>wk.mono h fun _⟨s3,g1,g2,g3⟩=>⟨s3,g1,g2.mono hdb,g3⟩) (ihb s1 s k z hz hr)
  simp only[xC]at hz;split at hz
  .rename_i t ht;obtain⟨x,h1,h2,_⟩:=oz hg hr ht;rw[v7 h2]at h1;exact go t h1 hz
  .rename_i t ht;obtain⟨x,h1,h2,_⟩:=oz hg hr ht;rw[G9 h2]at h1;exact go t h1 hz
  .simp at hz
 |block id a ih=>
  intro β s1 s k z hz hr;simp only[xC]at hz;refine Nz (W.mono (fun o s1' h=>?_) (ih s1 s _ z hz hr));cases o with
  |normal=>exact h
  |ret=>exact h
  |exit i=>
   simp only[vS];obtain⟨s1'',hsub,s',h1,h2,h3⟩:=h;by_cases e:i=id
   .subst e;rw[if_pos rfl];simp only[beq_self_eq_true,cond_true]at h3;exact⟨s1'',hsub,s',h1,h2,h3⟩
   .rw [if_neg e];have e':(i==id)=false:=by simpa using e
    simp only[e',cond_false]at h3;exact⟨s1'',hsub,s',h1,h2,h3⟩
 |loop j e a ih=>
  intro β s1 s k z hz hr;simp only[xC]at hz;obtain⟨hkl,hz⟩:=aP hz;have hkl:∀x∈e,∀i∈j.kl,i∈x.2.kl:=fun x hx i hi=>by have:=bd.1 (bd.1 hkl x hx) i hi;simpa using this
  split at hz
  case h_2=>simp at hz
  rename_i l hl;split at hz
  case h_2=>simp at hz
  rename_i p0 hp0;obtain⟨x,hx,hz⟩:=rT hz;obtain⟨n,hn⟩:=pf.1 hx;clear hx
  generalize hf:(fun(p:qH (pZ j))=>(match uJ j (mW a) s (o9 (pZ j) p)with
     |some s1=>xC tb a {s1 with wo:=[]} fun o s'=>(match o with
      |.normal=>(match xE j s s' with|some l=>(match v_ (pZ j) l with|some q=>some (Sum.inl q)|none=>none)|none=>none)
      |o=>(match Ji s o s' e with|some x=>some (Sum.inr x)|none=>none))
     |none=>none:Option (qH (pZ j)⊕EU e)))=f at hn
  have hrs:∀n p,jl f n p=some x->∃s2,uJ j (mW a) s (o9 (pZ j) p)=some s2:=by
   intro n p h;cases n with
   |zero=>simp[jl]at h
   |succ n=>
    cases hq:uJ j (mW a) s (o9 (pZ j) p)with
    |some s2=>exact⟨s2,rfl⟩
    |none=>
     have:f p=none:=by rw[<-hf];simp only[hq]
     simp[jl,this]at h
  refine⟨fun n t=>∃p s2 w,jl f n p=some x/\uJ j (mW a) s (o9 (pZ j) p)=some s2/\R2 t s2/\xu (mW a) w s1 t s s2/\∀i∈w,s.next<=i\/i∈j.kl,n,?_,?_⟩
  .obtain ⟨s2,hs2⟩:=hrs n p0 hn;have hs3:=hs2;rw[qb _ _ _ hp0]at hs3;obtain⟨s1'',w',g1,g2,_,g4,g5⟩:=tn (w:=[]) hr (hr.wo []) ⟨au _,jy.refl _ _,rfl,fun _ _ _=>⟨rfl,fun _ _ _ h=>h⟩,fun _ _ _ h _=>h⟩ (fun i hi=>by simp at hi) hl hs3;exact⟨s1'',g1,p0,s2,w',hn,hs2,g2,g4,g5⟩
  .rintro n t ⟨p,s2,w,h1,h2,h3,h4,h5⟩;cases n with
   |zero=>simp[jl]at h1
   |succ n=>
    have hfp:f p=xC tb a {s2 with wo:=[]} fun o s'=>(match o with
      |.normal=>(match xE j s s' with|some l=>(match v_ (pZ j) l with|some q=>some (Sum.inl q)|none=>none)|none=>none)
      |o=>(match Ji s o s' e with|some x=>some (Sum.inr x)|none=>none)):=by
     rw[<-hf];simp only[h2]
    have hend:∀(o:sn)(t' t'':St)(s':S2)(y:EU e),o≠.normal->Sub t' t''->R2 t'' s'->Fr (mW a) t t'' {s2 with wo:=[]} s'->Ji s o s' e=some y->y=x->RY (mW a) s1 s k z o t':=by
     rintro o t' t'' s' y _ hsub r1 ⟨wb,e1,e2⟩ hy rfl;obtain⟨j',hj',l',s'',g1,g2,g3⟩:=HF e y hy hz;have hfw:xu (mW a) (wb++w) s1 t'' s s':=h4.trans ⟨e2.le,e2.eQ,e2.gl,e2.ob,e2.dH⟩
     obtain⟨s3,w',k1,k2,k3,k4,_⟩:=tn hr r1 hfw (fun i hi=>by
      rcases ap.1 hi with hi|hi
      .exact Cu r1 g1 i (by rw[e1];simp[hi])
      .exact (h5 i hi).imp id (hkl j' hj' i)) g1 g2
     exact⟨s3,hsub.trans k1,s'',k2,⟨w',k3,k4⟩,g3⟩
    simp only[jl]at h1;cases hr1:f p with
    |none=>simp[hr1]at h1
    |some r=>
     rw[hr1]at h1;rw[hfp]at hr1;refine W.mono (fun o t' hq=>?_) (ih t _ _ r hr1 (h3.wo []));obtain⟨t'',hsub,s',r1,r2,r3⟩:=hq;cases o with
     |normal=>
      simp only at r3;split at r3
      .rename_i l2 hl2;split at r3
       .rename_i q hq;obtain rfl:=aa r3;simp only at h1;obtain⟨wb,e1,e2⟩:=r2;obtain⟨s3,hs3⟩:=hrs n q h1;have hs4:=hs3;rw[qb _ _ _ hq]at hs4;have hfw:xu (mW a) (wb++w) s1 t'' s s':=h4.trans ⟨e2.le,e2.eQ,e2.gl,e2.ob,e2.dH⟩
        obtain⟨t3,w',k1,k2,_,k4,k5⟩:=tn hr r1 hfw (fun i hi=>by
         rcases ap.1 hi with hi|hi
         .exact Cu r1 hl2 i (by rw[e1];simp[hi])
         .exact h5 i hi) hl2 hs4
        exact⟨n,Nat.lt_succ_self n,t3,hsub.trans k1,q,s3,w',h1,hs3,k2,k4,k5⟩
       .simp at r3
      .simp at r3
     |exit id=>
      simp only at r3;split at r3
      .rename_i y hy;obtain rfl:=aa r3;exact hend (.exit id) t' t'' s' y (by simp) hsub r1 r2 hy (aa h1)
      .simp at r3
     |ret=>
      simp only at r3;split at r3
      .rename_i y hy;obtain rfl:=aa r3;exact hend .ret t' t'' s' y (by simp) hsub r1 r2 hy (aa h1)
      .simp at r3
section
variable{h:H2}{n:Nat}{h1:bF}
theorem Du{id sz lo len:Nat}{aq:List (List D)}(ho:aB h1 id=some (.aM sz aq)\/aB h1 id=some (.pJ sz aq))(hl:lo+len<=aq.length)(szo:Nat):
  ∃t bv rd,(∀k,eP h1 k (.fy szo id lo len)=some (t,bv,rd))/\sv t=.sl szo ((aq.drop lo).take len)/\bv.Sublist [id]/\(aB h1 id=some (.aM sz aq)->t=.sl szo ((aq.drop lo).take len)):=by
 by_cases ha:aB h1 id=some (.aM sz aq)
 .exact ⟨.sl szo ((aq.drop lo).take len),[id],[id],fun k=>by cases k<;>simp only[eP,ha,if_pos hl],rfl,bM _,fun _=>rfl⟩
 .have hi:=ho.resolve_left ha;exact⟨.d (.sl szo ((aq.drop lo).take len)),[],[id],fun k=>by cases k<;>simp only[eP,hi,if_pos hl],rfl,kf _,fun e=>absurd e ha⟩
theorem N_(hr:HR n h1 h){id ver:Nat}{t:Ty}{s:Sl (El t)}(ho:fO h id=some (.ar t s ver)\/fO h id=some (.im t s ver)):
  ∃q bv rd,(∀k,eP h1 k (mB (bA t) (aS t) id s)=some (q,bv,rd))/\sv q=wa (bA t) (aS t) s/\bv.Sublist [id]:=by
 cases s with
 |nil=>exact⟨_,_,_,fun k=>vn k _,rfl,kf _⟩
 |mk l=>
  have hb:aB h1 id=some (.aM (bA t) (l.map (aS t)))\/aB h1 id=some (.pJ (bA t) (l.map (aS t))):=by
   rcases ho with ho|ho
   .exact .inl ((hr.ob id _ ho).2.1.2.2 l rfl)
   .exact .inr ((hr.ob id _ ho).2.1.2.2 l rfl)
  obtain⟨q,bv,rd,g1,g2,g3,_⟩:=Du (lo:=0) (len:=(l.map (aS t)).length) hb (by omega) (bA t);rw[t6]at g2;exact⟨q,bv,rd,g1,g2,g3⟩
theorem L9{t:Ty}(s:Sl (Sl (El t))):sv (ym t s)=wa 1 (aS (.sl t)) (s:Sl (El (.sl t))):=by cases s with|nil=>rfl|mk l=>simp only[ym,sv,wa,lN];congr 1;exact List.map_congr_left fun r _=>by cases r<;>rfl
theorem Oa(hr:HR n h1 h){id:Nat}{t:Ty}{s:Sl (Sl (El t))}(ho:fO h id=some (.rw t s none)):
  ∃bv rd,(∀k,eP h1 k (mB 1 (aS (.sl t)) id (s:Sl (El (.sl t))))=some (ym t s,bv,rd))/\bv.Sublist [id]:=by
 cases s with|nil=>exact⟨_,_,fun k=>vn k _,kf _⟩|mk l=>exact⟨_,_,fun k=>Ua (k:=k) ((hr.ob id _ ho).2.1.2.2 l rfl),bM _⟩
theorem Hk(hr:HR n h1 h){id ver lo:Nat}{t:Ty}{r:Sl (El t)}(hk:fg n h (.sb id ver lo t r))(ha:CG h id ver=true):
  ∃q bv rd,(∀k,eP h1 k (yr id lo t r)=some (q,bv,rd))/\sv q=wa (bA t) (aS t) r/\bv.Sublist [id]/\((∃u s v,fO h id=some (.ar u s v))->q=z_ (bA t) (aS t) r):=by
 obtain⟨u,s,ho⟩:=lK ha;obtain⟨_,hc⟩:=hk.2 u s ver ho;obtain⟨hz,hc⟩:=hc rfl;cases r with
 |nil=>exact⟨_,_,_,fun k=>vn k _,rfl,kf _,fun _=>rfl⟩
 |mk m=>
  cases s with
  |nil=>exact hc.elim
  |mk l=>
   obtain⟨hl,he⟩:=hc
   have hb:aB h1 id=some (.aM (bA u) (l.map (aS u)))\/aB h1 id=some (.pJ (bA u) (l.map (aS u))):=by
    rcases ho with ho|ho
    .exact .inl ((hr.ob id _ ho).2.1.2.2 l rfl)
    .exact .inr ((hr.ob id _ ho).2.1.2.2 l rfl)
   obtain⟨q,bv,rd,g1,g2,g3,g4⟩:=Du (lo:=lo) (len:=(m.map (aS t)).length) hb (by simpa using hl) (bA t);rw[show(m.map (aS t)).length=m.length by simp,he]at g2 g4;refine⟨q,bv,rd,fun k=>?_,g2,g3,?_⟩
   .have:=g1 k;simpa[yr]using this
   .rintro ⟨u',s',v',ho'⟩;rcases ho with ho|ho
    .exact g4 ((hr.ob id _ ho).2.1.2.2 l rfl)
    .rw [ho']at ho;simp at ho
theorem Ja(ds:List D):(ds.map T.d).map sv=ds:=by induction ds with|nil=>rfl|cons d ds ih=>simp only[aD,sv,ih]
theorem Ma(hr:HR n h1 h):∀(v w:V)(l:List Nat)(cs:List C),jm h v=some (w,l)->fm h v cs->fg n h v->iz h v=true->
  ∃ts bv rd,(∀k,cs.length<=k->iK h1 k cs=some (ts,bv,rd))/\fm h w ((ts.map sv).map .d)/\bv.Sublist l/\cs.length=ts.length/\tC w=tC v:=by
 have done:∀(v:V)(ds:List D),fm h v (ds.map .d)->∃ts bv rd,(∀k,(ds.map C.d).length<=k->iK h1 k (ds.map .d)=some (ts,bv,rd))/\fm h v ((ts.map sv).map .d)/\bv.Sublist ([]:List Nat)/\(ds.map C.d).length=ts.length/\tC v=tC v:=fun v ds hv=>⟨ds.map .d,[],[],fun k hk=>qf ds k (by simpa using hk),by rw[Ja];exact hv,bM _,by simp,rfl⟩
 have one:∀(c:C)(q:T)(bv rd:List Nat),(∀k,eP h1 k c=some (q,bv,rd))->∀k,[c].length<=k->iK h1 k [c]=some ([q],bv,rd):=fun c q bv rd hq k hk=>by
  obtain⟨k,rfl⟩:∃k',k=k'+1:=⟨k-1,by simp at hk;omega⟩
  exact vj (hq k)
 intro v;induction v with
 |so id=>
  intro w l cs hf hv hk ha;simp only[jm]at hf;split at hf
  .rename_i t s l' hs;obtain⟨rfl,rfl⟩:=ad (aa hf);obtain⟨ver,ho,e⟩:=uG hs;have e:l'=[id]:=e;subst e;obtain⟨c,rfl,hc,_⟩:=hv;rw[hc _ (mA ho)];obtain⟨q,bv,rd,q1,q2,q3⟩:=N_ hr ho;have hd:kL t=true:=by rcases ho with ho|ho<;>exact(hr.ob id _ ho).2.1.1
   exact⟨[q],bv,rd,one _ q bv rd q1,⟨hd,by simp only[aD,aW,q2];rfl⟩,q3,rfl,rfl⟩
  .simp at hf
 |sr id=>
  intro w l cs hf hv hk ha;simp only[jm]at hf;split at hf
  .rename_i t s ho;obtain⟨rfl,rfl⟩:=ad (aa hf);obtain⟨c,rfl,hc,_⟩:=hv;rw[hc _ (sL ho)];obtain⟨bv,rd,q1,q3⟩:=Oa hr ho;exact⟨[_],bv,rd,one _ _ bv rd q1,⟨(hr.ob id _ ho).2.1.1,by simp only[aD,aW,L9];rfl⟩,q3,rfl,rfl⟩
  .simp at hf
 |sb id ver lo t r=>intro w l cs hf hv hk ha;simp only[jm,uc]at hf;obtain⟨rfl,rfl⟩:=ad (aa hf);obtain⟨hd,ha⟩:=dp.1 ha;have ha:CG h id ver=true:=ha;obtain⟨c,rfl,hc,_⟩:=hv;rw[hc ha];obtain⟨q,bv,rd,q1,q2,q3,_⟩:=Hk hr hk ha;exact⟨[q],bv,rd,one _ q bv rd q1,⟨hd,by simp only[aD,aW,q2];rfl⟩,q3,rfl,rfl⟩
 |rc r ih=>
  intro w l cs hf hv hk ha;simp only[jm]at hf;split at hf
  .rename_i w' l' hw;obtain⟨rfl,rfl⟩:=ad (aa hf);obtain⟨ts,bv,rd,a1,a2,a3,a4,_⟩:=ih w' l' cs hw hv hk ha;exact⟨ts,bv,rd,a1,a2,a3,a4,rfl⟩
  .simp at hf
 |co a r iha ihr=>
  intro w l cs hf hv hk ha;simp only[jm]at hf;split at hf
  .rename_i x l1 y l2 hx hy;obtain⟨rfl,rfl⟩:=ad (aa hf);obtain⟨ca,cr,rfl,h2,h3⟩:=hv;simp only[iz,ai]at ha;obtain⟨ts,bv,rd,a1,a2,a3,a4,_⟩:=iha x l1 ca hx h2 hk.1 ha.1;obtain⟨us,own2,rd2,b1,b2,b3,b4,_⟩:=ihr y l2 cr hy h3 hk.2 ha.2;refine⟨ts++us,bv++own2,rd++rd2,fun k hk=>?_,⟨_,_,by simp,a2,b2⟩,a3.append b3,by simp[a4,b4],rfl⟩;simp only[av]at hk;exact vk (a1 k (by omega)) (b1 _ (by omega)) (by omega)
  .simp at hf
 |x t v=>intro w l cs hf hv hk ha;obtain⟨rfl,rfl⟩:=ad (aa hf);obtain⟨hd,rfl⟩:=hv;exact done _ _ ⟨hd,rfl⟩
 |kb c=>intro w l cs hf hv hk ha;obtain⟨rfl,rfl⟩:=ad (aa hf);obtain rfl:=hv;exact done (.kb c) [_] rfl
 |nl k=>intro w l cs hf hv hk ha;obtain⟨rfl,rfl⟩:=ad (aa hf);obtain rfl:=hv;exact done (.nl k) [_] rfl
 |fl q=>
  intro w l cs hf hv hk ha;obtain⟨rfl,rfl⟩:=ad (aa hf);obtain⟨hp,rfl⟩:=hv;have e:fz q=(q.map D.lit).map C.d:=by simp[fz]
  rw[e];exact done (.fl q) (q.map D.lit) ⟨hp,e.symm⟩
 |ni=>intro w l cs hf hv hk ha;obtain⟨rfl,rfl⟩:=ad (aa hf);obtain rfl:=hv;exact done .ni [] rfl
 |pt t v=>intro w l cs hf hv hk ha;obtain⟨rfl,rfl⟩:=ad (aa hf);obtain⟨hd,rfl⟩:=hv;exact done (.pt t v) [_] ⟨hd,rfl⟩
 |fn z f q ih=>intro w l cs hf hv hk ha;cases z with|true=>obtain⟨rfl,rfl⟩:=ad (aa hf);obtain⟨ds,hd,rfl⟩:=hv;exact done (.fn true f q) [_] ⟨ds,hd,rfl⟩|false=>simp[jm]at hf
 |_=>intro w l cs hf hv hk ha;simp[jm]at hf
def Gd:Sh->Bool
 |.x _=>true
 |_=>false
theorem M8:∀(c:Sh)(ln:Bool)(v:V)(l:List V)(i:List Nat),ei h c ln v=some (l,i)->l.length=(OT c).length:=by
 intro c;induction c with
 |x t=>
  intro ln v l i ha;cases ln with
  |true=>simp[ei]at ha
  |false=>
   simp only[ei]at ha;split at ha
   .obtain ⟨rfl,_⟩:=ad (aa ha);rfl
   .simp at ha
 |os t=>
  intro ln v l i ha;cases ln with
  |true=>simp[ei]at ha
  |false=>
   cases v with
   |so id=>
    simp only[ei]at ha;split at ha
    .split at ha
     .obtain ⟨rfl,_⟩:=ad (aa ha);rfl
     .simp at ha
    .simp at ha
   |nl k=>cases k with|zero=>obtain⟨rfl,_⟩:=ad (aa ha);rfl|succ=>simp[ei]at ha
   |_=>simp[ei]at ha
 |rw t=>
  intro ln v l i ha;cases ln with
  |true=>simp[ei]at ha
  |false=>
   cases v with
   |sr id=>
    simp only[ei]at ha;split at ha
    .split at ha
     .obtain ⟨rfl,_⟩:=ad (aa ha);rfl
     .simp at ha
    .simp at ha
   |nl k=>cases k with|zero=>obtain⟨rfl,_⟩:=ad (aa ha);rfl|succ=>simp[ei]at ha
   |_=>simp[ei]at ha
 |pb t c ih=>
  intro ln v l i ha;cases ln with
  |true=>simp[ei]at ha
  |false=>
   cases v with
   |op id u p=>
    cases p with
    |cons=>simp[ei]at ha
    |nil=>
     simp only[ei]at ha;split at ha
     .obtain ⟨_,ha⟩:=aP ha;split at ha
      .rename_i hh;obtain⟨rfl,_⟩:=ad (aa ha);exact ih _ _ _ _ hh
      .simp at ha
     .simp at ha
   |_=>simp[ei]at ha
 |nl k=>
  intro ln v l i ha;cases ln with
  |true=>simp[ei]at ha
  |false=>cases v with|nl k'=>simp only[ei]at ha;obtain⟨_,ha⟩:=aP ha;obtain⟨rfl,_⟩:=ad (aa ha);rfl|_=>simp[ei]at ha
 |st c ih=>
  intro ln v l i ha;cases ln with
  |true=>simp[ei]at ha
  |false=>
   cases v with
   |rc q=>exact ih true q l i ha
   |x t v=>cases t with|st u=>exact ih true _ l i ha|_=>simp[ei]at ha
   |_=>simp[ei]at ha
 |pr a c iha ihc=>
  intro ln v l i ha;cases ln with
  |false=>simp[ei]at ha
  |true=>
   cases v with
   |co x r=>
    simp only[ei]at ha;split at ha
    .rename_i l1 i1 l2 i2 h2 h3;obtain⟨rfl,rfl⟩:=ad (aa ha)
     have hA:l1.length=(OT a).length:=by
      split at h2
      .unfold QA at h2;split at h2
       .obtain ⟨rfl,_⟩:=ad (aa h2);rfl
       .simp at h2
      .exact iha _ _ _ _ h2
     rw[av,hA,ihc _ _ _ _ h3];simp[OT]
    .simp at ha
   |_=>simp[ei]at ha
 |ni=>
  intro ln v l i ha;cases ln with
  |false=>cases v<;>simp[ei]at ha
  |true=>cases v with|ni=>obtain⟨rfl,_⟩:=ad (aa ha);rfl|_=>simp[ei]at ha
 |_=>intro ln v l i ha;cases ln<;>cases v<;>simp[ei]at ha
theorem Pa{c:Sh}{v:V}{l:List V}{i:List Nat}(ha:ei h c false v=some (l,i))(hx:Gd c=false):tC v=xH c/\ge h v=sI h v:=by
 cases c with
 |x t=>simp[Gd]at hx
 |os t=>cases v<;>first|exact⟨rfl,rfl⟩|simp[ei]at ha
 |rw t=>cases v<;>first|exact⟨rfl,rfl⟩|simp[ei]at ha
 |pb t c=>cases v<;>first|exact⟨rfl,rfl⟩|simp[ei]at ha
 |nl k=>cases v<;>first|exact⟨rfl,rfl⟩|simp[ei]at ha
 |st c=>
  cases v with
  |rc q=>exact⟨rfl,rfl⟩
  |x t v=>cases t with|st u=>exact⟨rfl,rfl⟩|_=>simp[ei]at ha
  |_=>simp[ei]at ha
 |_=>cases v<;>simp[ei]at ha
theorem sQ{c:C}{ts:List T}{bv rd:List Nat}(hp:iK h1 301 [c]=some (ts,bv,rd)):∃t rd',eP h1 300 c=some (t,bv,rd')/\ts=[t]:=by
 simp only[iK,pp]at hp;split at hp
 .rename_i t a i xs b j hc hn;obtain⟨rfl,e⟩:=ad (aa hp);obtain⟨rfl,rfl⟩:=ad e;obtain⟨rfl,e⟩:=ad (aa hn);obtain⟨rfl,rfl⟩:=ad e;exact⟨t,i,by simpa using hc,rfl⟩
 .simp at hp
theorem KL(hr:HR n h1 h){c:Sh}{v:V}{l:List V}{i:List Nat}{x:TV}(hc:N1 h c v=some (l,i))(hx:ge h v x)(hk:fg n h v)(ha:iz h v=true)(hf:jg (qI c) 300=true):
  l.length=(OT c).length/\∃r0 bv,r_ h1 x=some (r0,bv)/\bv.Sublist i/\∀rest,(bif Gd c then Jn r0 else r0)=(bif xH c then .agg (fI c (l++rest)).1 else .c ((fI c (l++rest)).1.headD default))/\(fI c (l++rest)).2=rest:=by
 have hf:qI c<=300:=jf hf;have main:Gd c=false->ei h c false v=some (l,i)->l.length=(OT c).length/\∃r0 bv,r_ h1 x=some (r0,bv)/\bv.Sublist i/\∀rest,(bif Gd c then Jn r0 else r0)=(bif xH c then .agg (fI c (l++rest)).1 else .c ((fI c (l++rest)).1.headD default))/\(fI c (l++rest)).2=rest:=by intro hX hc;obtain⟨hag,htv⟩:=Pa hc hX;rw[htv]at hx;obtain⟨cs,h2,h3,h4⟩:=hx;obtain⟨ts,bv,rd,g1,g2,g3,_,_,g6,_⟩:=wV hr c false v l i cs hc h2 hk;refine⟨M8 _ _ _ _ _ hc,?_⟩;cases hg:xH c with|true=>obtain rfl:=h3 (hag.trans hg);refine⟨.agg ts,bv,by simp only[r_,g1 300 hf],g3,fun rest=>?_⟩;rw[g2 rest,hX];exact⟨rfl,rfl⟩|false=>obtain⟨c1,rfl,rfl⟩:=h4 (hag.trans hg);obtain⟨t,rd',p1,rfl⟩:=sQ (g1 301 (by omega));refine⟨.c t,bv,by simp only[r_,p1],g3,fun rest=>?_⟩;rw[g2 rest,hX];exact⟨rfl,rfl⟩
 cases c with
 |x t=>
  simp only[N1]at hc;split at hc
  .rename_i w l' hw;split at hc
   .rename_i y hy;obtain⟨rfl,rfl⟩:=ad (aa hc);have h5:sI h v x:=by cases v with|tp q=>simp[jm]at hw|no=>simp[iz]at ha|gn=>simp[iz]at ha|_=>exact hx
    obtain⟨cs,h2,h3,h4⟩:=h5;obtain⟨ts,bv,rd,g1,g2,g3,g4,g5⟩:=Ma hr v w l' cs hw h2 hk ha;have e:=iZ w false t y _ hy g2;have e:=pF e;have hag:tC v=nA t:=g5.symm.trans (wN hy);have hlen:cs.length=bA t:=by rw[g4,<-bJ t y,<-e,List.length_map]
    have hf2:bA t+1<=300:=hf;refine⟨rfl,?_⟩;cases hg:nA t with|true=>obtain rfl:=h3 (hag.trans hg);refine⟨.agg ts,bv,by simp only[r_,g1 300 (by omega)],g3,fun rest=>⟨?_,rfl⟩⟩;simp only[Gd,cond_true,Jn,xH,hg,fI,aU,bl,R.agg.injEq];rw[<-e,lN];rfl|false=>obtain⟨c1,rfl,rfl⟩:=h4 (hag.trans hg);obtain⟨q,rd',p1,rfl⟩:=sQ (g1 301 (by simp));refine⟨.c q,bv,by simp only[r_,p1],g3,fun rest=>⟨?_,rfl⟩⟩;simp only[Gd,cond_true,Jn,xH,hg,cond_false,fI,aU,bl,R.c.injEq];rw[<-e];rfl
   .simp at hc
  .simp at hc
 |os t=>
  cases v with
  |sb id ver lo u r=>
   simp only[N1]at hc;split at hc
   .rename_i u0 s0 v0 ho;split at hc
    .rename_i s hs;obtain⟨rfl,rfl⟩:=ad (aa hc);obtain⟨e,rfl⟩:=dw hs;cases e;obtain rfl:=qo hx ha;obtain⟨q,bv,rd,q1,_,q3,q4⟩:=Hk hr hk (dp.1 ha).2;obtain rfl:=q4 ⟨_,_,_,ho⟩;exact⟨rfl,.c (z_ (bA t) (aS t) r),bv,by simp only[r_,q1],q3,fun rest=>⟨rfl,rfl⟩⟩
    .simp at hc
   .simp at hc
  |_=>exact main rfl hc
 |_=>exact main rfl hc
theorem FH(hr:HR n h1 h):∀(cs:List Sh)(vs:List V)(l:List V)(i:List Nat)(xs:List TV),AT h cs vs=some (l,i)->mT h vs xs->(∀v∈vs,fg n h v/\iz h v=true)->cs.all (fun c=>jg (qI c) 300)=true->
  l.length=(g_ cs).length/\∃rs0 bv,uN h1 xs=some (rs0,bv)/\bv.Sublist i/\up (cs.map Gd) rs0=mQ cs l:=by
 intro cs;induction cs with
 |nil=>intro vs l i xs hc hx _ _;cases vs with|cons=>simp[AT]at hc|nil=>obtain⟨rfl,rfl⟩:=ad (aa hc);rw[lX hx];exact⟨rfl,[],[],rfl,bM _,rfl⟩
 |cons c cs ih=>
  intro vs l i xs hc hx hk hf;cases vs with
  |nil=>simp[AT]at hc
  |cons v vs=>
   simp only[AT]at hc;split at hc
   .rename_i l1 i1 l2 i2 h2 h3;obtain⟨rfl,rfl⟩:=ad (aa hc);obtain⟨y,ys,rfl,hy,hys⟩:=gU hx;simp only[iN,ai]at hf;obtain⟨e1,r0,bv,a1,a2,a3⟩:=KL hr h2 hy (hk v (by simp)).1 (hk v (by simp)).2 hf.1;obtain⟨e2,rs0,own2,b1,b2,b3⟩:=ih vs l2 i2 ys h3 hys (fun w hw=>hk w (by simp[hw])) hf.2;refine⟨by simp[g_,e1,e2],r0::rs0,bv++own2,by simp only[uN,a1,b1],a2.append b2,?_⟩;obtain⟨c1,c2⟩:=a3 l2;simp only[aD,up,mQ,c2,b3];rw[<-c1];cases Gd c<;>rfl
   .simp at hc
theorem FG(hr:HR n h1 h):∀(cs:List Sh)(g:V)(l:List V)(i:List Nat)(xs:List C),AS h cs (AI g)=some (l,i)->Kb h g xs->fg n h g->cs.all (fun c=>jg (qI c) 300&&!Gd c)=true->
  ∃bv,vR h1 xs (lr cs l) bv/\bv.Sublist i:=by
 intro cs;induction cs with
 |nil=>intro g l i xs hc hx _ _;cases g with|ni=>obtain⟨rfl,rfl⟩:=ad (aa hc);obtain rfl:=hx;exact⟨[],.nil,bM _⟩|co a r=>simp[AI,AS]at hc|_=>exact hx.elim
 |cons c cs ih=>
  intro g l i xs hc hx hk hf;cases g with
  |ni=>simp[AI,AS]at hc
  |co a r=>
   simp only[AI,AS]at hc;split at hc
   .rename_i l1 i1 l2 i2 h2 h3;obtain⟨rfl,rfl⟩:=ad (aa hc);obtain⟨y,ys,rfl,hy,hys⟩:=hx;simp only[iN,ai,Bool.not_eq_true']at hf;obtain⟨own2,b1,b2⟩:=ih r l2 i2 ys h3 hys hk.2 (by simpa using hf.2);have E2:(bif iz h a then ei h c false a else none)=some (l1,i1)->∃bv,vR h1 (y::ys) (lr (c::cs) (l1++l2)) bv/\bv.Sublist (i1++i2):=by intro h2;obtain⟨ha,h2⟩:=aP h2;obtain⟨ts,bv,rd,g1,g2,g3,_⟩:=wV hr c false a l1 i1 [y] h2 (hy ha) hk.1;have hfu:qI c<=300:=jf hf.1.1;obtain⟨t,rd',p1,rfl⟩:=sQ (g1 301 (by omega));refine⟨bv++own2,?_,g3.append b2⟩;simp only[lr,g2 l2,bX];exact .cons p1 b1
    cases c with|gn=>obtain⟨rfl,rfl⟩:=ad (aa (show some (([]:List V),([]:List Nat))=some (l1,i1)from h2));exact⟨own2,.uS b1,b2⟩|_=>exact E2 h2
   .simp at hc
  |_=>exact hx.elim
end
theorem IC(hg:lQ){s1:St}{s:S2}(hr:R2 s1 s){r:RV}{v:V}(h:N0 s r=some v):∃x,xd s1 r=some x/\ge s.heap v x/\fg s.next s.heap v/\iz s.heap v=true:=by
 cases r with
 |tmp t=>exact oz hg hr (o:=.tmp t) h
 |cell t g n=>
  simp only[N0]at h;split at h
  .rename_i p hp;split at h
   .rename_i w l hl;obtain⟨hc,h⟩:=aP h;obtain rfl:=aa h;obtain⟨x,h1,h2,h3,h4⟩:=oz hg hr hp;obtain⟨y,h5,h6,h7⟩:=ww (nx:=0) (c:=qt) hr.hr hl hc h2 h3;refine⟨y,?_,h6,h7,(oI hc).2.2.2⟩;have h1:cA s1.dH t=some x:=h1;simp only[xd,h1];cases x with
    |c pc=>
     simp only[cQ]at h5;split at h5
     .rename_i z aA hz;obtain⟨rfl,_⟩:=ad (aa h5);simp only[hz]
     .simp at h5
    |_=>simp[cQ]at h5
   .simp at h
  .simp at h
theorem Jb(hg:lQ){s1:St}{s:S2}(hr:R2 s1 s):∀(kN:List RV)(vs:List V),Ot (N0 s) kN=some vs->∃xs,eM (kN.map (xd s1))=some xs/\mT s.heap vs xs/\∀v∈vs,fg s.next s.heap v/\iz s.heap v=true:=by
 intro kN;induction kN with
 |nil=>intro vs h;obtain rfl:=aa h;exact⟨[],rfl,trivial,fun v hv=>by simp at hv⟩
 |cons r kN ih=>
  intro vs h;simp only[Ot]at h;split at h
  .rename_i x y hx hy;obtain rfl:=aa h;obtain⟨x1,a1,a2,a3⟩:=IC hg hr hx;obtain⟨xs,b1,b2,b3⟩:=ih y hy;refine⟨x1::xs,by simp only[aD,eM,a1,b1],⟨a2,b2⟩,fun v hv=>?_⟩;rcases aN.1 hv with rfl|hv
   .exact a3
   .exact b3 v hv
  .simp at h
def SA(al:Wy):Bool:=al.all fun w=>w.1.all (fun c=>jg (qI c) 300)&&w.2.all (fun c=>jg (qI c) 300&&!Gd c)
theorem Jt(hg:lQ){s1:St}{s:S2}(hr:R2 s1 s){kN:List RV}{rs os:List Sh}{l:List V}(h:Ju kN rs os s=some l)(hf1:rs.all (fun c=>jg (qI c) 300)=true)(hf2:os.all (fun c=>jg (qI c) 300&&!Gd c)=true):
  ∃rs0,wY kN s1 rs0 (lr os (l.drop (g_ rs).length))/\up (rs.map Gd) rs0=mQ rs (l.take (g_ rs).length):=by
 unfold Ju at h;split at h
 .rename_i vs hvs;split at h
  .rename_i l1 i m j h2 h3;obtain⟨hn,h⟩:=aP h;obtain rfl:=aa h;obtain⟨xs,a1,a2,a3⟩:=Jb hg hr kN vs hvs;obtain⟨e,rs0,bv,b1,b2,b3⟩:=FH hr.hr rs vs l1 i xs h2 a2 a3 hf1;obtain⟨own2,c1,c2⟩:=FG hr.hr os s.gh m j s1.gh h3 hr.gh.1 hr.gh.2 hf2;rw[<-e,List.take_left,List.drop_left];exact⟨rs0,⟨xs,bv,own2,a1,b1,c1,(b2.append c2).nodup (DM hn)⟩,b3⟩
  .simp at h
 .simp at h
section
variable{h1:bF}
theorem Ia:∀(c:Sh)(l:List V)(w:V)(l':List V),CW c l=some (w,l')->qG w=some (qZ c l).1/\l'=(qZ c l).2:=by
 intro c;induction c with
 |ni=>intro l w l' h;obtain⟨rfl,rfl⟩:=ad (aa h);exact⟨rfl,rfl⟩
 |pr a c _ ih=>
  intro l w l' h;cases a with
  |pt t=>
   match l with
   |.x u v::l=>
    simp only[CW]at h;obtain⟨hc,hh⟩:=aP h;clear h;simp only[ai,decide_eq_true_eq]at hc;obtain⟨rfl,hd⟩:=hc;split at hh
    .rename_i w2 l2 hw;obtain⟨rfl,rfl⟩:=ad (aa hh);obtain⟨h2,h3⟩:=ih l w2 l2 hw;refine⟨?_,h3⟩;simp only[qG,hd,if_true,h2,qZ]
    .simp at hh
   |[]|.kb _::_|.nl _::_|.so _::_|.sb _ _ _ _ _::_|.op _ _ _::_|.ep _ _ _ _::_|.pt _ _::_|.fn _ _ _::_|.om _::_|.rc _::_|.tp _::_|.ni::_|.co _ _::_|.fl _::_|.no::_|.gn::_=>simp[CW]at h
  |_=>simp[CW]at h
 |_=>intro l w l' h;simp[CW]at h
theorem JS:∀{w:V}{ds:List D},qG w=some ds->CF w=true:=by
 intro w;induction w with
 |pt t v=>
  intro ds h;simp only[qG]at h;split at h
  .assumption
  .simp at h
 |ni=>intro ds _;rfl
 |co a r iha ihr=>
  intro ds h;simp only[qG]at h;split at h
  .rename_i x y hx hy;simp only[CF,iha hx,ihr hy,Bool.and_self]
  .simp at h
 |_=>intro ds h;simp[qG]at h
theorem PC{h:H2}{n:Nat}{i:Nat}{u:Ty}{v:El u}(hd:kL u=true)(hs:(xH (.x u)||yN (.x u))=true):∃x,ge h (.x u v) x/\fg n h (.x u v)/\
  ∀(r:List A)(k:Nat),enter ((bif xH (.x u)then A.agg (aS u v)else A.d ((aS u v).headD default))::r) i k=((i,x)::(enter r (i+1) k).1,(enter r (i+1) k).2.1,(enter r (i+1) k).2.2.1,(enter r (i+1) k).2.2.2):=by
 cases hg:nA u with
 |true=>refine⟨.agg ((aS u v).map .d),ct ⟨_,⟨hd,rfl⟩,fun _=>rfl,fun e=>(by rw[show tC (.x u v)=nA u from rfl,hg]at e;cases e)⟩,trivial,fun r k=>?_⟩;simp only[xH,hg,cond_true,enter]
 |false=>
  have h1:bA u=1:=by simpa[xH,hg,yN]using hs
  have hl:=bJ u v;rw[h1]at hl
  match he:aS u v,hl with|[d],_=>refine⟨.c (.d d),ct ⟨[.d d],⟨hd,by rw[he];rfl⟩,fun e=>(by rw[show tC (.x u v)=nA u from rfl,hg]at e;cases e),fun _=>⟨_,rfl,rfl⟩⟩,trivial,fun r k=>?_⟩;simp only[xH,hg,cond_false,enter,bX]
theorem xm{α:Type}{a t:Nat}{x:α}{l:List (Nat×α)}(h:a≠t):cA ((a,x)::l) t=cA l t:=by simp only[cA];rw[show(a==t)=false by simpa using h,cond_false]
theorem qi{α:Type}{a:Nat}{x:α}{l:List (Nat×α)}:cA ((a,x)::l) a=some x:=by simp[cA]
theorem JC:∀(ps:List (Bool×Sh))(i:Nat)(l:List V)(s:S2)(h1:bF)(e:List (Nat×V))(s':S2),tf ps i l s=some (e,s')->BX ps=true->HR s.next h1 s.heap->s.gh=.ni->
  HR s'.next ((enter (gY ps l) i s.next).2.1++h1) s'.heap/\jy s.next s.heap s'.heap/\s.next<=s'.next/\(∀p∈(enter (gY ps l) i s.next).2.1,s.next<=p.1/\p.1<s'.next)/\
  (∀t v,cA e t=some v->fg s'.next s'.heap v/\∃x,cA (enter (gY ps l) i s.next).1 t=some x/\ge s'.heap v x)/\
  s'.next=(enter (gY ps l) i s.next).2.2.1/\Kb s'.heap s'.gh (enter (gY ps l) i s.next).2.2.2/\fg s'.next s'.heap s'.gh:=by
 intro ps;induction ps with
 |nil=>
  intro i l s h1 e s' he _ hr hg;cases l with
  |cons=>simp[tf]at he
  |nil=>
   obtain⟨rfl,rfl⟩:=ad (aa he);simp only[gY,enter,bl];refine⟨hr,jy.refl _ _,au _,fun p hp=>by simp at hp,fun t v h=>by simp[cA]at h,trivial,?_,?_⟩
   .rw [hg];rfl
   .rw [hg];trivial
 |cons p ps ih=>
  obtain⟨b,c⟩:=p;intro i l s h1 e s' he hp hr hg;simp only[BX,ai]at hp;obtain⟨hc,hps⟩:=hp
  -- data: one more temporary
  have data:∀(l2:List V)(w:V)(a:A)(x:TV),gY ((b,c)::ps) l=a::gY ps l2->(∀(r:List A)(k:Nat),enter (a::r) i k=((i,x)::(enter r (i+1) k).1,(enter r (i+1) k).2.1,(enter r (i+1) k).2.2.1,(enter r (i+1) k).2.2.2))->
    (∀h,ge h w x)->(∀n h,fg n h w)->(match tf ps (i+1) l2 s with|some (e,s)=>some ((i,w)::e,s)|none=>none)=some (e,s')->
    HR s'.next ((enter (gY ((b,c)::ps) l) i s.next).2.1++h1) s'.heap/\jy s.next s.heap s'.heap/\s.next<=s'.next/\(∀p∈(enter (gY ((b,c)::ps) l) i s.next).2.1,s.next<=p.1/\p.1<s'.next)/\
    (∀t v,cA e t=some v->fg s'.next s'.heap v/\∃x,cA (enter (gY ((b,c)::ps) l) i s.next).1 t=some x/\ge s'.heap v x)/\
    s'.next=(enter (gY ((b,c)::ps) l) i s.next).2.2.1/\Kb s'.heap s'.gh (enter (gY ((b,c)::ps) l) i s.next).2.2.2/\fg s'.next s'.heap s'.gh:=by
   intro l2 w a x ha hen hx hk he;split at he
   .rename_i e1 s1 h2;obtain⟨rfl,rfl⟩:=ad (aa he);obtain⟨a1,a2,a3,a4,a5,a6,a7,a8⟩:=ih (i+1) l2 s h1 e1 s1 h2 hps hr hg;rw[ha,hen];refine⟨a1,a2,a3,a4,fun t v h=>?_,a6,a7,a8⟩;by_cases et:i=t
    .subst et;rw[qi]at h;obtain rfl:=aa h;exact⟨hk _ _,x,qi,hx _⟩
    .rw [xm et]at h|-;exact a5 t v h
   .simp at he
  cases b with
  |true=>
   simp only[cond_true,ai]at hc;simp only[tf]at he;split at he
   .rename_i w l2 s1 hm;split at he
    .rename_i e1 s2 h2;obtain⟨rfl,rfl⟩:=ad (aa he);obtain⟨g1,g2,g3,g4,g5,_⟩:=vy c false l s w l2 s1 h1 hm hr;have hone:yN c=true:=by have:=hc.1;cases c<;>simp[vA]at this<;>rfl
     have hlen:=Cm hm hone
     match ht:(fI c l).1,hlen with
     |[t0],_=>
      have hu:iF s.next [t0]=([(k9 s.next t0).1],(k9 s.next t0).2.1++[],(k9 s.next t0).2.2):=rfl;rw[ht,hu]at g1 g3 g4;simp only[bC]at g1 g3 g4;obtain⟨k1,k2,k3,k4,k5,k6,_⟩:=g3;obtain⟨a1,a2,a3,a4,a5,a6,a7,a8⟩:=ih (i+1) l2 s1 ((k9 s.next t0).2.1++h1) e1 s2 h2 hps k1 (k4.trans hg);have hen:enter (gY ((true,c)::ps) l) i s.next=((i,.c (k9 s.next t0).1)::(enter (gY ps l2) (i+1) s1.next).1,(k9 s.next t0).2.1++(enter (gY ps l2) (i+1) s1.next).2.1,(enter (gY ps l2) (i+1) s1.next).2.2.1,(k9 s.next t0).1::(enter (gY ps l2) (i+1) s1.next).2.2.2):=by simp only[gY,ht,bX,<-g5,enter,<-g4]
      rw[hen];have hk:=gS a3 a2 g2;have hcel:=lJ a2 g2 g1;refine⟨a1.ext fun j=>wu (fun p hp q hq e=>?_) j,jy.trans k5 k2 a2,fq k5 a3,fun p hp=>?_,fun t v h=>?_,a6,⟨_,_,rfl,fun _=>hcel,a7⟩,⟨hk,a8⟩⟩
      .have:=(k6 p hp).2;have:=(a4 q hq).1;omega
      .rcases ap.1 hp with hp|hp
       .exact ⟨(k6 p hp).1,Nat.lt_of_lt_of_le (k6 p hp).2 a3⟩
       .exact ⟨fq k5 (a4 p hp).1,(a4 p hp).2⟩
      .by_cases et:i=t
       .subst et;rw[qi]at h;obtain rfl:=aa h;refine⟨hk,_,qi,?_⟩;have hag:tC w=false:=by have:=vy c false l s w l2 s1 h1 hm hr;rw[this.2.2.2.2.2 rfl];have:=hc.1;cases c<;>simp[vA]at this<;>rfl
        exact ct ⟨_,hcel,fun e=>(by rw[hag]at e;cases e),fun _=>⟨_,rfl,rfl⟩⟩
       .rw [xm et]at h|-;exact a5 t v h
    .simp at he
   .simp at he
  |false=>
   simp only[cond_false,ai]at hc;cases c with
   |x t=>
    match l,he with
    |.x u v::l,he=>
     simp only[tf]at he;obtain⟨hd,he2⟩:=aP he;simp only[ai,decide_eq_true_eq]at hd;obtain⟨rfl,hd⟩:=hd;obtain⟨x,_,_,h3⟩:=PC (h:=[]) (n:=0) (i:=i) (v:=v) hd hc.1
     have hx:∀h,ge h (.x u v) x:=fun h=>by
      obtain⟨x',h1,_,h3'⟩:=PC (h:=h) (n:=0) (i:=i) (v:=v) hd hc.1;have e1:=h3 [] 0;rw[h3' [] 0]at e1;have:x'=x:=by have:=(ad e1).1;exact(ad (List.cons.inj this).1).2
      rw[<-this];exact h1
     exact data l (.x u v) _ x rfl h3 hx (fun _ _=>trivial) he2
    |[],he|.kb _::_,he|.nl _::_,he|.so _::_,he|.sb _ _ _ _ _::_,he|.op _ _ _::_,he|.ep _ _ _ _::_,he|.pt _ _::_,he|.fn _ _ _::_,he|.om _::_,he|.rc _::_,he|.tp _::_,he|.ni::_,he|.co _ _::_,he|.fl _::_,he|.no::_,he|.gn::_,he=>simp[tf]at he
   |pt t=>match l,he with|.x u v::l,he=>simp only[tf]at he;obtain⟨hd,he2⟩:=aP he;simp only[ai,decide_eq_true_eq]at hd;obtain⟨rfl,hd⟩:=hd;refine data l (.pt u v) (.d (.pt (aS u v))) (.c (.d (.pt (aS u v)))) rfl (fun r k=>by simp only[enter]) (fun h=>ct (dY rfl ⟨hd,rfl⟩)) (fun _ _=>trivial) he2|[],he|.kb _::_,he|.nl _::_,he|.so _::_,he|.sb _ _ _ _ _::_,he|.op _ _ _::_,he|.ep _ _ _ _::_,he|.pt _ _::_,he|.fn _ _ _::_,he|.om _::_,he|.rc _::_,he|.tp _::_,he|.ni::_,he|.co _ _::_,he|.fl _::_,he|.no::_,he|.gn::_,he=>simp[tf]at he
   |nl k=>
    have he:(match tf ps (i+1) l s with|some (e,s)=>some ((i,V.nl k)::e,s)|none=>none)=some (e,s'):=by cases l<;>exact he
    refine data l (.nl k) (.d (Pu k)) (.c (.d (Pu k))) (by cases l<;>rfl) (fun r k=>by simp only[enter]) (fun h=>ct (dY rfl rfl)) (fun _ _=>trivial) he
   |fn f c2=>
    have he:(match CW c2 l with|some (w,l)=>(match tf ps (i+1) l s with|some (e,s)=>some ((i,V.fn true f w)::e,s)|none=>none)|none=>none)=some (e,s'):=by cases l<;>exact he
    split at he
    .rename_i w l2 hw;obtain⟨h2,rfl⟩:=Ia c2 l w l2 hw;refine data _ (.fn true f w) (.d (.fn f (qZ c2 l).1)) (.c (.d (.fn f (qZ c2 l).1))) (by cases l<;>rfl) (fun r k=>by simp only[enter]) (fun h=>ct (dY rfl ⟨_,h2,rfl⟩)) (fun n h=>?_) he;exact(zP (h:=h) w (JS h2)).2 n
    .simp at he
   |_=>cases l<;>simp[tf]at he
theorem JB{ps:List (Bool×Sh)}{l:List V}{s:S2}(h:QZ ps l=some s)(hp:BX ps=true):R2 (pj (gY ps l)) s:=by
 unfold QZ at h;split at h
 .rename_i e s1 he;obtain rfl:=aa h;obtain⟨a1,a2,a3,a4,a5,a6,a7,a8⟩:=JC ps 0 l ⟨[],[],0,[],.ni⟩ [] e s1 he hp ⟨fun i o ho=>by simp[fO,cA]at ho⟩ rfl;rw[bC]at a1;exact⟨fun t v ht=>⟨(a5 t v ht).1,fun _=>(a5 t v ht).2⟩,a1,Nat.le_of_eq a6.symm,a7,a8⟩
 .simp at h
end
theorem JD:∀(ps:List (Bool×Sh))(l:List V),(gY ps l).length=ps.length:=by intro ps;induction ps with|nil=>intro l;rfl|cons p ps ih=>obtain⟨b,c⟩:=p;intro l;cases b<;>simp[gY,ih]
theorem MS{P:Program}{df:AB}{nt:Nat}{an:List (Nat×An)}:∀(c:Code)(n:Nat)(s:St)(Q:sn->St->Prop),W P (nD (pO P df nt an c n).1) s Q->W P (pY P df nt c) s Q:=by
 intro c;induction c with
 |skip=>intro n s Q h;exact h
 |exit id=>intro n s Q h;exact h
 |ret=>intro n s Q h;exact h
 |region o ops draw=>
  intro n s Q h;have hm:(ops.toList.map (Qs P df nt ops)).map (·.o)=ops.toList.map (gE P df nt ops):=by rw[lN];rfl
  cases draw with
  |false=>simp only[pO,aT,if_false,nD,hm]at h;simpa only[pY,aT,if_false]using h
  |true=>
   simp only[pO,if_true]at h;simp only[pY,if_true,wO];split at h
   .rename_i hc;simp only[nD,hm]at h;rw[if_pos (by simpa using hc)];exact h
   .exact h.elim
 |seq a b iha ihb=>intro n s Q h;simp only[pO,nD]at h;exact iha _ s _ (W.mono (uw.mono (fun s1 h1=>ihb _ s1 Q h1) fun _ _ h=>h) h)
 |cond x a b iha ihb=>intro n s Q h;simp only[pO,nD]at h;obtain⟨s1,h0,t,h1,h2,h3⟩:=h;exact⟨s1,h0,t,h1,fun ht=>iha _ s1 Q (h2 ht),fun ht=>ihb _ s1 Q (h3 ht)⟩
 |block id a ih=>intro n s Q h;simp only[pO,nD]at h;exact ih _ s _ h
 |loop a ih=>
  intro n s Q h;simp only[pO]at h;split at h
  .simp only[nD]at h;obtain⟨I,m,h1,h2⟩:=h;exact⟨I,m,h1,fun k s1 hI=>ih _ s1 _ (h2 k s1 hI)⟩
  .exact h.elim
 |scope a ih=>intro n s Q h;exact ih _ s Q h
 |label l=>intro n s Q h;exact h
 |_=>intro n s Q h;exact h.elim
theorem GI{P:Program}{df:AB}{f np:Nat}{an:List (Nat×An)}{F:F2}(h:Bs P df f np an=some F):∃G,zE P df f np=some G/\G.np=np/\G.kN=F.kN/\∀s Q,W P (nD F.body) s Q->W P G.body s Q:=by
 unfold Bs at h;split at h
 .simp at h
 rename_i g hg;split at h
 .simp at h
 rename_i code hb;split at h
 case isFalse=>simp at h
 rename_i hc;split at h
 case h_2=>simp at h
 rename_i kN hrv;obtain rfl:=aa h;unfold zE;simp only[hg,hb,hrv];rw[if_pos (by simpa using hc)];exact⟨_,rfl,rfl,rfl,fun s Q hw=>MS code 0 s Q hw⟩
theorem PX{kN:List RV}:∀(al:Wy)(z:vQ al),∃r o l,(r,o)∈al/\(∀s,OI kN s al=some z->Ju kN r o s=some l)/\∀Q:List Sh->List Sh->List V->Prop,Q r o l->Nw Q al z:=by
 have key:∀(w:Wy)(r o:List Sh)(z:vQ.GY r o w),∃r' o' l,(r',o')∈(r,o)::w/\(∀s,Jv kN s r o w=some z->Ju kN r' o' s=some l)/\∀Q:List Sh->List Sh->List V->Prop,Q r' o' l->Nv Q r o w z:=by
  intro w;induction w with
  |nil=>
   intro r o z;refine⟨r,o,o9 (g_ r++g_ o) z,by simp,fun s hz=>?_,fun Q hQ=>hQ⟩;simp only[Jv]at hz;split at hz
   .rename_i l hl;rw[qb _ _ _ hz];exact hl
   .simp at hz
  |cons p w ih=>
   obtain⟨r',o'⟩:=p;intro r o z;cases z with
   |inl y=>
    refine⟨r,o,o9 (g_ r++g_ o) y,by simp,fun s hz=>?_,fun Q hQ=>hQ⟩;simp only[Jv]at hz;split at hz
    .rename_i l hl;split at hz
     .rename_i y2 hy;have e:y2=y:=by have:=aa hz;cases this;rfl
      subst e;rw[qb _ _ _ hy];exact hl
     .simp at hz
    .split at hz
     .have:=aa hz;cases this
     .simp at hz
   |inr y=>
    obtain⟨r2,o2,l,h1,h2,h3⟩:=ih r' o' y;refine⟨r2,o2,l,aC _ h1,fun s hz=>?_,fun Q hQ=>h3 Q hQ⟩;simp only[Jv]at hz;split at hz
    .split at hz
     .have:=aa hz;cases this
     .simp at hz
    .split at hz
     .rename_i y2 hy;have e:y2=y:=by have:=aa hz;cases this;rfl
      subst e;exact h2 s hy
     .simp at hz
 intro al z;cases al with|nil=>exact nomatch z|cons p w=>exact key w p.1 p.2 z
theorem Mu{P:Program}(hm:P.follows .mixedOrders=true){df:AB}{f np:Nat}{an:List (Nat×An)}{F:F2}{tb:ET}(htb:pS P tb)(hg:lQ)(hF:Bs P df f np an=some F){ps:List (Bool×Sh)}{al:Wy}(hnp:ps.length=np)(hps:BX ps=true)(hal:SA al=true)
  {p:qH (g_ (ps.map (·.2)))} {z:vQ al} (hz:SE tb (some F) ps al p=some z):
  Nw (fun rs os l=>sy P f (gY ps (o9 (g_ (ps.map (·.2))) p)) (mQ rs (l.take (g_ rs).length)) (lr os (l.drop (g_ rs).length))) al z:=by
 obtain⟨G,hG,hGn,hGr,hGb⟩:=GI hF;simp only[SE]at hz;split at hz
 case h_2=>simp at hz
 rename_i s hs;have hr:=JB hs hps
 -- the ways that the run may end in
 have hend:∀o s1',RY (mW F.body) (pj (gY ps (o9 _ p))) s (fun o s=>match o with|.exit _=>none|_=>OI F.kN s al) z o s1'->wk (fun s1''=>∃s',R2 s1'' s'/\s1''.gh.length=(pj (gY ps (o9 _ p))).gh.length/\(∀i,o≠.exit i)/\OI F.kN s' al=some z) s1':=by
  intro o s1' h;refine wk.mono h fun s1''⟨s',h1,⟨w,h2,h3⟩,h4⟩=>⟨s',h1,h3.gl,fun i e=>?_,?_⟩
  .subst e;simp at h4
  .cases o with|exit i=>simp at h4|_=>exact h4
 have hW:=W.mono hend (Jx htb hg F.body _ s _ z hz hr);obtain⟨r,o,l,h1,h2,h3⟩:=PX (kN:=F.kN) al z;refine h3 _ (OF hm hG (m:=r.map Gd) ⟨?_,hGb _ _ (W.mono (fun eg s1' h=>?_) hW)⟩)
 .rw [JD,hnp,hGn]
 .have hf:=bd.1 hal (r,o) h1;simp only[ai]at hf;have fin:wk (fun s=>s.gh.length=(pj (gY ps (o9 (g_ (ps.map (·.2))) p))).gh.length/\∃rs0,wY G.kN s rs0 (lr o (l.drop (g_ r).length))/\up (r.map Gd) rs0=mQ r (l.take (g_ r).length)) s1':=by refine wk.mono h fun s1''⟨s',k1,k2,_,k4⟩=>⟨k2,?_⟩;rw[hGr];exact Jt hg k1 (h2 s' k4) hf.1 hf.2
  cases eg with|normal=>exact fin|ret=>exact fin|exit i=>obtain⟨_,_,_,_,_,k,_⟩:=h;exact absurd rfl (k i)
theorem cH{P:Program}(hm:P.follows .mixedOrders=true)(hg:lQ){df:AB}{f np:Nat}{an:List (Nat×An)}{tb:ET}(htb:pS P tb){sp:lD}
  (h1:(Nu sp&&kZ sp.ps.length np&&SA sp.al)=true) (h3:(fun p=>SE tb (Bs P df f np an) sp.ps sp.al p)=sp.fn):cY P f sp:=by
 simp only[ai]at h1;obtain⟨⟨h4,h5⟩,h6⟩:=h1;refine⟨h4,fun p z hz=>?_⟩;have hp:BX sp.ps=true:=by simp only[Nu,ai]at h4;exact h4.1.1.2
 rw[<-h3]at hz;have hz:SE tb (Bs P df f np an) sp.ps sp.al p=some z:=hz;cases hF:Bs P df f np an with|none=>rw[hF]at hz;simp[SE]at hz|some F=>rw[hF]at hz;exact Mu hm htb hg hF (dD h5) hp h6 hz
theorem HH{v:V}{d:D}(hv:∀g w,L6 g=some w->g=0/\w=v)(h0:QO 0=some d)(hd:∀h n,ge h v (.c (.d d))/\fg n h v/\iz h v=true):lQ:=fun g w hg=>by obtain⟨rfl,rfl⟩:=hv g w hg;exact⟨d,h0,hd⟩
section
variable{P:Program}{sz:Nat}{z:List Value}{aq:List (List D)}{i j:Int}
end
section
variable{H:bF}{nx:Nat}
end
section
variable{P:Program}{z:List Value}{aq:List (List D)}{x:List D}{i:Int}
end
open Go.ChangeShapes Go.WideShapes Go.ChangeAt Go.RowKit
def wH:(t:Ty)->El t->Prop
 |.i k,x=>k.min<=x/\x<=k.max
 |.s,s=>s.size<=maxLen
 |.f k,b=>(Lit.float k b).wf=true
 |.sl t,s=>s.l.length<=maxLen/\∀x∈s.l,wH t x
 |.pr a c,v=>wH a v.1/\wH c v.2
 |.st t,v=>wH t v
 |.ar _ t,v=>∀x∈v.1,wH t x
 |_,_=>True
def I0(P:Program)(ok:TypeId->Bool)(sz:TypeId->Nat):List Field->Nat->Nat->Bool
 |[],off,P6=>kZ off P6
 |f::r,off,P6=>ok f.type&&kZ f.offset off&&kZ (P.cellsOf f.type) (sz f.type)&&I0 P ok sz r (off+sz f.type) P6
def Hq(P:Program):Nat->TypeId->Bool
 |0,_=>false
 |n+1,t=>match P.underlying t with|some (.int _)|some .bool|some .string|some (.float _)=>true|some (.slice e)=>Hq P n e&&Nat.blt 0 (bA (eT P n e))&&kZ (P.cellsOf e) (bA (eT P n e))|some (.struct fs)=>I0 P (Hq P n) (fun t=>bA (eT P n t)) fs.toList 0 (P.cellsOf t)|some (.array m e)=>Hq P n e&&kZ (P.cellsOf e) (bA (eT P n e))&&kZ (P.cellsOf t) (m*bA (eT P n e))|_=>false
theorem KX{P:Program}:∀(n:Nat)(t:TypeId),Hq P n t=true->rf P t (aS (eT P n t)) (wH (eT P n t)):=by
 intro n;induction n with
 |zero=>intro t h;simp[Hq]at h
 |succ n ih=>
  intro t h;simp only[Hq]at h;split at h
  .rename_i k hu;rw[show eT P (n+1) t=.i k by simp only[eT,hu]];exact IU hu
  .rename_i hu;rw[show eT P (n+1) t=.b by simp only[eT,hu]];exact FV hu
  .rename_i hu;rw[show eT P (n+1) t=.s by simp only[eT,hu]];exact B1 hu
  .rename_i k hu;rw[show eT P (n+1) t=.f k by simp only[eT,hu]];exact DA hu
  .rename_i e hu;simp only[ai]at h;obtain⟨⟨h1,h2⟩,h3⟩:=h;rw[show eT P (n+1) t=.sl (eT P n e)by simp only[eT,hu]];exact Dz (enc:=aS (eT P n e)) hu (dD h3) (by simpa[Nat.blt_eq]using h2) (fun a=>bJ _ a) (ih e h1)
  .rename_i fs hu;rw[show eT P (n+1) t=.st (eT.SQ (fs.toList.map fun f=>eT P n f.type))by simp only[eT,hu]];intro H en w fuel cs x hx;have hl:=Fh hu hx
   have key:∀(suf:List Field)(i off:Nat),(∀j,fs[i+j]?=suf[j]?)->I0 P (Hq P n) (fun t=>bA (eT P n t)) suf off (P.cellsOf t)=true->
     ∃v:El (eT.SQ (suf.map fun f=>eT P n f.type)),wH _ v/\kX w (cs.drop off) (aS _ v):=by
    intro suf;induction suf with
    |nil=>intro i off _ hok;have e:=dD hok;exact⟨(),trivial,kX.nil (by rw[fL,hl,e];omega)⟩
    |cons f r ihr=>
     intro i off hi hok;simp only[I0,ai]at hok;obtain⟨⟨⟨k1,k2⟩,k3⟩,k4⟩:=hok;have k2:=dD k2;have k3:=dD k3;have hf:fs[i]?=some f:=by have:=hi 0;simpa using this
     obtain⟨a,f1,c1⟩:=DB hu hx hf (ih f.type k1);rw[k2,k3]at c1;obtain⟨v,f2,c2⟩:=ihr (i+1) (off+bA (eT P n f.type)) (fun j=>by have:=hi (j+1);rw[show i+1+j=i+(j+1)by omega,this];rfl) k4
     have hle:off+bA (eT P n f.type)<=cs.length:=by
      have hmono:∀(suf:List Field)(off:Nat),I0 P (Hq P n) (fun t=>bA (eT P n t)) suf off (P.cellsOf t)=true->off<=P.cellsOf t:=by intro suf;induction suf with|nil=>intro off h;exact Nat.le_of_eq (dD h)|cons g r ih=>intro off h;simp only[I0,ai]at h;have:=ih _ h.2;omega
      rw[hl];exact hmono r _ k4
     have hfield:=kX.field c1 rfl c2 hle;cases r with|nil=>have e:aS (eT.SQ (([]:List Field).map fun f=>eT P n f.type)) v=[]:=rfl;rw[e,bC]at hfield;exact⟨a,f1,hfield⟩|cons g r=>exact⟨(a,v),⟨f1,f2⟩,hfield⟩
   obtain⟨v,f1,c1⟩:=key fs.toList 0 0 (fun j=>by simp) h;exact⟨v,f1,by rw[cT]at c1;exact c1⟩
  .rename_i m e hu;simp only[ai]at h;obtain⟨⟨h1,h2⟩,h3⟩:=h;have h2:=dD h2;have h3:=dD h3;rw[show eT P (n+1) t=.ar m (eT P n e)by simp only[eT,hu]];intro H en w fuel cs x hx;have hl:=J4 hu hx
   have key:∀j,j<=m->∃l:List (El (eT P n e)),l.length=j/\(∀y∈l,wH _ y)/\kX w (cs.drop ((m-j)*bA (eT P n e))) (l.flatMap (aS (eT P n e))):=by
    intro j;induction j with
    |zero=>intro _;exact⟨[],rfl,fun y hy=>by simp at hy,kX.nil (by rw[fL,hl,h3];simp)⟩
    |succ j ihj=>
     intro hj;obtain⟨l,l1,l2,l3⟩:=ihj (by omega);obtain⟨a,f1,c1⟩:=FU hu hx (i:=m-(j+1)) (by omega) (ih e h1);rw[h2]at c1;have hs:(m-(j+1))*bA (eT P n e)+bA (eT P n e)=(m-j)*bA (eT P n e):=by rw[show m-j=(m-(j+1))+1 by omega,Nat.succ_mul]
     refine⟨a::l,by simp[l1],fun y hy=>?_,?_⟩
     .rcases aN.1 hy with rfl|hy
      .exact f1
      .exact l2 y hy
     .rw [List.flatMap_cons];refine kX.field c1 hs l3 ?_;rw[hl,h3];exact Nat.mul_le_mul_right _ (by omega)
   obtain⟨l,l1,l2,l3⟩:=key m (au _);rw[Nat.sub_self,Nat.zero_mul,cT]at l3;exact⟨⟨l,l1⟩,l2,l3⟩
  .simp at h
def EY:List Ty->List V->Prop
 |[],l=>l=[]
 |a::r,l=>∃(v:El a)(m:List V),l=.x a v::m/\wH a v/\EY r m
theorem HX{a:Ty}(v:El a):ut a (.x a v)=some v:=by simp[ut,gN]
theorem EY.iT:∀{cs:List Ty}{l:List V},EY cs l->∃p,v_ cs l=some p/\o9 cs p=l:=by
 have key:∀(r:List Ty)(a:Ty)(l:List V),EY (a::r) l->∃p,E_ a r l=some p:=by intro r;induction r with|nil=>rintro a l ⟨v,m,rfl,_,hm⟩;have hm:m=[]:=hm;subst hm;exact⟨v,HX v⟩|cons c r ih=>rintro a l ⟨v,m,rfl,_,hm⟩;obtain⟨p,hp⟩:=ih c m hm;refine⟨(v,p),?_⟩;show Ie (ut a (.x a v)) (E_ c r m)=_;rw[HX,hp];rfl
 intro cs l h;cases cs with|nil=>have h:l=[]:=h;subst h;exact⟨(),rfl,rfl⟩|cons a r=>obtain⟨p,hp⟩:=key r a l h;exact⟨p,hp,qb (a::r) l p hp⟩
theorem Rs{P:Program}{n:Nat}{t:TypeId}(ho:Hq P n t=true)(h1:(nA (eT P n t)||kZ (bA (eT P n t)) 1)=true){w:World}{r:Reach}{b:Nat}{v:Value}(hv:Value.okWide P w r b t v)
  {H:Type} {en:TypeId×Value->H} {x:DataW H} {ps:List MemPlace} (h:DataW.Trod en P w 0 (fun _=>true) true t v x ps):∃a:El (eT P n t),wH _ a/\RA (S0 w) w (bif nA (eT P n t)then .agg (aS _ a)else .d ((aS _ a).headD default)) v []:=by
 have hop:=KX n t ho;cases hag:nA (eT P n t)with
 |true=>
  simp only[cond_true];cases n with
  |zero=>simp[Hq]at ho
  |succ n=>
   simp only[Hq]at ho;split at ho
   .rename_i hu;simp[eT,hu,nA]at hag
   .rename_i hu;simp[eT,hu,nA]at hag
   .rename_i hu;simp[eT,hu,nA]at hag
   .rename_i hu;simp[eT,hu,nA]at hag
   .rename_i hu;simp[eT,hu,nA]at hag
   .rename_i fs hu;exact O_ hop hv hu h
   .rename_i m e hu;exact O9 hop hv hu h
   .simp at ho
 |false=>
  simp only[cond_false];have hsz:bA (eT P n t)=1:=by rw[hag,Bool.false_or]at h1;exact dD h1
  have he:(fun a=>[(aS (eT P n t) a).headD default])=aS (eT P n t):=by
   funext a;have hl:=bJ (eT P n t) a;rw[hsz]at hl
   match hh:aS (eT P n t) a,hl with|[d],_=>rfl
  have hs:match P.underlying t with|some (.struct _)|some (.array _ _)|some (.interface _)|some (.func ..)|some (.chan ..)|some .unsafePointer|some (.map _ _)=>False|_=>True:=by
   cases n with
   |zero=>simp[Hq]at ho
   |succ n=>
    simp only[Hq]at ho;split at ho
    .rename_i hu;rw[hu];trivial
    .rename_i hu;rw[hu];trivial
    .rename_i hu;rw[hu];trivial
    .rename_i hu;rw[hu];trivial
    .rename_i hu;rw[hu];trivial
    .rename_i fs hu;simp[eT,hu,nA]at hag
    .rename_i m e hu;simp[eT,hu,nA]at hag
    .simp at ho
  exact SU (d:=fun a=>(aS (eT P n t) a).headD default) (fit:=wH (eT P n t)) (by rw[he];exact hop) hv hs h
def S6(P:Program)(ts:List TypeId):Bool:=ts.all fun t=>Hq P JG t&&(nA (eT P JG t)||kZ (bA (eT P JG t)) 1)
theorem O8{P:Program}{W:World}{aR:Nat}{H:Type}{en:TypeId×Value->H}:∀(ts:List TypeId)(vs:List Value)(ds:List (DataW H))(ps:List MemPlace),DataW.TrodAll en P W 0 (fun _=>true) true ts vs ds ps->S6 P ts=true->
  (∀(j:Nat)t v,ts[j]?=some t->vs[j]?=some v->Value.okWide P W .any aR t v)->∃l,EY (ts.map (eT P JG)) l/\Nt (S0 W) W (gY (ts.map fun t=>(false,Sh.x (eT P JG t))) l) vs []:=by
 intro ts;induction ts with
 |nil=>intro vs ds ps h _ _;cases vs with|nil=>exact⟨[],rfl,rfl⟩|cons=>cases ds<;>exact h.elim
 |cons t ts ih=>
  intro vs ds ps h hok hv;cases vs with
  |nil=>cases ds<;>exact h.elim
  |cons v vs=>cases ds with|nil=>exact h.elim|cons d ds=>obtain⟨p,q,h1,h2,rfl⟩:=h;simp only[S6,iN,ai]at hok;obtain⟨a,f1,r1⟩:=Rs hok.1.1 (by simpa using hok.1.2) (hv 0 t v rfl rfl) h1;obtain⟨l,f2,r2⟩:=ih vs ds q h2 (by simpa[S6]using hok.2) fun j t' v' ht hv'=>hv (j+1) t' v' (by simpa using ht) (by simpa using hv');exact⟨.x _ a::l,⟨a,l,rfl,f1,f2⟩,[],[],rfl,r1,r2⟩
theorem Q_:∀(tys:List Ty),g_ ((tys.map fun t=>(false,Sh.x t)).map (·.2))=tys:=by intro tys;induction tys with|nil=>rfl|cons a r ih=>show a::g_ ((r.map fun t=>(false,Sh.x t)).map (·.2))=a::r;rw[ih]
theorem JL{P:Program}{f:FuncId}{fn:Func}{s:ChangeSpec}{mj gM handsOn again:Bool}{tb:TypeId}{H:Type}{en:TypeId×Value->H}(hl:laidOutB P=true)(hfn:P.funcs[f]?=some fn)(hbody:fn.body.isSome=true)(hname:(fn.name== "runtime.NumGoroutine")=false)
  (hts:fn.params.toList.all (fun t=>P.readableRec t&&decide (t<P.types.size))=true) (hrt:fn.resultTypes= #[tb]) (htb:P.underlying tb=some .bool) (hvars:s.vars=[])
  {W:World} {args:Array Value} {ds gs:List (DataW H)} {ff:List MemPlace} (hW:DataW.Whole en P fn.params.toList s.vars mj W args.toList ds gs ff)
  (hspec:(s.fn H (ds++gs)).results=[.lit (.bool true)]/\(s.fn H (ds++gs)).args=ds/\(s.fn H (ds++gs)).vars=[])
  (hgl:u4 (S0 W) W) {aR:Nat} (hval:∀(j:Nat)t v,fn.params[j]?=some t->args[j]?=some v->Value.okWide P W .any aR t v)
  {tys:List Ty} (hty:fn.params.toList.map (eT P JG)=tys) (hok:S6 P fn.params.toList=true) {ro:Bool} {kh:List Bool} {g:qH (g_ ((tys.map fun t=>(false,Sh.x t)).map (·.2)))->Option (vQ [([.x .b],[])])}
  (hsp:cY P f ⟨tys.map fun t=>(false,Sh.x t),[([.x .b],[])],ro,kh,g⟩) (law:∀p,EY (g_ ((tys.map fun t=>(false,Sh.x t)).map (·.2))) (o9 _ p)->g p=some true):
  Calls P f args W fun e W'=>∃v,e=.returned v/\s.post en P fn mj gM handsOn again W args v W':=by
 have hW':=hW;obtain⟨p,q,hA0,hV,hpq,hfz,hnd⟩:=hW;have hA:DataW.TrodAll en P W 0 (fun _=>true) true fn.params.toList args.toList ds p:=hA0;obtain⟨l,h1,h2⟩:=O8 (aR:=aR) _ _ _ _ hA hok fun j t v ht hv=>hval j t v (by simpa using ht) (by simpa using hv);have h3:fn.params.toList.map (fun t=>(false,Sh.x (eT P JG t)))=tys.map fun t=>(false,Sh.x t):=by rw[<-hty,lN];rfl
 rw[h3]at h2;rw[hty,<-Q_ tys]at h1;obtain⟨pl,hp,hu⟩:=h1.iT;have hg:=hsp.2 pl true (law pl (by rw[hu];exact h1));rw[<-hu]at h2;exact EC hl hfn hbody hname hts hrt htb hvars hW' hspec hgl ⟨_,h2,hg⟩
end Go.Ev
