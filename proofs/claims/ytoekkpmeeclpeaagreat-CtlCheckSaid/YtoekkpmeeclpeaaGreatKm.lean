/- Code: what is evaluated is what the abstract machine does. Conditions: as stated. -/
import Derived.Test.YtoekkpmeeclpeaaGreatKh
import Derived.Test.YtoekkpmeeclpeaaGreatEvY
open Bool renaming and_eq_true->ak,and_eq_true_iff->cf
open List renaming all_cons->fR,all_eq_true->bg,append_nil->aV,cons_append->bI,drop_zero->eH,headD_cons->cF,length_append->ap,length_drop->cE,map_cons->aK,map_map->gr,map_nil->aZ,mem_append->aC,mem_append_left->aU,mem_append_right->aX,nil_sublist->iT
open List.Sublist renaming refl->bT
open Nat renaming beq->gb,ble->jB,eq_of_beq_eq_true->bB,le_refl->am,le_trans->bo
open Option.some renaming inj->aa
open Prod.mk renaming inj->af
namespace Go.Ev
theorem JE(j:J)(s0 s:S2):yX j s0 s=CD j s0 (BD j.vs s):=rfl
theorem DO{j:J}{s1':St}{s0 s':S2}{l:List V}(hr:R2 s1' s')(hc:yX j s0 s'=some l):∀i∈s'.wo,s0.next<=i\/i∈j.kl:=by
 obtain⟨s1c,_,_,wc,hwc,_⟩:=Cv j.vs s1' s' hr;rw[JE]at hc;unfold CD at hc;split at hc
 case h_2=>simp at hc
 split at hc
 case h_2=>simp at hc
 split at hc
 case h_2=>simp at hc
 obtain⟨hchk,_⟩:=aJ hc;simp_all
theorem uv{j:J}{ds w:List Nat}{s1 s1':St}{s0 s' s'':S2}{l:List V}(hr0:R2 s1 s0)(hr:R2 s1' s')(hf:zA ds w s1 s1' s0 s')(hw:∀i∈w,s0.next<=i\/i∈j.kl)(hc:yX j s0 s'=some l)(hs:vN j ds s0 l=some s''):
  ∃s1'' w',Sub s1' s1''/\R2 s1'' s''/\s''.wo=w'++s0.wo/\zA ds w' s1 s1'' s0 s''/\∀i∈w',s0.next<=i\/i∈j.kl:=by
 obtain⟨s1c,hsub,hrc,wc,hwc,hfc⟩:=Cv j.vs s1' s' hr;have hc2:=hc;rw[JE]at hc2
 have hwcc:∀i∈wc,s0.next<=i\/i∈j.kl:=by
  unfold CD at hc2;split at hc2
  case h_2=>simp at hc2
  split at hc2
  case h_2=>simp at hc2
  split at hc2
  case h_2=>simp at hc2
  obtain⟨hchk,_⟩:=aJ hc2;simp_all
 obtain⟨s1'',w',h1,h2,h3,h4,h5⟩:=TG hr0 hrc (hf.trans (hfc.mono (fun t ht=>by simp at ht) fun i hi=>hi)) (fun i hi=>by
  grind) (by exact hc) hs
 exact⟨s1'',w',hsub.trans h1,h2,h3,h4,h5⟩
theorem Jm{β:Type}{s0 s':S2}{o:rD}{ds:List Nat}{k:rD->S2->Option β}{z:β}:∀(e:Ex)(x:Gv e),KX s0 o s' e=some x->ML ds s0 k e x=some z->∃j∈e,∃l s'',yX j.2 s0 s'=some l/\vN j.2 ds s0 l=some s''/\k o s''=some z:=by
 have qU:∀(j:J)(p:uz (qz j))(l:List V),xG (qz j) l=some p->(match vN j ds s0 (pE (qz j) p)with|some s=>k o s|none=>none)=some z->∃s'',vN j ds s0 l=some s''/\k o s''=some z:=by
  grind [qF]
 have key:∀(r:Ex)(o1:rD)(j:J)(x:Gv.OW j r),Qg s0 o s' o1 j r=some x->Sr ds s0 k o1 j r x=some z->∃j'∈(o1,j)::r,∃l s'',yX j'.2 s0 s'=some l/\vN j'.2 ds s0 l=some s''/\k o s''=some z:=by
  intro r;induction r with
  |nil=>
   intro o1 j x hx hz;obtain⟨ho,hx2⟩:=aJ hx;obtain rfl:o=o1:=by simpa using ho
   split at hx2
   .rename_i l hl;obtain⟨s'',h1,h2⟩:=qU j x l hx2 hz;simp_all
   .simp at hx2
  |cons q r ih=>
   obtain⟨o2,j2⟩:=q;intro o1 j x hx hz;simp only[Qg]at hx;cases hd:decide (o=o1)with
   |true=>
    rw[hd,cond_true]at hx;obtain rfl:o=o1:=by simpa using hd
    split at hx
    .rename_i l hl;split at hx
     .rename_i p hp;obtain rfl:=aa hx;obtain⟨s'',h1,h2⟩:=qU j p l hp hz;simp_all
     .simp at hx
    .simp at hx
   |false=>
    rw[hd,cond_false]at hx;split at hx
    .rename_i y hy;obtain rfl:=aa hx;obtain⟨j',h1,h2⟩:=ih o2 j2 y hy hz
     grind
    .simp at hx
 intro e x hx hz;cases e with|nil=>exact nomatch x|cons q r=>exact key r q.1 q.2 x hx hz
def Uc{β:Type}(ds:List Nat)(s1:St)(s:S2)(k:rD->S2->Option β)(z:β)(o:rD)(s1':St):Prop:=wk (fun s1''=>∃s',R2 s1'' s'/\Fr ds s1 s1'' s s'/\k o s'=some z) s1'
theorem Lc{P:Program}{tb:Gu}(htb:qt P tb)(hg:mG):∀(c:C2){β:Type}(s1:St)(s:S2)(k:rD->S2->Option β)(z:β),yU tb c s k=some z->R2 s1 s->W P (pw c) s1 (Uc (nr c) s1 s k z):=by
 intro c;induction c with
 |skip=>intro β s1 s k z hz hr;exact wk.of (wk.of ⟨s,hr,Fr.refl,hz⟩)
 |exit id=>intro β s1 s k z hz hr;exact wk.of (wk.of ⟨s,hr,Fr.refl,hz⟩)
 |ret=>intro β s1 s k z hz hr;exact wk.of (wk.of ⟨s,hr,Fr.refl,hz⟩)
 |fL=>intro β s1 s k z hz hr;simp[yU]at hz
 |PK ops dr jn=>
  intro β s1 s k z hz hr;cases jn with
  |none=>refine W.mono (fun o s1' h=>?_) (EN (jn:=none) htb hg (by simpa only[yU]using hz) hr);obtain⟨rfl,s',h1,h2,h3⟩:=h;exact wk.of ⟨s',h1,h2,h3⟩
  |some j=>
   simp only[yU]at hz;obtain⟨p,hp,hz⟩:=pT hz;refine W.mono (fun o s1' h=>?_) (EN (jn:=some j) htb hg hp (hr.wo []));obtain⟨rfl,s',h1,⟨w,h2,h3⟩,h4⟩:=h;split at h4
   .rename_i l hl;rw[qF _ _ _ h4]at hz;split at hz
    .rename_i s'' hs;have hf:zA (ops.filterMap (·.o.dst)) w s1 s1' s s':=⟨h3.le,h3.dR,h3.gl,h3.ob,h3.cW⟩
     obtain⟨s1'',w',g1,g2,g3,g4,_⟩:=uv hr h1 hf (fun i hi=>DO h1 hl i (by rw[h2];simp[hi])) hl hs;exact⟨s1'',g1,s'',g2,⟨w',g3,g4⟩,hz⟩
    .simp at hz
   .simp at h4
 |seq a b e iha ihb=>
  intro β s1 s k z hz hr;have go:∀(o:rD)(s1' s1'':St)(s':S2),Sub s1' s1''->R2 s1'' s'->Fr (nr a) s1 s1'' s s'->(match o with|.normal=>yU tb b s' k|o=>k o s')=some z->vz (fun s'=>W P (pw b) s' (Uc (nr (.seq a b e)) s1 s k z)) (Uc (nr (.seq a b e)) s1 s k z) o s1':=by intro o s1' s1'' s' hsub h1 h2 h3;have hda:∀t∈nr a,t∈nr (.seq a b e):=fun t ht=>aU _ ht;have hdb:∀t∈nr b,t∈nr (.seq a b e):=fun t ht=>aX _ ht;cases o with|normal=>refine W.sub hsub (W.mono (fun o s2 h=>?_) (ihb s1'' s' k z h3 h1));exact wk.mono h fun _⟨s3,g1,g2,g3⟩=>⟨s3,g1,(h2.mono hda).trans (g2.mono hdb),g3⟩|exit id=>exact⟨s1'',hsub,s',h1,h2.mono hda,h3⟩|ret=>exact⟨s1'',hsub,s',h1,h2.mono hda,h3⟩
  cases e with
  |nil=>simp only[yU]at hz;refine Q8 (W.mono (fun o s1' h=>?_) (iha s1 s _ z hz hr));obtain⟨s1'',hsub,s',h1,h2,h3⟩:=h;exact go o s1' s1'' s' hsub h1 h2 h3
  |cons q r=>
   simp only[yU]at hz;obtain⟨x,hx,hz⟩:=pT hz;refine Q8 (W.mono (fun o s1' h=>?_) (iha s1 {s with wo:=[]} _ x hx (hr.wo [])));obtain⟨s1'',hsub,s',h1,⟨w,h2,h3⟩,h4⟩:=h;obtain⟨j,_,l,s'',g1,g2,g3⟩:=Jm (q::r) x h4 hz;have hf:zA (nr a) w s1 s1'' s s':=⟨h3.le,h3.dR,h3.gl,h3.ob,h3.cW⟩
   obtain⟨s2,w',k1,k2,k3,k4,_⟩:=uv hr h1 hf (fun i hi=>DO h1 g1 i (by rw[h2];simp[hi])) g1 g2;exact go o s1' s2 s'' (hsub.trans k1) k2 ⟨w',k3,k4⟩ g3
 |cond c a b iha ihb=>
  intro β s1 s k z hz hr;have hda:∀t∈nr a,t∈nr (.cond c a b):=fun t ht=>aU _ ht;have hdb:∀t∈nr b,t∈nr (.cond c a b):=fun t ht=>aX _ ht
  have go:∀t,kz s1.cW c=some (tB t)->(bif t then yU tb a s k else yU tb b s k)=some z->W P (pw (.cond c a b)) s1 (Uc (nr (.cond c a b)) s1 s k z):=by
   intro t hc hz;refine RU (t:=t) hc (fun ht=>?_) fun ht=>?_
   .subst ht;exact W.mono (fun o s2 h=>wk.mono h fun _⟨s3,g1,g2,g3⟩=>⟨s3,g1,g2.mono hda,g3⟩) (iha s1 s k z hz hr)
   .subst ht;exact W.mono (fun o s2 h=>wk.mono h fun _⟨s3,g1,g2,g3⟩=>⟨s3,g1,g2.mono hdb,g3⟩) (ihb s1 s k z hz hr)
  simp only[yU]at hz;split at hz
  .rename_i t ht;obtain⟨x,h1,h2,_⟩:=oX hg hr ht;rw[xE h2]at h1;exact go t h1 hz
  .rename_i t ht;obtain⟨x,h1,h2,_⟩:=oX hg hr ht;rw[ID h2]at h1;exact go t h1 hz
  .simp at hz
 |block id a ih=>
  intro β s1 s k z hz hr;simp only[yU]at hz;refine Pc (W.mono (fun o s1' h=>?_) (ih s1 s _ z hz hr));cases o with
  |normal=>exact h
  |ret=>exact h
  |exit i=>
   simp only[xr];obtain⟨s1'',hsub,s',h1,h2,h3⟩:=h;by_cases e:i=id
   .subst e;rw[if_pos rfl];simp only[beq_self_eq_true,cond_true]at h3;exact⟨s1'',hsub,s',h1,h2,h3⟩
   .rw [if_neg e];have e':(i==id)=false:=by simpa using e
    simp only[e',cond_false]at h3;exact⟨s1'',hsub,s',h1,h2,h3⟩
 |loop j e a ih=>
  intro β s1 s k z hz hr;simp only[yU]at hz;obtain⟨hkl,hz⟩:=aJ hz;split at hz
  case h_2=>simp at hz
  rename_i l hl;split at hz
  case h_2=>simp at hz
  rename_i p0 hp0;obtain⟨x,hx,hz⟩:=pT hz;obtain⟨n,hn⟩:=pK.1 hx;clear hx
  generalize hf:(fun(p:uz (qz j))=>(match vN j (nr a) s (pE (qz j) p)with
     |some s1=>yU tb a {s1 with wo:=[]} fun o s'=>(match o with
      |.normal=>(match yX j s s' with|some l=>(match xG (qz j) l with|some q=>some (Sum.inl q)|none=>none)|none=>none)
      |o=>(match KX s o s' e with|some x=>some (Sum.inr x)|none=>none))
     |none=>none:Option (uz (qz j)⊕Gv e)))=f at hn
  have hrs:∀n p,kO f n p=some x->∃s2,vN j (nr a) s (pE (qz j) p)=some s2:=by
   intro n p h;cases n with
   |zero=>simp[kO]at h
   |succ n=>cases hq:vN j (nr a) s (pE (qz j) p)with|some s2=>exact⟨s2,rfl⟩|none=>grind [kO]
  refine⟨fun n t=>∃p s2 w,kO f n p=some x/\vN j (nr a) s (pE (qz j) p)=some s2/\R2 t s2/\zA (nr a) w s1 t s s2/\∀i∈w,s.next<=i\/i∈j.kl,n,?_,?_⟩
  .obtain ⟨s2,hs2⟩:=hrs n p0 hn;have hs3:=hs2;rw[qF _ _ _ hp0]at hs3;obtain⟨s1'',w',g1,g2,_,g4,g5⟩:=uv (w:=[]) hr (hr.wo []) ⟨am _,jy.refl _ _,rfl,fun _ _ _=>⟨rfl,fun _ _ _ h=>h⟩,fun _ _ _ h _=>h⟩ (fun i hi=>by simp at hi) hl hs3;exact⟨s1'',g1,p0,s2,w',hn,hs2,g2,g4,g5⟩
  .rintro n t ⟨p,s2,w,h1,h2,h3,h4,h5⟩;cases n with
   |zero=>simp[kO]at h1
   |succ n=>
    have hfp:f p=yU tb a {s2 with wo:=[]} fun o s'=>(match o with
      |.normal=>(match yX j s s' with|some l=>(match xG (qz j) l with|some q=>some (Sum.inl q)|none=>none)|none=>none)
      |o=>(match KX s o s' e with|some x=>some (Sum.inr x)|none=>none)):=by
     rw[<-hf];simp only[h2]
    have hend:∀(o:rD)(t' t'':St)(s':S2)(y:Gv e),o≠.normal->Sub t' t''->R2 t'' s'->Fr (nr a) t t'' {s2 with wo:=[]} s'->KX s o s' e=some y->y=x->Uc (nr a) s1 s k z o t':=by
     rintro o t' t'' s' y _ hsub r1 ⟨wb,e1,e2⟩ hy rfl;obtain⟨j',hj',l',s'',g1,g2,g3⟩:=Jm e y hy hz;have hfw:zA (nr a) (wb++w) s1 t'' s s':=h4.trans ⟨e2.le,e2.dR,e2.gl,e2.ob,e2.cW⟩
     obtain⟨s3,w',k1,k2,k3,k4,_⟩:=uv hr r1 hfw (fun i hi=>by
      grind [DO]) g1 g2
     exact⟨s3,hsub.trans k1,s'',k2,⟨w',k3,k4⟩,g3⟩
    simp only[kO]at h1;cases hr1:f p with
    |none=>simp[hr1]at h1
    |some r=>
     rw[hr1]at h1;rw[hfp]at hr1;refine W.mono (fun o t' hq=>?_) (ih t _ _ r hr1 (h3.wo []));obtain⟨t'',hsub,s',r1,r2,r3⟩:=hq;cases o with
     |normal=>
      simp only at r3;split at r3
      .rename_i l2 hl2;split at r3
       .rename_i q hq;obtain rfl:=aa r3;simp only at h1;obtain⟨wb,e1,e2⟩:=r2;obtain⟨s3,hs3⟩:=hrs n q h1;have hs4:=hs3;rw[qF _ _ _ hq]at hs4;have hfw:zA (nr a) (wb++w) s1 t'' s s':=h4.trans ⟨e2.le,e2.dR,e2.gl,e2.ob,e2.cW⟩
        obtain⟨t3,w',k1,k2,_,k4,k5⟩:=uv hr r1 hfw (fun i hi=>by
         grind [DO]) hl2 hs4
        exact⟨n,Nat.lt_succ_self n,t3,hsub.trans k1,q,s3,w',h1,hs3,k2,k4,k5⟩
       .simp at r3
      .simp at r3
     |exit id=>
      simp only at r3;split at r3
      .rename_i y hy;obtain rfl:=aa r3;exact hend (.exit id) t' t'' s' y (by simp) hsub r1 r2 hy (aa h1)
      .simp at r3
     |ret=>
      simp only at r3;split at r3
      .rename_i y hy;obtain rfl:=aa r3;exact hend .ret t' t'' s' y (by simp) hsub r1 r2 hy (aa h1)
      .simp at r3
section
variable{h:H2}{n:Nat}{h1:bp}
theorem EX{id sz lo len:Nat}{rows:List (List D)}(ho:au h1 id=some (.aG sz rows)\/au h1 id=some (.qu sz rows))(hl:lo+len<=rows.length)(szo:Nat):
  ∃t bk rd,(∀k,dE h1 k (.fx szo id lo len)=some (t,bk,rd))/\yT t=.sl szo ((rows.drop lo).take len)/\bk.Sublist [id]/\(au h1 id=some (.aG sz rows)->t=.sl szo ((rows.drop lo).take len))/\yL t=true:=by
 by_cases ha:au h1 id=some (.aG sz rows)
 .exact ⟨.sl szo _,[id],[id],fun k=>by cases k<;>simp[dE,ha,if_pos hl],rfl,bT _,fun _=>rfl,rfl⟩
 .have hi:=ho.resolve_left ha;exact⟨.d _,[],[id],fun k=>by cases k<;>simp[dE,hi,if_pos hl],rfl,iT _,fun e=>absurd e ha,rfl⟩
theorem PR(hr:HR n h1 h){id ver:Nat}{t:Ty}{s:Sl (El t)}(ho:fO h id=some (.ar t s ver)\/fO h id=some (.im t s ver)):
  ∃q bk rd,(∀k,dE h1 k (nA (bU t) (aR t) id s)=some (q,bk,rd))/\yT q=yS (bU t) (aR t) s/\bk.Sublist [id]/\yL q=true:=by
 cases s with
 |nil=>exact⟨_,_,_,fun k=>wH k _,rfl,iT _,rfl⟩
 |mk l=>
  have hb:au h1 id=some (.aG (bU t) (l.map (aR t)))\/au h1 id=some (.qu (bU t) (l.map (aR t))):=by
   rcases ho with ho|ho
   .exact .inl ((hr.ob id _ ho).2.1.2.2 l rfl)
   .exact .inr ((hr.ob id _ ho).2.1.2.2 l rfl)
  obtain⟨q,bk,rd,g1,g2,g3,_,g5⟩:=EX (lo:=0) (len:=(l.map (aR t)).length) hb (by omega) _;rw[uV]at g2;exact⟨q,bk,rd,g1,g2,g3,g5⟩
theorem NR{t:Ty}(s:Sl (Sl (El t))):yT (zQ t s)=yS 1 (aR (.sl t)) (s:Sl (El (.sl t))):=by cases s with|nil=>rfl|mk l=>simp only[zQ,yT,gr];congr 1;exact List.map_congr_left fun r _=>by cases r<;>rfl
theorem PS(hr:HR n h1 h){id:Nat}{t:Ty}{s:Sl (Sl (El t))}(ho:fO h id=some (.rw t s none)):
  ∃bk rd,(∀k,dE h1 k (nA 1 (aR (.sl t)) id (s:Sl (El (.sl t))))=some (zQ t s,bk,rd))/\bk.Sublist [id]:=by
 cases s with|nil=>exact⟨_,_,fun k=>wH k _,iT _⟩|mk l=>exact⟨_,_,fun k=>Xr ((hr.ob id _ ho).2.1.2.2 l rfl),bT _⟩
theorem IY(hr:HR n h1 h){id ver lo:Nat}{t:Ty}{r:Sl (El t)}(hk:eV n h (.sb id ver lo t r))(ha:Gr h id ver=true):
  ∃q bk rd,(∀k,dE h1 k (zo id lo t r)=some (q,bk,rd))/\yT q=yS (bU t) (aR t) r/\bk.Sublist [id]/\((∃u s v,fO h id=some (.ar u s v))->q=Sc (bU t) (aR t) r)/\yL q=true:=by
 obtain⟨u,s,ho⟩:=lY ha;obtain⟨_,hc⟩:=hk.2 u s ver ho;obtain⟨hz,hc⟩:=hc rfl;cases r with
 |nil=>exact⟨_,_,_,fun k=>wH k _,rfl,iT _,fun _=>rfl,rfl⟩
 |mk m=>
  cases s with
  |nil=>exact hc.elim
  |mk l=>
   obtain⟨hl,he⟩:=hc
   have hb:au h1 id=some (.aG (bU u) (l.map (aR u)))\/au h1 id=some (.qu (bU u) (l.map (aR u))):=by
    rcases ho with ho|ho
    .exact .inl ((hr.ob id _ ho).2.1.2.2 l rfl)
    .exact .inr ((hr.ob id _ ho).2.1.2.2 l rfl)
   obtain⟨q,bk,rd,g1,g2,g3,g4,g5⟩:=EX (len:=(m.map _).length) hb (by simpa using hl) _;rw[show(m.map (aR t)).length=m.length by simp,he]at g2 g4;refine⟨q,bk,rd,fun k=>?_,g2,g3,?_,g5⟩
   .have:=g1 k;simpa[zo]using this
   .rintro ⟨u',s',v',ho'⟩;rcases ho with ho|ho
    .exact g4 ((hr.ob id _ ho).2.1.2.2 l rfl)
    .rw [ho']at ho;simp at ho
theorem KS(ds:List D):(ds.map T.d).map yT=ds:=by induction ds with|nil=>rfl|cons d ds ih=>simp[yT,ih]
theorem NT(hr:HR n h1 h):∀(v w:V)(l:List Nat)(cs:List C),jI h v=some (w,l)->ff h v cs->eV n h v->iw h v=true->
  ∃ts bk rd,(∀k,cs.length<=k->iU h1 k cs=some (ts,bk,rd))/\ff h w ((ts.map yT).map .d)/\bk.Sublist l/\cs.length=ts.length/\u7 w=u7 v/\∀q∈ts,yL q=true:=by
 have done:∀(v:V)(ds:List D),ff h v (ds.map .d)->∃ts bk rd,(∀k,(ds.map C.d).length<=k->iU h1 k (ds.map .d)=some (ts,bk,rd))/\ff h v ((ts.map yT).map .d)/\bk.Sublist ([]:List Nat)/\(ds.map C.d).length=ts.length/\u7 v=u7 v/\∀q∈ts,yL q=true:=fun v ds hv=>⟨ds.map .d,[],[],fun k hk=>pI ds k (by simpa using hk),by rw[KS];exact hv,bT _,by simp,rfl,fun q hq=>by obtain⟨d,_,rfl⟩:=List.mem_map.1 hq;rfl⟩
 have one:∀(c:C)(q:T)(bk rd:List Nat),(∀k,dE h1 k c=some (q,bk,rd))->∀k,[c].length<=k->iU h1 k [c]=some ([q],bk,rd):=fun c q bk rd hq k hk=>by
  obtain⟨k,rfl⟩:∃k',k=k'+1:=⟨k-1,by simp at hk;omega⟩
  exact rJ (hq k)
 intro v;induction v with
 |so id=>
  intro w l cs hf hv hk ha;simp only[jI]at hf;split at hf
  .rename_i t s l' hs;obtain⟨rfl,rfl⟩:=af (aa hf);obtain⟨ver,ho,e⟩:=vK hs;have e:l'=[id]:=e;subst e;obtain⟨c,rfl,hc,_⟩:=hv;rw[hc _ (mV ho)];obtain⟨q,bk,rd,q1,q2,q3,q5⟩:=PR hr ho;have hd:kx t=true:=by rcases ho with ho|ho<;>exact(hr.ob id _ ho).2.1.1
   exact⟨[q],bk,rd,one _ q bk rd q1,⟨hd,by simp only[aK,aZ,q2];rfl⟩,q3,rfl,rfl,fun p hp=>by simp_all⟩
  .simp at hf
 |sr id=>
  intro w l cs hf hv hk ha;simp only[jI]at hf;split at hf
  .rename_i t s ho;obtain⟨rfl,rfl⟩:=af (aa hf);obtain⟨c,rfl,hc,_⟩:=hv;rw[hc _ (tT ho)];obtain⟨bk,rd,q1,q3⟩:=PS hr ho;exact⟨[_],bk,rd,one _ _ bk rd q1,⟨(hr.ob id _ ho).2.1.1,by simp only[aK,aZ,NR];rfl⟩,q3,rfl,rfl,fun p hp=>by obtain rfl:=List.mem_singleton.1 hp;cases s<;>rfl⟩
  .simp at hf
 |sb id ver lo t r=>intro w l cs hf hv hk ha;simp only[jI,wg]at hf;obtain⟨rfl,rfl⟩:=af (aa hf);obtain⟨hd,ha⟩:=cf.1 ha;obtain⟨c,rfl,hc,_⟩:=hv;rw[hc ha];obtain⟨q,bk,rd,q1,q2,q3,_,q5⟩:=IY hr hk ha;exact⟨[q],bk,rd,one _ q bk rd q1,⟨hd,by simp only[aK,aZ,q2];rfl⟩,q3,rfl,rfl,fun p hp=>by simp_all⟩
 |rc r ih=>
  intro w l cs hf hv hk ha;simp only[jI]at hf;split at hf
  .rename_i w' l' hw;obtain⟨rfl,rfl⟩:=af (aa hf);obtain⟨ts,bk,rd,a1,a2,a3,a4,_,a6⟩:=ih w' l' cs hw hv hk ha;exact⟨ts,bk,rd,a1,a2,a3,a4,rfl,a6⟩
  .simp at hf
 |co a r iha ihr=>
  intro w l cs hf hv hk ha;simp only[jI]at hf;split at hf
  .rename_i x l1 y l2 hx hy;obtain⟨rfl,rfl⟩:=af (aa hf);obtain⟨ca,cr,rfl,h2,h3⟩:=hv;simp only[iw,ak]at ha;obtain⟨ts,bk,rd,a1,a2,a3,a4,_,a6⟩:=iha x l1 ca hx h2 hk.1 ha.1;obtain⟨us,own2,rd2,b1,b2,b3,b4,_,b6⟩:=ihr y l2 cr hy h3 hk.2 ha.2;refine⟨ts++us,bk++own2,rd++rd2,fun k hk=>?_,⟨_,_,by simp,a2,b2⟩,a3.append b3,by simp[a4,b4],rfl,fun q hq=>(aC.1 hq).elim (a6 q) (b6 q)⟩
   grind [ap,wG]
  .simp at hf
 |x t v=>intro w l cs hf hv hk ha;obtain⟨rfl,rfl⟩:=af (aa hf);obtain⟨hd,rfl⟩:=hv;exact done _ _ ⟨hd,rfl⟩
 |kb c=>intro w l cs hf hv hk ha;obtain⟨rfl,rfl⟩:=af (aa hf);obtain rfl:=hv;exact done (.kb c) [_] rfl
 |nl k=>intro w l cs hf hv hk ha;obtain⟨rfl,rfl⟩:=af (aa hf);obtain rfl:=hv;exact done (.nl k) [_] rfl
 |fl q=>
  intro w l cs hf hv hk ha;obtain⟨rfl,rfl⟩:=af (aa hf);obtain⟨hp,rfl⟩:=hv;have e:eS q=(q.map D.lit).map C.d:=by simp[eS]
  rw[e];exact done (.fl q) (q.map D.lit) ⟨hp,e.symm⟩
 |ni=>intro w l cs hf hv hk ha;obtain⟨rfl,rfl⟩:=af (aa hf);obtain rfl:=hv;exact done .ni [] rfl
 |pt t v=>intro w l cs hf hv hk ha;obtain⟨rfl,rfl⟩:=af (aa hf);obtain⟨hd,rfl⟩:=hv;exact done (.pt t v) [_] ⟨hd,rfl⟩
 |fn z f q ih=>intro w l cs hf hv hk ha;cases z with|true=>obtain⟨rfl,rfl⟩:=af (aa hf);obtain⟨ds,hd,rfl⟩:=hv;exact done (.fn true f q) [_] ⟨ds,hd,rfl⟩|false=>simp[jI]at hf
 |_=>intro w l cs hf hv hk ha;simp[jI]at hf
def Jj:Sh->Bool
 |.x _=>true
 |_=>false
theorem OM:∀(c:Sh)(ln:Bool)(v:V)(l:List V)(i:List Nat),du h c ln v=some (l,i)->l.length=(QF c).length:=by
 intro c;induction c with
 |x t=>
  intro ln v l i ha;cases ln with
  |true=>simp[du]at ha
  |false=>
   simp only[du]at ha;split at ha
   .obtain ⟨rfl,_⟩:=af (aa ha);rfl
   .simp at ha
 |os t=>
  intro ln v l i ha;cases ln with
  |true=>simp[du]at ha
  |false=>
   cases v with
   |so id=>
    simp only[du]at ha;split at ha
    .split at ha
     .obtain ⟨rfl,_⟩:=af (aa ha);rfl
     .simp at ha
    .simp at ha
   |nl k=>cases k with|zero=>obtain⟨rfl,_⟩:=af (aa ha);rfl|succ=>simp[du]at ha
   |_=>simp[du]at ha
 |rw t=>
  intro ln v l i ha;cases ln with
  |true=>simp[du]at ha
  |false=>
   cases v with
   |sr id=>
    simp only[du]at ha;split at ha
    .split at ha
     .obtain ⟨rfl,_⟩:=af (aa ha);rfl
     .simp at ha
    .simp at ha
   |nl k=>cases k with|zero=>obtain⟨rfl,_⟩:=af (aa ha);rfl|succ=>simp[du]at ha
   |_=>simp[du]at ha
 |mp kt vt=>
  intro ln v l i ha;cases ln with
  |true=>simp[du]at ha
  |false=>
   cases v with
   |om id=>
    simp only[du]at ha;split at ha
    .split at ha
     .obtain ⟨rfl,_⟩:=af (aa ha);rfl
     .simp at ha
    .simp at ha
   |_=>simp[du]at ha
 |pb t c ih=>
  intro ln v l i ha;cases ln with
  |true=>simp[du]at ha
  |false=>
   cases v with
   |op id u p=>
    cases p with
    |cons=>simp[du]at ha
    |nil=>
     simp only[du]at ha;split at ha
     .obtain ⟨_,ha⟩:=aJ ha;split at ha
      .rename_i hh;obtain⟨rfl,_⟩:=af (aa ha);exact ih _ _ _ _ hh
      .simp at ha
     .simp at ha
   |_=>simp[du]at ha
 |nl k=>
  intro ln v l i ha;cases ln with
  |true=>simp[du]at ha
  |false=>cases v with|nl k'=>simp only[du]at ha;obtain⟨_,ha⟩:=aJ ha;obtain⟨rfl,_⟩:=af (aa ha);rfl|_=>simp[du]at ha
 |st c ih=>
  intro ln v l i ha;cases ln with
  |true=>simp[du]at ha
  |false=>
   cases v with
   |rc q=>exact ih true q l i ha
   |x t v=>cases t with|st u=>exact ih true _ l i ha|_=>simp[du]at ha
   |_=>simp[du]at ha
 |pr a c iha ihc=>
  intro ln v l i ha;cases ln with
  |false=>simp[du]at ha
  |true=>
   cases v with
   |co x r=>
    simp only[du]at ha;split at ha
    .rename_i l1 i1 l2 i2 h2 h3
     have hA:l1.length=(QF a).length:=by
      split at h2
      .unfold SO at h2;split at h2
       .obtain ⟨rfl,_⟩:=af (aa h2);rfl
       .simp at h2
      .unfold Xp at h2;split at h2
       .obtain ⟨_,h2⟩:=aJ h2;split at h2
        .obtain ⟨rfl,_⟩:=af (aa h2);rfl
        .simp at h2
       .simp at h2
      .exact iha _ _ _ _ h2
     grind [ap,QF]
    .simp at ha
   |_=>simp[du]at ha
 |ni=>
  intro ln v l i ha;cases ln with
  |false=>cases v<;>simp[du]at ha
  |true=>cases v with|ni=>obtain⟨rfl,_⟩:=af (aa ha);rfl|_=>simp[du]at ha
 |_=>intro ln v l i ha;cases ln<;>cases v<;>simp[du]at ha
theorem QY{c:Sh}{v:V}{l:List V}{i:List Nat}(ha:du h c false v=some (l,i))(hx:Jj c=false):u7 v=y_ c/\fC h v=tQ h v:=by
 cases c with
 |x t=>simp[Jj]at hx
 |os t=>cases v<;>first|exact⟨rfl,rfl⟩|simp[du]at ha
 |rw t=>cases v<;>first|exact⟨rfl,rfl⟩|simp[du]at ha
 |pb t c=>cases v<;>first|exact⟨rfl,rfl⟩|simp[du]at ha
 |mp kt vt=>cases v<;>first|exact⟨rfl,rfl⟩|simp[du]at ha
 |nl k=>cases v<;>first|exact⟨rfl,rfl⟩|simp[du]at ha
 |st c=>
  cases v with
  |rc q=>exact⟨rfl,rfl⟩
  |x t v=>cases t with|st u=>exact⟨rfl,rfl⟩|_=>simp[du]at ha
  |_=>simp[du]at ha
 |_=>cases v<;>simp[du]at ha
theorem tY{c:C}{ts:List T}{bk rd:List Nat}(hp:iU h1 301 [c]=some (ts,bk,rd)):∃t rd',dE h1 300 c=some (t,bk,rd')/\ts=[t]:=by
 simp[iU]at hp
 grind
theorem My(hr:HR n h1 h){c:Sh}{v:V}{l:List V}{i:List Nat}{x:TV}(hc:PI h c v=some (l,i))(hx:fC h v x)(hk:eV n h v)(ha:iw h v=true)(hf:jB (qm c) 300=true):
  l.length=(QF c).length/\∃r0 bk,tj h1 x=some (r0,bk)/\bk.Sublist i/\∀rest,(if(Jj c&&Hx r0)=true then K6 r0 else r0)=(bif y_ c then .agg (fk c (l++rest)).1 else .c ((fk c (l++rest)).1.headD default))/\(fk c (l++rest)).2=rest:=by
 have hf:qm c<=300:=Nat.le_of_ble_eq_true hf;have main:Jj c=false->du h c false v=some (l,i)->l.length=(QF c).length/\∃r0 bk,tj h1 x=some (r0,bk)/\bk.Sublist i/\∀rest,(if(Jj c&&Hx r0)=true then K6 r0 else r0)=(bif y_ c then .agg (fk c (l++rest)).1 else .c ((fk c (l++rest)).1.headD default))/\(fk c (l++rest)).2=rest:=by intro hX hc;obtain⟨hag,htv⟩:=QY hc hX;rw[htv]at hx;obtain⟨cs,h2,h3,h4⟩:=hx;obtain⟨ts,bk,rd,g1,g2,g3,_,_,g6,_⟩:=yq hr c false v l i cs hc h2 hk;refine⟨OM _ _ _ _ _ hc,?_⟩;cases hg:y_ c with|true=>obtain rfl:=h3 (hag.trans hg);refine⟨.agg ts,bk,by simp only[tj,g1 300 hf],g3,fun rest=>?_⟩;simp_all|false=>obtain⟨c1,rfl,rfl⟩:=h4 (hag.trans hg);obtain⟨t,rd',p1,rfl⟩:=tY (g1 301 (by omega));refine⟨.c t,bk,by simp only[tj,p1],g3,fun rest=>?_⟩;simp_all
 cases c with
 |x t=>
  simp only[PI]at hc;split at hc
  .rename_i w l' hw;split at hc
   .rename_i y hy;obtain⟨rfl,rfl⟩:=af (aa hc);have h5:tQ h v x:=by cases v with|tp q=>simp[jI]at hw|no=>simp[iw]at ha|gn=>simp[iw]at ha|_=>exact hx
    obtain⟨cs,h2,h3,h4⟩:=h5;obtain⟨ts,bk,rd,g1,g2,g3,g4,g5,g6⟩:=NT hr v w l' cs hw h2 hk ha;have e:=iW w false t y _ hy g2;have e:=qi e;have hag:=g5.symm.trans (yi hy);have hlen:cs.length=bU t:=by rw[g4,<-bH t y,<-e,List.length_map]
    have hf2:bU t+1<=300:=hf;refine⟨rfl,?_⟩;cases hg:mF t with|true=>obtain rfl:=h3 (hag.trans hg);refine⟨.agg ts,bk,by simp only[tj,g1 300 (by omega)],g3,fun rest=>⟨?_,rfl⟩⟩;have hok:Hx (.agg ts)=true:=bg.2 g6;simp only[Jj,hok,if_true,cond_true,K6,y_,hg,fk,bI,R.agg.injEq];rw[<-e,gr];rfl|false=>obtain⟨c1,rfl,rfl⟩:=h4 (hag.trans hg);obtain⟨q,rd',p1,rfl⟩:=tY (g1 301 (by simp));refine⟨.c q,bk,by simp only[tj,p1],g3,fun rest=>⟨?_,rfl⟩⟩;have hok:Hx (.c q)=true:=g6 q (by simp);simp only[Jj,hok,if_true,K6,y_,hg,cond_false,fk,bI,R.c.injEq];rw[<-e];rfl
   .simp at hc
  .simp at hc
 |os t=>
  cases v with
  |sb id ver lo u r=>
   simp only[PI]at hc;split at hc
   .rename_i u0 s0 v0 ho;split at hc
    .rename_i s hs;obtain⟨rfl,rfl⟩:=af (aa hc);obtain⟨e,rfl⟩:=cH hs;cases e;obtain rfl:=rj hx ha;obtain⟨q,bk,rd,q1,_,q3,q4,_⟩:=IY hr hk (cf.1 ha).2;obtain rfl:=q4 ⟨_,_,_,ho⟩;exact⟨rfl,.c (Sc (bU t) (aR t) r),bk,by simp only[tj,q1],q3,fun rest=>⟨rfl,rfl⟩⟩
    .simp at hc
   .simp at hc
  |_=>exact main rfl hc
 |_=>exact main rfl hc
theorem Hb(hr:HR n h1 h):∀(cs:List Sh)(vs:List V)(l:List V)(i:List Nat)(xs:List TV),B4 h cs vs=some (l,i)->mS h vs xs->(∀v∈vs,eV n h v/\iw h v=true)->cs.all (fun c=>jB (qm c) 300)=true->
  l.length=(jx cs).length/\∃rs0 bk,t7 h1 xs=some (rs0,bk)/\bk.Sublist i/\rR (cs.map Jj) rs0=px cs l:=by
 intro cs;induction cs with
 |nil=>intro vs l i xs hc hx _ _;cases vs with|cons=>simp[B4]at hc|nil=>obtain⟨rfl,rfl⟩:=af (aa hc);rw[lc hx];exact⟨rfl,[],[],rfl,bT _,rfl⟩
 |cons c cs ih=>
  intro vs l i xs hc hx hk hf;cases vs with
  |nil=>simp[B4]at hc
  |cons v vs=>
   simp[B4]at hc;split at hc
   .rename_i l1 i1 l2 i2 h2 h3;obtain⟨rfl,rfl⟩:=af (aa hc);obtain⟨y,ys,rfl,hy,hys⟩:=fX hx;simp only[fR,ak]at hf;obtain⟨e1,r0,bk,a1,a2,a3⟩:=My hr h2 hy (hk v (by simp)).1 (hk v (by simp)).2 hf.1;obtain⟨e2,rs0,own2,b1,b2,b3⟩:=ih vs l2 i2 ys h3 hys (fun w hw=>hk w (by simp[hw])) hf.2;refine⟨by simp[jx,e1,e2],r0::rs0,bk++own2,by simp[t7,a1,b1],a2.append b2,?_⟩;obtain⟨c1,c2⟩:=a3 l2;simp only[aK,rR,px,c2,b3];rw[<-c1]
   .simp at hc
theorem Ha(hr:HR n h1 h):∀(cs:List Sh)(g:V)(l:List V)(i:List Nat)(xs:List C),B3 h cs (BN g)=some (l,i)->LQ h g xs->eV n h g->cs.all (fun c=>jB (qm c) 300&&!Jj c)=true->
  ∃bk,vy h1 xs (kV cs l) bk/\bk.Sublist i:=by
 intro cs;induction cs with
 |nil=>intro g l i xs hc hx _ _;cases g with|ni=>obtain⟨rfl,rfl⟩:=af (aa hc);obtain rfl:=hx;exact⟨[],.nil,bT _⟩|co a r=>simp[BN,B3]at hc|_=>exact hx.elim
 |cons c cs ih=>
  intro g l i xs hc hx hk hf;cases g with
  |ni=>simp[BN,B3]at hc
  |co a r=>
   simp[BN,B3]at hc;split at hc
   .rename_i l1 i1 l2 i2 h2 h3;obtain⟨rfl,rfl⟩:=af (aa hc);obtain⟨y,ys,rfl,hy,hys⟩:=hx;simp only[fR,ak]at hf;obtain⟨own2,b1,b2⟩:=ih r l2 i2 ys h3 hys hk.2 (by simpa using hf.2);have GA:(bif iw h a then du h c false a else none)=some (l1,i1)->∃bk,vy h1 (y::ys) (kV (c::cs) (l1++l2)) bk/\bk.Sublist (i1++i2):=by intro h2;obtain⟨ha,h2⟩:=aJ h2;obtain⟨ts,bk,rd,g1,g2,g3,_⟩:=yq hr c false a l1 i1 [y] h2 (hy ha) hk.1;have hfu:=Nat.le_of_ble_eq_true hf.1.1;obtain⟨t,rd',p1,rfl⟩:=tY (g1 301 (by omega));refine⟨bk++own2,?_,g3.append b2⟩;simp[kV,g2 l2];exact .cons p1 b1
    cases c with|gn=>obtain⟨rfl,rfl⟩:=af (aa (h2));exact⟨own2,.tF b1,b2⟩|_=>exact GA h2
   .simp at hc
  |_=>exact hx.elim
end
theorem Kh(hg:mG){s1:St}{s:S2}(hr:R2 s1 s){r:RV}{v:V}(h:PH s r=some v):∃x,wA s1 r=some x/\fC s.heap v x/\eV s.next s.heap v/\iw s.heap v=true:=by
 cases r with
 |tmp t=>exact oX hg hr (o:=.tmp t) h
 |cell t g n=>
  simp only[PH]at h;split at h
  .rename_i p hp;split at h
   .rename_i w l hl;obtain⟨hc,h⟩:=aJ h;obtain rfl:=aa h;obtain⟨x,h1,h2,h3,h4⟩:=oX hg hr hp;obtain⟨y,h5,h6,h7⟩:=xZ (nx:=0) (c:=nM) hr.hr hl hc h2 h3;refine⟨y,?_,h6,h7,(pd hc).2.2.2⟩;have h1:bV s1.cW t=some x:=h1;simp only[wA,h1];cases x with
    |c pc=>
     simp only[ci]at h5
     grind
    |_=>simp[ci]at h5
   .simp at h
  .simp at h
theorem KT(hg:mG){s1:St}{s:S2}(hr:R2 s1 s):∀(jJ:List RV)(vs:List V),Bx (PH s) jJ=some vs->∃xs,dD (jJ.map (wA s1))=some xs/\mS s.heap vs xs/\∀v∈vs,eV s.next s.heap v/\iw s.heap v=true:=by
 intro jJ;induction jJ with
 |nil=>intro vs h;obtain rfl:=aa h;exact⟨[],rfl,trivial,fun v hv=>by simp at hv⟩
 |cons r jJ ih=>
  intro vs h;simp[Bx]at h;split at h
  .rename_i x y hx hy;obtain rfl:=aa h;obtain⟨x1,a1,a2,a3⟩:=Kh hg hr hx;obtain⟨xs,b1,b2,b3⟩:=ih y hy;refine⟨x1::xs,by simp[dD,a1,b1],⟨a2,b2⟩,fun v hv=>?_⟩
   grind
  .simp at h
def UY(al:Wy):Bool:=al.all fun w=>w.1.all (fun c=>jB (qm c) 300)&&w.2.all (fun c=>jB (qm c) 300&&!Jj c)
theorem K9(hg:mG){s1:St}{s:S2}(hr:R2 s1 s){jJ:List RV}{rs os:List Sh}{l:List V}(h:K_ jJ rs os s=some l)(hf1:rs.all (fun c=>jB (qm c) 300)=true)(hf2:os.all (fun c=>jB (qm c) 300&&!Jj c)=true):
  ∃rs0,tf jJ s1 rs0 (kV os (l.drop (jx rs).length))/\rR (rs.map Jj) rs0=px rs (l.take (jx rs).length):=by
 unfold K_ at h;split at h
 .rename_i vs hvs;split at h
  .rename_i l1 i m j h2 h3;obtain⟨hn,h⟩:=aJ h;obtain rfl:=aa h;obtain⟨xs,a1,a2,a3⟩:=KT hg hr jJ vs hvs;obtain⟨e,rs0,bk,b1,b2,b3⟩:=Hb hr.hr rs vs l1 i xs h2 a2 a3 hf1;obtain⟨own2,c1,c2⟩:=Ha hr.hr os s.gh m j s1.gh h3 hr.gh.1 hr.gh.2 hf2;rw[<-e,List.take_left,List.drop_left];exact⟨rs0,⟨xs,bk,own2,a1,b1,c1,(b2.append c2).nodup (Fc hn)⟩,b3⟩
  .simp at h
 .simp at h
section
variable{h1:bp}
theorem JQ:∀(c:Sh)(l:List V)(w:V)(l':List V),GE c l=some (w,l')->rC w=some (rU c l).1/\l'=(rU c l).2:=by
 intro c;induction c with
 |ni=>intro l w l' h;obtain⟨rfl,rfl⟩:=af (aa h);exact⟨rfl,rfl⟩
 |pr a c _ ih=>
  intro l w l' h;cases a with
  |pt t=>
   match l with
   |.x u v::l=>
    obtain⟨hc,hh⟩:=aJ h;simp at hc;obtain⟨rfl,hd⟩:=hc;split at hh
    .rename_i w2 l2 hw;obtain⟨rfl,rfl⟩:=af (aa hh);obtain⟨h2,h3⟩:=ih l w2 l2 hw;refine⟨?_,h3⟩;simp[rC,hd,if_true,h2,rU]
    .simp at hh
   |[]|.kb _::_|.nl _::_|.so _::_|.sb _ _ _ _ _::_|.op _ _ _::_|.ep _ _ _ _::_|.pt _ _::_|.fn _ _ _::_|.om _::_|.rc _::_|.tp _::_|.ni::_|.co _ _::_|.fl _::_|.no::_|.gn::_=>simp[GE]at h
  |_=>simp[GE]at h
 |_=>intro l w l' h;simp[GE]at h
theorem Lw:∀{w:V}{ds:List D},rC w=some ds->DR w=true:=by
 intro w;induction w with
 |pt t v=>
  intro ds h;simp only[rC]at h;split at h
  .assumption
  .simp at h
 |ni=>intro ds _;rfl
 |co a r iha ihr=>grind [rC,DR,Bool.and_self]
 |_=>intro ds h;simp[rC]at h
theorem Rs{h:H2}{n:Nat}{i:Nat}{u:Ty}{v:El u}(hd:kx u=true)(hs:(y_ (.x u)||De (.x u))=true):∃x,fC h (.x u v) x/\eV n h (.x u v)/\
  ∀(r:List A)(k:Nat),enter ((bif y_ (.x u)then A.agg (aR u v)else A.d ((aR u v).headD default))::r) i k=((i,x)::(enter r (i+1) k).1,(enter r (i+1) k).2.1,(enter r (i+1) k).2.2.1,(enter r (i+1) k).2.2.2):=by
 cases hg:mF u with
 |true=>refine⟨.agg _,bW ⟨_,⟨hd,rfl⟩,fun _=>rfl,fun e=>(by rw[show u7 _=mF u from rfl,hg]at e;cases e)⟩,trivial,fun r k=>?_⟩;simp[y_,hg,enter]
 |false=>
  have h1:=by simpa[y_,hg,De]using hs
  have hl:=bH u v;rw[h1]at hl
  match he:aR u v,hl with|[d],_=>refine⟨.c _,bW ⟨[.d d],⟨hd,by rw[he];rfl⟩,fun e=>(by rw[show u7 _=mF u from rfl,hg]at e;cases e),fun _=>⟨_,rfl,rfl⟩⟩,trivial,fun r k=>?_⟩;simp only[y_,hg,cond_false,enter,cF]
theorem yK{α:Type}{a t:Nat}{x:α}{l:List (Nat×α)}(h:a≠t):bV ((a,x)::l) t=bV l t:=by simp[bV];rw[show(a==t)=false by simpa using h,cond_false]
theorem qS{α:Type}{a:Nat}{x:α}{l:List (Nat×α)}:bV ((a,x)::l) a=some x:=by simp[bV]
theorem Lh:∀(ps:List (Bool×Sh))(i:Nat)(l:List V)(s:S2)(h1:bp)(e:List (Nat×V))(s':S2),vg ps i l s=some (e,s')->C_ ps=true->HR s.next h1 s.heap->s.gh=.ni->
  HR s'.next ((enter (gR ps l) i s.next).2.1++h1) s'.heap/\jy s.next s.heap s'.heap/\s.next<=s'.next/\(∀p∈(enter (gR ps l) i s.next).2.1,s.next<=p.1/\p.1<s'.next)/\
  (∀t v,bV e t=some v->eV s'.next s'.heap v/\∃x,bV (enter (gR ps l) i s.next).1 t=some x/\fC s'.heap v x)/\
  s'.next=(enter (gR ps l) i s.next).2.2.1/\LQ s'.heap s'.gh (enter (gR ps l) i s.next).2.2.2/\eV s'.next s'.heap s'.gh:=by
 intro ps;induction ps with
 |nil=>
  intro i l s h1 e s' he _ hr hg;cases l with
  |cons=>simp[vg]at he
  |nil=>
   obtain⟨rfl,rfl⟩:=af (aa he);simp only[gR,enter,List.nil_append];refine⟨hr,jy.refl _ _,am _,fun p hp=>by simp at hp,fun t v h=>by simp[bV]at h,trivial,?_,?_⟩
   .rw [hg];rfl
   .rw [hg];trivial
 |cons p ps ih=>
  obtain⟨b,c⟩:=p;intro i l s h1 e s' he hp hr hg;simp only[C_,ak]at hp;obtain⟨hc,hps⟩:=hp
  -- data: one HD temporary
  have data:∀(l2:List V)(w:V)(a:A)(x:TV),gR ((b,c)::ps) l=a::gR ps l2->(∀(r:List A)(k:Nat),enter (a::r) i k=((i,x)::(enter r (i+1) k).1,(enter r (i+1) k).2.1,(enter r (i+1) k).2.2.1,(enter r (i+1) k).2.2.2))->
    (∀h,fC h w x)->(∀n h,eV n h w)->(match vg ps (i+1) l2 s with|some (e,s)=>some ((i,w)::e,s)|none=>none)=some (e,s')->
    HR s'.next ((enter (gR ((b,c)::ps) l) i s.next).2.1++h1) s'.heap/\jy s.next s.heap s'.heap/\s.next<=s'.next/\(∀p∈(enter (gR ((b,c)::ps) l) i s.next).2.1,s.next<=p.1/\p.1<s'.next)/\
    (∀t v,bV e t=some v->eV s'.next s'.heap v/\∃x,bV (enter (gR ((b,c)::ps) l) i s.next).1 t=some x/\fC s'.heap v x)/\
    s'.next=(enter (gR ((b,c)::ps) l) i s.next).2.2.1/\LQ s'.heap s'.gh (enter (gR ((b,c)::ps) l) i s.next).2.2.2/\eV s'.next s'.heap s'.gh:=by
   intro l2 w a x ha hen hx hk he;split at he
   .rename_i e1 s1 h2;obtain⟨rfl,rfl⟩:=af (aa he);obtain⟨a1,a2,a3,a4,a5,a6,a7,a8⟩:=ih (i+1) l2 s h1 e1 s1 h2 hps hr hg;rw[ha,hen];refine⟨a1,a2,a3,a4,fun t v h=>?_,a6,a7,a8⟩;by_cases et:i=t
    .subst et;rw[qS]at h;obtain rfl:=aa h;exact⟨hk _ _,x,qS,hx _⟩
    .rw [yK et]at h|-;exact a5 t v h
   .simp at he
  cases b with
  |true=>
   simp only[cond_true,ak]at hc;simp only[vg]at he;split at he
   .rename_i w l2 s1 hm;split at he
    .rename_i e1 s2 h2;obtain⟨rfl,rfl⟩:=af (aa he);obtain⟨g1,g2,g3,g4,g5,_⟩:=wR c false l s w l2 s1 h1 hm hr;have hone:De c=true:=by have:=hc.1;cases c<;>simp[wU]at this<;>rfl
     have hlen:=DI hm hone
     match ht:(fk c l).1,hlen with
     |[t0],_=>
      have hu:iH s.next [t0]=([(k9 s.next t0).1],(k9 s.next t0).2.1++[],(k9 s.next t0).2.2):=rfl;rw[ht,hu]at g1 g3 g4;simp only[aV]at g1 g3 g4;obtain⟨k1,k2,k3,k4,k5,k6,_⟩:=g3;obtain⟨a1,a2,a3,a4,a5,a6,a7,a8⟩:=ih (i+1) l2 s1 ((k9 s.next t0).2.1++h1) e1 s2 h2 hps k1 (k4.trans hg);have hen:enter (gR ((true,c)::ps) l) i s.next=((i,.c (k9 s.next t0).1)::(enter (gR ps l2) (i+1) s1.next).1,(k9 s.next t0).2.1++(enter (gR ps l2) (i+1) s1.next).2.1,(enter (gR ps l2) (i+1) s1.next).2.2.1,(k9 s.next t0).1::(enter (gR ps l2) (i+1) s1.next).2.2.2):=by simp only[gR,ht,cF,<-g5,enter,<-g4]
      rw[hen];have hk:=gI a3 a2 g2;have hcel:=lX a2 g2 g1;refine⟨a1.ext fun j=>xX (fun p hp q hq e=>?_) j,jy.trans k5 k2 a2,bo k5 a3,fun p hp=>?_,fun t v h=>?_,a6,⟨_,_,rfl,fun _=>hcel,a7⟩,⟨hk,a8⟩⟩
      .have:=(k6 p hp).2;have:=(a4 q hq).1;omega
      .rcases aC.1 hp with hp|hp
       .exact ⟨(k6 p hp).1,Nat.lt_of_lt_of_le (k6 p hp).2 a3⟩
       .exact ⟨bo k5 (a4 p hp).1,(a4 p hp).2⟩
      .by_cases et:i=t
       .subst et;rw[qS]at h;obtain rfl:=aa h;refine⟨hk,_,qS,?_⟩;have hag:u7 w=false:=by have:=wR c false l s w l2 s1 h1 hm hr;rw[this.2.2.2.2.2 rfl];have:=hc.1;cases c<;>simp[wU]at this<;>rfl
        exact bW ⟨_,hcel,fun e=>(by rw[hag]at e;cases e),fun _=>⟨_,rfl,rfl⟩⟩
       .rw [yK et]at h|-;exact a5 t v h
    .simp at he
   .simp at he
  |false=>
   simp only[cond_false,ak]at hc;cases c with
   |x t=>
    match l,he with
    |.x u v::l,he=>
     simp only[vg]at he;obtain⟨hd,he2⟩:=aJ he;simp only[ak,decide_eq_true_eq]at hd;obtain⟨rfl,hd⟩:=hd;obtain⟨x,_,_,h3⟩:=Rs (h:=[]) (n:=0) (i:=i) (v:=v) hd hc.1
     have hx:∀h,fC h (.x u v) x:=fun h=>by
      obtain⟨x',h1,_,h3'⟩:=Rs (h:=h) (n:=0) (i:=i) (v:=v) hd hc.1;have e1:=h3 [] 0;rw[h3' [] 0]at e1;have:x'=x:=by have:=(af e1).1;exact(af (List.cons.inj this).1).2
      rw[<-this];exact h1
     exact data l (.x u v) _ x rfl h3 hx (fun _ _=>trivial) he2
    |[],he|.kb _::_,he|.nl _::_,he|.so _::_,he|.sb _ _ _ _ _::_,he|.op _ _ _::_,he|.ep _ _ _ _::_,he|.pt _ _::_,he|.fn _ _ _::_,he|.om _::_,he|.rc _::_,he|.tp _::_,he|.ni::_,he|.co _ _::_,he|.fl _::_,he|.no::_,he|.gn::_,he=>simp[vg]at he
   |pt t=>match l,he with|.x u v::l,he=>simp only[vg]at he;obtain⟨hd,he2⟩:=aJ he;simp only[ak,decide_eq_true_eq]at hd;obtain⟨rfl,hd⟩:=hd;refine data l (.pt u v) (.d (.pt (aR u v))) (.c (.d (.pt (aR u v)))) rfl (fun r k=>by simp only[enter]) (fun h=>bW (dv rfl ⟨hd,rfl⟩)) (fun _ _=>trivial) he2|[],he|.kb _::_,he|.nl _::_,he|.so _::_,he|.sb _ _ _ _ _::_,he|.op _ _ _::_,he|.ep _ _ _ _::_,he|.pt _ _::_,he|.fn _ _ _::_,he|.om _::_,he|.rc _::_,he|.tp _::_,he|.ni::_,he|.co _ _::_,he|.fl _::_,he|.no::_,he|.gn::_,he=>simp[vg]at he
   |nl k=>refine data l (.nl k) (.d (Ri k)) (.c (.d (Ri k))) (by cases l<;>rfl) (fun r k=>by simp only[enter]) (fun h=>bW (dv rfl rfl)) (fun _ _=>trivial) he
   |fn f c2=>
    have he:(match GE c2 l with|some (w,l)=>(match vg ps (i+1) l s with|some (e,s)=>some ((i,V.fn true f w)::e,s)|none=>none)|none=>none)=some (e,s'):=by cases l<;>exact he
    split at he
    .rename_i w l2 hw;obtain⟨h2,rfl⟩:=JQ c2 l w l2 hw;refine data _ (.fn true f w) (.d (.fn f (rU c2 l).1)) (.c (.d (.fn f (rU c2 l).1))) (by cases l<;>rfl) (fun r k=>by simp only[enter]) (fun h=>bW (dv rfl ⟨_,h2,rfl⟩)) (fun n h=>?_) he;exact(Bb (h:=h) w (Lw h2)).2 n
    .simp at he
   |_=>cases l<;>simp[vg]at he
theorem Lg{ps:List (Bool×Sh)}{l:List V}{s:S2}(h:Tm ps l=some s)(hp:C_ ps=true):R2 (jw (gR ps l)) s:=by
 unfold Tm at h;split at h
 .rename_i e s1 he;obtain rfl:=aa h;obtain⟨a1,a2,a3,a4,a5,a6,a7,a8⟩:=Lh ps 0 l _ [] e s1 he hp ⟨fun i o ho=>by simp[fO,bV]at ho⟩ rfl;rw[aV]at a1;exact⟨fun t v ht=>⟨(a5 t v ht).1,fun _=>(a5 t v ht).2⟩,a1,Nat.le_of_eq a6.symm,a7,a8⟩
 .simp at h
end
theorem Li:∀(ps:List (Bool×Sh))(l:List V),(gR ps l).length=ps.length:=by intro ps;induction ps with|nil=>intro l;rfl|cons p ps ih=>obtain⟨b,c⟩:=p;cases b<;>simp[gR,ih]
theorem Ov{P:Program}{bM:xp}{nt:Nat}{an:List (Nat×An)}:∀(c:Code)(n:Nat)(s:St)(Q:rD->St->Prop),W P (pw (tu P bM nt an c n).1) s Q->W P (pR P bM nt c) s Q:=by
 intro c;induction c with
 |skip=>intro n s Q h;exact h
 |exit id=>intro n s Q h;exact h
 |ret=>intro n s Q h;exact h
 |region o ops draw=>
  intro n s Q h;have hm:(ops.toList.map (SA P bM nt ops)).map (·.o)=ops.toList.map (eE P bM nt ops):=by rw[gr];rfl
  cases draw with
  |false=>simp[tu,pw,hm]at h;simpa only[pR,Bool.false_eq_true,if_false]using h
  |true=>
   simp[tu]at h;simp[pR,yj];split at h
   .simp [pw,hm]at h;simp_all
   .exact h.elim
 |seq a b iha ihb=>intro n s Q h;exact iha _ s _ (W.mono (vz.mono (fun s1 h1=>ihb _ s1 Q h1) fun _ _ h=>h) h)
 |cond x a b iha ihb=>intro n s Q h;obtain⟨s1,h0,t,h1,h2,h3⟩:=h;exact⟨s1,h0,t,h1,fun ht=>iha _ s1 Q (h2 ht),fun ht=>ihb _ s1 Q (h3 ht)⟩
 |block id a ih=>intro n s Q h;exact ih _ s _ h
 |loop a ih=>
  intro n s Q h;simp only[tu]at h;split at h
  .obtain ⟨I,m,h1,h2⟩:=h;exact⟨I,m,h1,fun k s1 hI=>ih _ s1 _ (h2 k s1 hI)⟩
  .exact h.elim
 |scope a ih=>intro n s Q h;exact ih _ s Q h
 |label l=>intro n s Q h;exact h
 |_=>intro n s Q h;exact h.elim
theorem H_{P:Program}{bM:xp}{f np:Nat}{an:List (Nat×An)}{F:F2}(h:Gb P bM f np an=some F):∃G,v6 P bM f np=some G/\G.np=np/\G.jJ=F.jJ/\∀s Q,W P (pw F.body) s Q->W P G.body s Q:=by
 unfold Gb at h;split at h
 .simp at h
 rename_i g hg;split at h
 .simp at h
 rename_i code hb;split at h
 case isFalse=>simp at h
 rename_i hc;split at h
 case h_2=>simp at h
 rename_i jJ hrv;obtain rfl:=aa h;unfold v6;simp only[hg,hb,hrv];rw[if_pos (by simpa using hc)];exact⟨_,rfl,rfl,rfl,fun s Q hw=>Ov code 0 s Q hw⟩
theorem RQ{jJ:List RV}:∀(al:Wy)(z:xo al),∃r o l,(r,o)∈al/\(∀s,Qr jJ s al=some z->K_ jJ r o s=some l)/\∀Q:List Sh->List Sh->List V->Prop,Q r o l->Pa Q al z:=by
 have key:∀(w:Wy)(r o:List Sh)(z:xo.Iu r o w),∃r' o' l,(r',o')∈(r,o)::w/\(∀s,La jJ s r o w=some z->K_ jJ r' o' s=some l)/\∀Q,Q r' o' l->O_ Q r o w z:=by
  intro w;induction w with
  |nil=>
   intro r o z;refine⟨r,o,pE _ z,by simp,fun s hz=>?_,fun Q hQ=>hQ⟩;simp[La]at hz;split at hz
   .rename_i l hl;rw[qF _ _ _ hz];exact hl
   .simp at hz
  |cons p w ih=>
   obtain⟨r',o'⟩:=p;intro r o z;cases z with
   |inl y=>
    refine⟨r,o,pE _ y,by simp,fun s hz=>?_,fun Q hQ=>hQ⟩
    grind [La,aa,qF]
   |inr y=>
    obtain⟨r2,o2,l,h1,h2,h3⟩:=ih r' o' y;refine⟨r2,o2,l,List.mem_cons_of_mem _ h1,fun s hz=>?_,fun Q hQ=>h3 Q hQ⟩
    grind [La,aa]
 intro al z;cases al with|nil=>exact nomatch z|cons p w=>exact key w p.1 p.2 z
theorem N9{P:Program}(hm:P.follows .mixedOrders=true){bM:xp}{f np:Nat}{an:List (Nat×An)}{F:F2}{tb:Gu}(htb:qt P tb)(hg:mG)(hF:Gb P bM f np an=some F){ps:List (Bool×Sh)}{al:Wy}(hnp:ps.length=np)(hps:C_ ps=true)(hal:UY al=true)
  {p:uz (jx (ps.map (·.2)))} {z:xo al} (hz:VE tb (some F) ps al p=some z):
  Pa (fun rs os l=>xw P f (gR ps (pE (jx (ps.map (·.2))) p)) (px rs (l.take (jx rs).length)) (kV os (l.drop (jx rs).length))) al z:=by
 obtain⟨G,hG,hGn,hGr,hGb⟩:=H_ hF;simp[VE]at hz;split at hz
 case h_2=>simp at hz
 rename_i s hs;have hr:=Lg hs hps
 -- the ways that the run may end in
 have hend:∀o s1',Uc (nr F.body) (jw (gR ps (pE _ p))) s (fun o s=>match o with|.exit _=>none|_=>Qr F.jJ s al) z o s1'->wk (fun s1''=>∃s',R2 s1'' s'/\s1''.gh.length=(jw (gR ps (pE _ p))).gh.length/\(∀i,o≠.exit i)/\Qr F.jJ s' al=some z) s1':=by
  intro o s1' h;refine wk.mono h fun s1''⟨s',h1,⟨w,h2,h3⟩,h4⟩=>⟨s',h1,h3.gl,fun i e=>?_,?_⟩
  .subst e;simp at h4
  grind
 have hW:=W.mono hend (Lc htb hg F.body _ s _ z hz hr);obtain⟨r,o,l,h1,h2,h3⟩:=RQ (jJ:=F.jJ) al z;refine h3 _ (Jw hm hG (m:=r.map Jj) ⟨?_,hGb _ _ (W.mono (fun dQ s1' h=>?_) hW)⟩)
 .rw [Li,hnp,hGn]
 .have hf:=bg.1 hal (r,o) h1
  have qU:wk (fun s=>s.gh.length=(jw (gR ps (pE _ p))).gh.length/\∃rs0,tf G.jJ s rs0 (kV o (l.drop (jx r).length))/\rR (r.map Jj) rs0=px r (l.take (jx r).length)) s1':=by
   grind [wk.mono,K9]
  cases dQ with|normal=>exact qU|ret=>exact qU|exit i=>obtain⟨_,_,_,_,_,k,_⟩:=h;exact absurd rfl (k i)
theorem bh{P:Program}(hm:P.follows .mixedOrders=true)(hg:mG){bM:xp}{f np:Nat}{an:List (Nat×An)}{tb:Gu}(htb:qt P tb){sp:iz}
  (h1:(O9 sp&&gb sp.ps.length np&&UY sp.al)=true) (h3:(fun p=>VE tb (Gb P bM f np an) sp.ps sp.al p)=sp.fn):bw P f sp:=by
 simp only[ak]at h1;obtain⟨⟨h4,h5⟩,h6⟩:=h1;refine⟨h4,fun p z hz=>?_⟩;have hp:C_ sp.ps=true:=by simp[O9]at h4;exact h4.1.1.2
 rw[<-h3]at hz;cases hF:Gb P bM f np an with|none=>rw[hF]at hz;simp[VE]at hz|some F=>rw[hF]at hz;exact N9 hm htb hg hF (bB h5) hp h6 hz
theorem S7(h:∀g,S8 g=none):mG:=fun g v hg=>by rw[h g]at hg;simp at hg
open Go.ChangeShapes Go.WideShapes Go.ChangeAt Go.RowKit
def yf:(t:Ty)->El t->Prop
 |.i k,x=>k.min<=x/\x<=k.max
 |.s,s=>s.size<=maxLen
 |.f k,b=>(Lit.float k b).wf=true
 |.sl t,s=>s.l.length<=maxLen/\∀x∈s.l,yf t x
 |.pr a c,v=>yf a v.1/\yf c v.2
 |.st t,v=>yf t v
 |.ar _ t,v=>∀x∈v.1,yf t x
 |_,_=>True
def KG(P:Program)(ok:TypeId->Bool)(sz:TypeId->Nat):List Field->Nat->Nat->Bool
 |[],off,R3=>gb off R3
 |f::r,off,R3=>ok f.type&&gb f.offset off&&gb (P.cellsOf f.type) (sz f.type)&&KG P ok sz r (off+sz f.type) R3
def I4(P:Program):Nat->TypeId->Bool
 |0,_=>false
 |n+1,t=>match P.underlying t with|some (.int _)|some .bool|some .string|some (.float _)=>true|some (.slice e)=>I4 P n e&&Nat.blt 0 (bU (eK P n e))&&gb (P.cellsOf e) (bU (eK P n e))|some (.struct fs)=>KG P (I4 P n) (fun t=>bU (eK P n t)) fs.toList 0 (P.cellsOf t)|some (.array m e)=>I4 P n e&&gb (P.cellsOf e) (bU (eK P n e))&&gb (P.cellsOf t) (m*bU (eK P n e))|_=>false
theorem MM{P:Program}:∀(n:Nat)(t:TypeId),I4 P n t=true->rZ P t (aR (eK P n t)) (yf (eK P n t)):=by
 intro n;induction n with
 |zero=>intro t h;simp[I4]at h
 |succ n ih=>
  intro t h;simp only[I4]at h;split at h
  .rename_i k hu;rw[show eK P (n+1) t=.i k by simp only[eK,hu]];exact Kx hu
  .rename_i hu;rw[show eK P (n+1) t=.b by simp only[eK,hu]];exact Hs hu
  .rename_i hu;rw[show eK P (n+1) t=.s by simp only[eK,hu]];exact Dc hu
  .rename_i k hu;rw[show eK P (n+1) t=.f k by simp only[eK,hu]];exact E2 hu
  .rename_i e hu;simp only[ak]at h;obtain⟨⟨h1,h2⟩,h3⟩:=h;rw[show eK P (n+1) t=.sl (eK P n e)by simp only[eK,hu]];exact E1 (enc:=aR (eK P n e)) hu (bB h3) (by simpa[Nat.blt_eq]using h2) (fun a=>bH _ a) (ih e h1)
  .rename_i fs hu;rw[show eK P (n+1) t=.st (eK.Vl (fs.toList.map fun f=>eK P n f.type))by simp only[eK,hu]];intro H en w fuel cs x hx;have hl:=GK hu hx
   have key:∀(suf:List Field)(i off:Nat),(∀j,fs[i+j]?=suf[j]?)->KG P (I4 P n) (fun t=>bU (eK P n t)) suf off (P.cellsOf t)=true->
     ∃v:El (eK.Vl (suf.map fun f=>eK P n f.type)),yf _ v/\kX w (cs.drop off) (aR _ v):=by
    intro suf;induction suf with
    |nil=>intro i off _ hok;have e:=bB hok;exact⟨(),trivial,kX.nil (by rw[cE,hl,e];omega)⟩
    |cons f r ihr=>
     intro i off hi hok;simp only[KG,ak]at hok;obtain⟨⟨⟨k1,k2⟩,k3⟩,k4⟩:=hok;have k2:=bB k2;have k3:=bB k3;have hf:fs[i]?=some f:=by have:=hi 0;simpa using this
     obtain⟨a,f1,c1⟩:=E3 hu hx hf (ih f.type k1);rw[k2,k3]at c1;obtain⟨v,f2,c2⟩:=ihr (i+1) (off+bU (eK P n f.type)) (fun j=>by have:=hi (j+1);rw[show i+1+j=i+(j+1)by omega,this];rfl) k4
     have hle:off+bU (eK P n f.type)<=cs.length:=by
      have hmono:∀(suf:List Field)(off:Nat),KG P (I4 P n) (fun t=>bU (eK P n t)) suf off (P.cellsOf t)=true->off<=P.cellsOf t:=by intro suf;induction suf with|nil=>intro off h;exact Nat.le_of_eq (bB h)|cons g r ih=>intro off h;simp only[KG,ak]at h;have:=ih _ h.2;omega
      rw[hl];exact hmono r _ k4
     have hfield:=kX.field c1 rfl c2 hle;cases r with|nil=>have e:aR (eK.Vl (([]:List Field).map fun f=>eK P n f.type)) v=[]:=rfl;rw[e,aV]at hfield;exact⟨a,f1,hfield⟩|cons g r=>exact⟨(a,v),⟨f1,f2⟩,hfield⟩
   obtain⟨v,f1,c1⟩:=key fs.toList 0 0 (fun j=>by simp) h;exact⟨v,f1,by rw[eH]at c1;exact c1⟩
  .rename_i m e hu;simp only[ak]at h;obtain⟨⟨h1,h2⟩,h3⟩:=h;have h2:=bB h2;have h3:=bB h3;rw[show eK P (n+1) t=.ar m (eK P n e)by simp only[eK,hu]];intro H en w fuel cs x hx;have hl:=LF hu hx
   have key:∀j,j<=m->∃l:List (El (eK P n e)),l.length=j/\(∀y∈l,yf _ y)/\kX w (cs.drop ((m-j)*bU (eK P n e))) (l.flatMap (aR (eK P n e))):=by
    intro j;induction j with
    |zero=>intro _;exact⟨[],rfl,fun y hy=>by simp at hy,kX.nil (by rw[cE,hl,h3];simp)⟩
    |succ j ihj=>
     intro hj;obtain⟨l,l1,l2,l3⟩:=ihj (by omega);obtain⟨a,f1,c1⟩:=Hr hu hx (i:=m-(j+1)) (by omega) (ih e h1);rw[h2]at c1;have hs:(m-(j+1))*bU (eK P n e)+bU (eK P n e)=(m-j)*bU (eK P n e):=by rw[show m-j=(m-(j+1))+1 by omega,Nat.succ_mul]
     refine⟨a::l,by simp[l1],fun y hy=>?_,?_⟩
     .rcases List.mem_cons.1 hy with rfl|hy
      .exact f1
      .exact l2 y hy
     .rw [List.flatMap_cons];refine kX.field c1 hs l3 ?_;rw[hl,h3];exact Nat.mul_le_mul_right _ (by omega)
   obtain⟨l,l1,l2,l3⟩:=key m (am _);rw[Nat.sub_self,Nat.zero_mul,eH]at l3;exact⟨⟨l,l1⟩,l2,l3⟩
  .simp at h
def Gz:List Ty->List V->Prop
 |[],l=>l=[]
 |a::r,l=>∃(v:El a)(m:List V),l=.x a v::m/\yf a v/\Gz r m
theorem JD{a:Ty}(v:El a):yO a (.x a v)=some v:=by simp[yO,gg]
theorem Gz.gX:∀{cs:List Ty}{l:List V},Gz cs l->∃p,xG cs l=some p/\pE cs p=l:=by
 have key:∀(r:List Ty)(a:Ty)(l:List V),Gz (a::r) l->∃p,JU a r l=some p:=by intro r;induction r with|nil=>rintro a l ⟨v,m,rfl,_,hm⟩;have hm:m=[]:=hm;subst hm;exact⟨v,JD v⟩|cons c r ih=>rintro a l ⟨v,m,rfl,_,hm⟩;obtain⟨p,hp⟩:=ih c m hm;refine⟨(v,p),?_⟩;show JW (yO a (.x a v)) (JU c r m)=_;rw[JD,hp];rfl
 intro cs l h;cases cs with|nil=>have h:l=[]:=h;subst h;exact⟨(),rfl,rfl⟩|cons a r=>obtain⟨p,hp⟩:=key r a l h;exact⟨p,hp,qF (a::r) l p hp⟩
theorem TQ{P:Program}{n:Nat}{t:TypeId}(ho:I4 P n t=true)(h1:(mF (eK P n t)||gb (bU (eK P n t)) 1)=true){w:World}{r:Reach}{b:Nat}{v:Value}(hv:Value.okWide P w r b t v)
  {H:Type} {en:TypeId×Value->H} {x:DataW H} {ps:List MemPlace} (h:DataW.Trod en P w 0 (fun _=>true) true t v x ps):∃a:El (eK P n t),yf _ a/\RA (S0 w) w (bif mF (eK P n t)then .agg (aR _ a)else .d ((aR _ a).headD default)) v []:=by
 have hop:=MM n t ho;cases hag:mF (eK P n t)with
 |true=>
  simp only[cond_true];cases n with
  |zero=>simp[I4]at ho
  |succ n=>
   simp only[I4]at ho;split at ho
   .rename_i hu;simp[eK,hu,mF]at hag
   .rename_i hu;simp[eK,hu,mF]at hag
   .rename_i hu;simp[eK,hu,mF]at hag
   .rename_i hu;simp[eK,hu,mF]at hag
   .rename_i hu;simp[eK,hu,mF]at hag
   .rename_i fs hu;exact QX hop hv hu h
   .rename_i m e hu;exact QW hop hv hu h
   .simp at ho
 |false=>
  simp only[cond_false];have hsz:bU (eK P n t)=1:=by rw[hag,Bool.false_or]at h1;exact bB h1
  have he:(fun a=>[(aR (eK P n t) a).headD default])=aR (eK P n t):=by
   funext a;have hl:=bH (eK P n t) a;rw[hsz]at hl
   match hh:aR (eK P n t) a,hl with|[d],_=>rfl
  have hs:match P.underlying t with|some (.struct _)|some (.array _ _)|some (.interface _)|some (.func ..)|some (.chan ..)|some .unsafePointer|some (.map _ _)=>False|_=>True:=by
   cases n with
   |zero=>simp[I4]at ho
   |succ n=>
    simp only[I4]at ho;split at ho
    .rename_i hu;rw[hu];trivial
    .rename_i hu;rw[hu];trivial
    .rename_i hu;rw[hu];trivial
    .rename_i hu;rw[hu];trivial
    .rename_i hu;rw[hu];trivial
    .rename_i fs hu;simp[eK,hu,mF]at hag
    .rename_i m e hu;simp[eK,hu,mF]at hag
    .simp at ho
  exact Vq (d:=fun a=>(aR (eK P n t) a).headD default) (fit:=yf (eK P n t)) (by rw[he];exact hop) hv hs h
def Vz(P:Program)(ts:List TypeId):Bool:=ts.all fun t=>I4 P Lk t&&(mF (eK P Lk t)||gb (bU (eK P Lk t)) 1)
theorem QV{P:Program}{W:World}{aL:Nat}{H:Type}{en:TypeId×Value->H}:∀(ts:List TypeId)(vs:List Value)(ds:List (DataW H))(ps:List MemPlace),DataW.TrodAll en P W 0 (fun _=>true) true ts vs ds ps->Vz P ts=true->
  (∀(j:Nat)t v,ts[j]?=some t->vs[j]?=some v->Value.okWide P W .any aL t v)->∃l,Gz (ts.map (eK P Lk)) l/\O7 (S0 W) W (gR (ts.map fun t=>(false,Sh.x (eK P Lk t))) l) vs []:=by
 intro ts;induction ts with
 |nil=>intro vs ds ps h _ _;cases vs with|nil=>exact⟨[],rfl,rfl⟩|cons=>cases ds<;>exact h.elim
 |cons t ts ih=>
  intro vs ds ps h hok hv;cases vs with
  |nil=>cases ds<;>exact h.elim
  |cons v vs=>cases ds with|nil=>exact h.elim|cons d ds=>obtain⟨p,q,h1,h2,rfl⟩:=h;simp only[Vz,fR,ak]at hok;obtain⟨a,f1,r1⟩:=TQ hok.1.1 (by simpa using hok.1.2) (hv 0 t v rfl rfl) h1;obtain⟨l,f2,r2⟩:=ih vs ds q h2 (by simpa[Vz]using hok.2) fun j t' v' ht hv'=>hv (j+1) t' v' (by simpa using ht) (by simpa using hv');exact⟨.x _ a::l,⟨a,l,rfl,f1,f2⟩,[],[],rfl,r1,r2⟩
theorem TC:∀(tys:List Ty),jx ((tys.map fun t=>(false,Sh.x t)).map (·.2))=tys:=by intro tys;induction tys with|nil=>rfl|cons a r ih=>show a::jx ((r.map fun t=>(false,Sh.x t)).map (·.2))=a::r;rw[ih]
theorem Lq{P:Program}{f:FuncId}{fn:Func}{s:ChangeSpec}{mh fP handsOn again:Bool}{tb:TypeId}{H:Type}{en:TypeId×Value->H}(hl:laidOutB P=true)(hfn:P.funcs[f]?=some fn)(hbody:fn.body.isSome=true)(hname:(fn.name== "runtime.NumGoroutine")=false)
  (hts:fn.params.toList.all (fun t=>P.readableRec t&&decide (t<P.types.size))=true) (hrt:fn.resultTypes= #[tb]) (htb:P.underlying tb=some .bool) (hvars:s.vars=[])
  {W:World} {args:Array Value} {ds gs:List (DataW H)} {eU:List MemPlace} (hW:DataW.Whole en P fn.params.toList s.vars mh W args.toList ds gs eU)
  (hspec:(s.fn H (ds++gs)).results=[.lit (.bool true)]/\(s.fn H (ds++gs)).args=ds/\(s.fn H (ds++gs)).vars=[])
  (hgl:DY (S0 W) W) {aL:Nat} (hval:∀(j:Nat)t v,fn.params[j]?=some t->args[j]?=some v->Value.okWide P W .any aL t v)
  {tys:List Ty} (hty:fn.params.toList.map (eK P Lk)=tys) (hok:Vz P fn.params.toList=true) {ro:Bool} {kq:List Bool} {g:uz (jx ((tys.map fun t=>(false,Sh.x t)).map (·.2)))->Option (xo [([.x .b],[])])}
  (hsp:bw P f ⟨tys.map fun t=>(false,Sh.x t),[([.x .b],[])],ro,kq,g⟩) (law:∀p,Gz (jx ((tys.map fun t=>(false,Sh.x t)).map (·.2))) (pE _ p)->g p=some true):
  Calls P f args W fun e W'=>∃v,e=.returned v/\s.post en P fn mh fP handsOn again W args v W':=by
 have hW':=hW;obtain⟨p,q,hA0,hV,hpq,hfz,hnd⟩:=hW;have hA:DataW.TrodAll en P W 0 (fun _=>true) true fn.params.toList args.toList ds p:=hA0;obtain⟨l,h1,h2⟩:=QV (aL:=aL) _ _ _ _ hA hok fun j t v ht hv=>hval j t v (by simpa using ht) (by simpa using hv);have h3:fn.params.toList.map (fun t=>(false,Sh.x (eK P Lk t)))=tys.map fun t=>(false,Sh.x t):=by rw[<-hty,gr];rfl
 rw[h3]at h2;rw[hty,<-TC tys]at h1;obtain⟨pl,hp,hu⟩:=h1.gX;have hg:=hsp.2 pl true (law pl (by rw[hu];exact h1));rw[<-hu]at h2;exact Ou hl hfn hbody hname hts hrt htb hvars hW' hspec hgl ⟨_,h2,hg⟩
end Go.Ev
