/- Operations from the evaluator's code: stores into slices. Conditions: the relation of XPa. -/
import Derived.Test.YtoekkpmeeclpeaaGreatPz
open Array renaming getD_eq_getD_getElem?->lq,length_toList->gJ,range->uh
open Bool renaming and_eq_true->ax
open Go renaming Call->te
open List renaming append_assoc->bm,append_nil->bO,cons_append->eX,length->eg,length_append->au,map_cons->bN,mem_append->aK,mem_append_left->bM,mem_append_right->eD,mem_cons->aO,mem_cons_self->aL,mem_flatMap->bL,mem_map->aR,mem_singleton->aB,nodup_append->cm,nodup_cons->gD,nodup_nil->kj,not_mem_nil->bF,range->aG,replicate->az,singleton_append->pV
open List.cons renaming inj->aE
open Nat renaming add_mul->h_,blt_eq->fM,eq_zero_or_pos->jJ,le_add_right->lI,le_refl->aw,le_succ->cA,le_trans->bg,lt_succ_self->bh,mul_le_mul_right->du,succ_mul->gS,succ_pos->oX,zero_le->cG
open Option renaming map_eq_some_iff->dh
open Option.some renaming inj->af
open Prod.mk renaming inj->aq
open Sigma.mk renaming inj->ir
namespace Go.Ev
structure DX(n:Nat)(h:H2):Prop where
 ln:∀id,G4 n (fO h id)
 lt:∀id o,fO h id=some o->id<n
 bx:∀id t c,fO h id=some (.bx t c)->fG n h c
section
variable{P:Program}{o:Oper}{vs:List V}{s:S2}{β:Type}{k:V->S2->List Nat->Option β}{r:β}{d:Option Nat}{as args:List Operand}{g:Option (Nat×Bool)}{t0:Ty}{fi:List Nat}{t el:TypeId}{sz n:Nat}{x y:Operand}{h:H2}
theorem ZF{i:Nat}{o':O}(hr:E7 h i=some (some o')):isB o'=true\/∃o,fO h i=some o/\If o o':=by
 unfold E7 at hr;split at hr
 .cases hr
 .obtain ⟨o2,ho2,e⟩:=dh.1 hr;obtain rfl:=af e;unfold V7 at ho2;split at ho2
  .rename_i ho;obtain rfl:=af ho2;exact .inr ⟨_,ho,SSt.refl _ _ _⟩
  .rename_i ho;obtain rfl:=af ho2;exact .inr ⟨_,ho,SSt.refl _ _ _⟩
  .obtain rfl:=af ho2;exact .inl rfl
  .have:=(aN ho2).2;split at this<;>first|(cases this;done)|skip
   split at this<;>first|(cases this;done)|skip
   obtain rfl:=af this;exact .inl rfl
  .cases ho2
theorem acH(hs:DX n h){i:Nat}{o':Option O}(hr:E7 h i=some o'):i<n/\∀t c,o'≠some (.bx t c):=by
 unfold E7 at hr;split at hr
 .rename_i ho;cases hr;exact⟨hs.lt _ _ ho,by simp⟩
 .obtain ⟨o2,ho2,e⟩:=dh.1 hr;obtain rfl:=e;unfold V7 at ho2;split at ho2
  .rename_i ho;obtain rfl:=af ho2;exact⟨hs.lt _ _ ho,by simp⟩
  .rename_i ho;obtain rfl:=af ho2;exact⟨hs.lt _ _ ho,by simp⟩
  .rename_i ho;obtain rfl:=af ho2;exact⟨hs.lt _ _ ho,by simp⟩
  .rename_i ho;have:=(aN ho2).2;split at this<;>first|(cases this;done)|skip
   split at this<;>first|(cases this;done)|skip
   obtain rfl:=af this;exact⟨hs.lt _ _ ho,by simp⟩
  .cases ho2
theorem R6{i:Nat}{o':Option O}(hr:E7 h i=some o'):G4 n o':=by
 unfold E7 at hr;split at hr
 .cases hr;trivial
 .obtain ⟨o2,ho2,rfl⟩:=dh.1 hr;unfold V7 at ho2;split at ho2
  .cases ho2;trivial
  .cases ho2;trivial
  .cases ho2;trivial
  .have:=(aN ho2).2;split at this<;>first|(cases this;done)|skip
   split at this<;>cases this;trivial
  .cases ho2
theorem Ke{u:xm}(hs:DX n h)(hu:∀p∈u,E7 h p.1=some p.2):mA n h u/\∀p∈u,p.1<n/\∀t c,p.2≠some (.bx t c):=⟨fun p hp o' e=>.inr (ZF (e▸hu p hp)),fun p hp=>acH hs (hu p hp)⟩
theorem ZE{S:Nat->Prop}{w:World}{φ:iq}{v w1:V}{a:List Nat}{xv:Value}(hf:zK h v=some (w1,a))(hx:RW S w φ v xv):R1 S w φ v xv:=by cases v<;>first|exact hx|cases hf
theorem Xu{id m:Nat}{u:Ty}{p:xK}{wv:V}{l:Sl (El u)}{ver:Nat}(ho:o.op=.store t x y)(hs:fh P t=some (LG wv))(hS:DX s.next s.heap)(hok:∀v∈[V.ep id m u p,wv],fG s.next s.heap v)(hal:tM s.heap wv=true)
  {w1:V} {a:List Nat} {q:Ty} {y1:El q} {c:V} {y2:El u} {s1:S2} (hv:fO s.heap id=some (.ar u l ver)) (h1:zK s.heap wv=some (w1,a)) (h2:Fw u p=some q) (h3:zN q w1=some y1) (h4:vD (.x u (gt l.l m)) p (.x q y1)=some c) (h5:vf u c=some y2)
  (h6:AR s.heap a s=some s1) (h7:id∉a) (hk:k (.tp .ni) (j8 s1 id (some (.ar u (.mk (l.l.set m y2)) (ver+1)))) (id::a)=some r):PR P o [x,y] [.ep id m u p,wv] s k r:=by
 obtain⟨uf,rfl,e1,e2⟩:=E8 h6;obtain⟨g1,g2⟩:=Ke hS e2;have hid:=hok (.ep id m u p) aL;have hnil:l.rp=false:=hid.2 _ hv;refine⟨.tp .ni,(id,some (.ar u (.mk (l.l.set m y2)) (ver+1)))::uf,s.next,id::a,?_,aw _,mA.cons (fun o' e=>.inr (.inr ⟨_,hv,?_⟩)) g1,trivial,fun p hp t c e=>?_,fun p hp=>?_,fun ρ S K w0 w φ H _ hI _ har hl hn=>?_⟩
 .rw [<-hk];simp only[HG,j8,bN,e1,eX]
 .cases e;cases l with|nil=>cases hnil|mk r=>exact⟨cA _,rfl,by simp[nB,Sl.l],fun e=>absurd e (by omega)⟩
 .rcases aO.1 hp with rfl|hp
  .cases e
  .exact absurd e ((g2 p hp).2 t c)
 .rcases aO.1 hp with rfl|hp
  .exact .inl ⟨hid.1,trivial⟩
  .exact .inl ⟨(g2 p hp).1,R6 (e2 p hp)⟩
 .have hF:=hI.R8 e1 e2 fun i hi=>hl i (by simp[hi]);have gj:iW S w (SF S w φ H a) w:=SF.QK a;have hr:=ZE h1 har.2.1;obtain⟨c1,c2⟩:=hr.cells;have hc:=Gf hI gj h1 c1 (fun i hi=>hl i (by simp[hi])) hal (hok wv (by simp)) fun b hb=>hb
  have hH:up H uf id=some (.ar u l ver):=by
   have:iV uf id=none:=by cases e:iV uf id with|none=>rfl|some q=>exact absurd (e1▸aR.2 ⟨_,nE.1 q e,rfl⟩) h7
   simp only[up,this];exact(hl id (by simp)).trans hv
  obtain⟨w',q1,q2,q3⟩:=Pd ho (by rw[hs,c1.len]) hF (har.1.mono gj (Ren.refl _)) rfl rfl c2 (Dr h3 hc) hH h2 h4 h5;refine⟨.skip,undef,w',q1,.inr ⟨rfl,rfl⟩,jE.set (gj.trans q2) ?_⟩;rw[<-mj]at q3;exact q3
theorem Xr{id id2 m ver:Nat}{u:Ty}{v:Sl (Sl (El u))}{q:Sl (El u)}{ln:Option (Nat×Nat)}(ho:o.op=.store t x y)(hs:fh P t=some 1)(hok:∀v∈[V.ep id m (.sl u) [],.so id2],fG s.next s.heap v)
  (hv:fO s.heap id=some (.rw u v ln)) (h2:fO s.heap id2=some (.ar u q ver)) (hne:id2≠id) (hb:XG ln m=true)
  (hk:k (.tp .ni) (j8 (j8 s id2 none) id (some (.rw u (.mk (v.l.set m q)) none))) [id,id2]=some r):PR P o [x,y] [.ep id m (.sl u) [],.so id2] s k r:=by
 have hid:=hok (.ep id m (.sl u) []) aL;have hnil:v.rp=false:=hid.2 _ hv;refine⟨.tp .ni,[(id,some (.rw u (.mk (v.l.set m q)) none)),(id2,none)],s.next,[id,id2],hk,aw _,mA.cons (fun o' e=>.inr (.inr ⟨_,hv,?_⟩)) (mA.cons (fun o' e=>by cases e) mA.nil),trivial,fun p hp t c e=>?_,fun p hp=>?_,fun ρ S K w0 w φ H _ hI _ har hl hn=>?_⟩
 .cases e;cases v with|nil=>cases hnil|mk r=>exact⟨rfl,by simp[nB,Sl.l]⟩
 .simp only[aO,bF,or_false]at hp;rcases hp with rfl|rfl<;>cases e
 .simp only[aO,bF,or_false]at hp;rcases hp with rfl|rfl
  .exact .inl ⟨hid.1,trivial⟩
  .exact .inr rfl
 .exact Pb ho hs hI har.1 har.2.1 ((hl id (by simp)).trans hv) ((hl id2 (by simp)).trans h2) hne hb
theorem Xt{id m:Nat}{u:Ty}{p:xK}{wv:V}(ho:o.op=.store t x y)(hs:fh P t=some n)(hS:DX s.next s.heap)(hok:∀v∈[V.ep id m u p,wv],fG s.next s.heap v)(hal:tM s.heap wv=true)
  (h:part ⟨⟨d,.store n,as,g⟩,t0,fi⟩ [.ep id m u p,wv] s k=some r):PR P o [x,y] [.ep id m u p,wv] s k r:=by
 obtain⟨e,h1⟩:=aN (show(bif(LG wv==n)then QT id m u p wv s (fun s l=>k (.tp .ni) s l)else none)=some r from h);obtain rfl:=eq_of_beq e;unfold QT at h1;split at h1<;>first|(cases h1;done)|skip
 .rename_i u1 v ln hv;split at h1<;>first|(cases h1;done)|skip
  rename_i id2;split at h1<;>first|(cases h1;done)|skip
  rename_i u2 q ver h2;split at h1<;>first|(cases h1;done)|skip
  rename_i q' hq;obtain⟨e5,e6⟩:=kJ hq;cases e5;cases e6;obtain⟨e7,h3⟩:=aN h1;simp only[ax,decide_eq_true_eq,Bool.not_eq_true',beq_eq_false_iff_ne,ne_eq]at e7;obtain⟨⟨rfl,e8⟩,e9⟩:=e7;exact Xr ho hs hok hv h2 e8 e9 h3
 .rename_i u1 l ver hv;split at h1<;>first|(cases h1;done)|skip
  rename_i w1 a hw;obtain⟨e1,h3⟩:=aN h1;obtain rfl:=of_decide_eq_true e1;clear h1;split at h3<;>first|(cases h3;done)|skip
  rename_i q hq;split at h3<;>first|(cases h3;done)|skip
  rename_i y1 hy;split at h3<;>first|(cases h3;done)|skip
  rename_i c hc;split at h3<;>first|(cases h3;done)|skip
  rename_i y2 hy2;split at h3<;>first|(cases h3;done)|skip
  rename_i s1 hs1;obtain⟨e2,h4⟩:=aN h3;exact Xu ho hs hS hok hal hv hw hq hy hc hy2 hs1 (by simpa using e2) h4
end
section
variable{P:Program}{o:Oper}{vs:List V}{s:S2}{β:Type}{k:V->S2->List Nat->Option β}{r:β}{d:Option Nat}{as args:List Operand}{g:Option (Nat×Bool)}{t0:Ty}{fi:List Nat}{t el:TypeId}{sz n:Nat}{x y:Operand}{h:H2}
theorem Ro(ho:o.op=.store t x y)(hs:fh P t=some n)(hS:DX s.next s.heap)(hok:∀v∈vs,fG s.next s.heap v)(hal:∀v∈vs,tM s.heap v=true)
  (h:part ⟨⟨d,.store n,as,g⟩,t0,fi⟩ vs s k=some r):PR P o [x,y] vs s k r:=by
 rcases vs with _|⟨a,_|⟨b,_|⟨c,vr⟩⟩⟩
 case cons.cons.nil=>
  cases a<;>first|(cases h)|skip
  case op=>exact Xs ho hs hok hS.bx h
  case ep=>exact Xt ho hs hS hok (hal _ (by simp)) h
 case cons.cons.cons=>cases a<;>cases h
 case cons.nil=>cases a<;>cases h
 all_goals cases h
theorem Inv.mg{S K:Nat->Prop}{w0 w:World}{φ:iq}{H:Hf}(hI:Inv S K w0 φ H w){id:Nat}{o o':O}(ho:H id=some o)(hro:∀l,RO S w φ l o->RO S w φ l o')(hob:∀l,ob w l o'=ob w l o):Inv S K w0 φ (up H [(id,some o')]) w:=by
 refine hI.iT (fun i=>i=id) (iW.refl _ _) (Ren.refl _) hI.IQ hI.sk hI.yu (fun i a hi ha=>?_) (fun i a m hi ha hm b hb=>⟨rfl,?_⟩) fun i a hi ha=>?_
 .rw [cx,if_neg (fun e=>hi e.symm)]at ha;exact ha
 .obtain ⟨m2,b1,_,b4⟩:=hI.o9 i a ha;simp_all
 .subst hi;rw[cx,if_pos rfl]at ha;obtain rfl:=af ha;obtain⟨m2,b1,b2,b4⟩:=hI.o9 i o ho;refine⟨m2,b1,hro _ b2,fun b hb=>?_⟩;rw[hob]at hb;obtain⟨c1,c2,c3⟩:=b4 b hb;refine⟨c1,c2,c3,fun j a lm hj ha hlm hbm=>?_,fun j a lm hj hne=>absurd hj hne⟩;rw[cx,if_neg (fun e=>hj e.symm)]at ha;exact hI.jz i j _ a m2 lm ho ha b1 hlm (fun e=>hj e.symm) b hb hbm
structure aaR(P:Program)(o:Oper)(d x:Operand)(el:TypeId)(m:Nat):Prop where
 op:∃c dt xt,o.op=.call c/\c.callee=.builtin .copy/\c.args= #[d,x]/\c.argTypes= #[dt,xt]/\P.underlying dt=some (.slice el)
 sz:fh P el=some (m+1)
theorem Ky{α:Type}{l x:List α}{lo n:Nat}(h:lo+n<=l.length):(IG l lo n x).length=l.length:=Ed _ _ _ (by simp;omega)
def KS(s:S2)(a:V)(id lo len:Nat){u:Ty}(w0:Sl (El u)):Prop:=
 (w0.rp=true/\len=0\/∃q,w0=.mk q/\lo+len<=q.length)/\
 ∀(S:Nat->Prop)(w:World)(φ:iq)(av:Value),A6 φ s.heap->RW S w φ a av->∃l1,φ id=some l1/\(w0.rp=true->av=.slice none 0 0)/\∀q,w0=.mk q->E6 l1 lo (some len) [av]
theorem KS.so{id ver:Nat}{u:Ty}{w0:Sl (El u)}(hv:fO s.heap id=some (.ar u w0 ver)):KS s (.so id) id 0 w0.l.length w0:=by
 constructor
 .cases w0 with|nil=>exact .inl ⟨rfl,rfl⟩|mk q=>exact .inr ⟨q,rfl,by simp[Sl.l]⟩
 .intro S w φ av hsh hx;obtain⟨l1,k1,k2⟩:=R1.iB hx;have e:=(hsh id l1 _ k1 hv).2;rw[e]at k2;refine⟨l1,k1,fun h=>?_,fun q h=>?_⟩
  .cases w0 with|nil=>exact(aE k2).1|mk q=>cases h
  .subst h;exact k2
theorem KS.sb{id ver lo:Nat}{u tt:Ty}{w0:Sl (El u)}{v:Sl (El tt)}(hok:fG s.next s.heap (.sb id ver lo tt v))(hv:fO s.heap id=some (.ar u w0 ver)):KS s (.sb id ver lo tt v) id lo v.l.length w0:=by
 rcases(hok.2.2 u w0 ver (.inl hv)).2 rfl with⟨h1,rfl⟩|⟨q,m,h1,rfl,h3⟩
 .refine ⟨.inl ⟨h1,rfl⟩,fun S w φ av hsh hx=>?_⟩;obtain⟨l1,k1,_,_,k4⟩:=R1.iB hx;exact⟨l1,k1,(fun _=>(aE k4).1),(fun q e=>by rw[e]at h1;cases h1)⟩
 .obtain ⟨rfl,e⟩:=ir h1;obtain rfl:=eq_of_heq e;refine⟨.inr ⟨q,rfl,by simp[Sl.l];omega⟩,fun S w φ av hsh hx=>?_⟩;obtain⟨l1,k1,_,_,k4⟩:=R1.iB hx;exact⟨l1,k1,(fun e=>by cases e),(fun q' e=>by exact k4)⟩
theorem Qj{a xv:V}{id lo ver len m0:Nat}{u tx:Ty}{w0 m:Sl (El u)}{ids:List Nat}(hT:aaR P o x y el m0)(hv:fO s.heap id=some (.ar u w0 ver))(hid:id<s.next)(hx:slX tx s.heap xv=some ⟨u,m,ids⟩)(hal:tM s.heap xv=true)(hok:fG s.next s.heap xv)
  (hsz:ei u=m0+1) (hp:KS s a id lo len w0) (hk:k (.x (.i .i64) ((min m.l.length len:Nat):Int)) (j8 s id (some (.ar u (w0.to (IG w0.l lo len m.l)) (ver+1)))) (id::ids)=some r):PR P o [x,y] [a,xv] s k r:=by
 obtain⟨hlen,hpart⟩:=hp;refine⟨_,[(id,some _)],s.next,id::ids,hk,aw _,mA.cons (fun o' e=>.inr (.inr ⟨_,hv,?_⟩)) mA.nil,trivial,fun p hp t c e=>?_,fun p hp=>?_,fun ρ S K w0' w φ H _ hI hsh har hl hn=>?_⟩
 .cases e;refine⟨cA _,rfl,?_,fun e=>absurd e (by omega)⟩;rcases hlen with⟨h1,_⟩|⟨q,rfl,h2⟩
  .cases w0 with|nil=>rfl|mk q=>cases h1
  .change some q.length=some (IG q lo len m.l).length;rw[Ky h2]
 .simp_all
 .obtain rfl:=aB.1 hp;exact .inl ⟨hid,trivial⟩
 .obtain ⟨⟨c,dt,xt,h1,h2,h3,h4,h5⟩,h6⟩:=hT;obtain⟨cs,e1,e2⟩:=DG hI har.2.1 hx (fun i hi=>hl i (by simp[hi])) hal hok;obtain⟨l1,k1,k2,k3⟩:=hpart S w φ _ hsh har.1;have hH:=(hl id (by simp)).trans hv;rw[hsz]at e2;rcases hlen with⟨h7,rfl⟩|⟨q,rfl,h8⟩
  .have run:=Ph h1 h2 h3 h4 h5 h6 (k2 h7) e2;rw[Nat.min_zero];refine⟨.value _,_,w,run,.inl rfl,jE.tH (iW.refl _ _) (R1.CH (v:=.x (.i .i64) _) rfl rfl).rw (hI.mg hH (fun l hr=>?_) fun l=>?_)⟩
   .cases w0 with|nil=>exact⟨hr.1,hr.2.1,hr.2.2.1,hr.2.2.2.1,fun r e=>by cases e⟩|mk q=>cases h7
   .cases w0 with|nil=>rfl|mk q=>cases h7
  .exact abY h1 h2 h3 h4 h5 h6 hI hH k1 (k3 q rfl) h8 hsz e1 e2
theorem aab{xv:V}{m0:Nat}{u tx:Ty}{m:Sl (El u)}{ids:List Nat}(hT:aaR P o x y el m0)(hx:slX tx s.heap xv=some ⟨u,m,ids⟩)(hal:tM s.heap xv=true)(hok:fG s.next s.heap xv)
  (hsz:ei u=m0+1) (hk:k (.x (.i .i64) (0:Int)) s ids=some r):PR P o [x,y] [.nl 0,xv] s k r:=by
 refine⟨_,[],s.next,ids,hk,aw _,mA.nil,trivial,fun p hp t c e=>by simp at hp,fun p hp=>by simp at hp,fun ρ S K w0' w φ H _ hI hsh har hl hn=>?_⟩;obtain⟨⟨c,dt,xt,h1,h2,h3,h4,h5⟩,h6⟩:=hT;obtain⟨cs,e1,e2⟩:=DG hI har.2.1 hx hl hal hok;rw[hsz]at e2;exact ip.pure hI (Ph h1 h2 h3 h4 h5 h6 (aE (R1.iB har.1)).1 e2) (R1.CH (v:=.x (.i .i64) _) rfl rfl).rw
theorem zx{a a2:Ty}{q:El (.sl a)}{q':El (.sl a2)}(h:fF (.sl a) (.sl a2) q=some q'):∃e:a=a2,e▸q=q':=by obtain⟨e,h⟩:=kJ h;cases e;exact⟨rfl,h⟩
theorem afr{id ver lo:Nat}{tt u:Ty}{v:Sl (El tt)}{w0:Sl (El u)}{ver':Nat}(hal:tM s.heap (.sb id ver lo tt v)=true)(hv:fO s.heap id=some (.ar u w0 ver')):ver'=ver:=by simp_all[tM]
theorem Vg{m0:Nat}(hT:aaR P o x y el m0)(hS:DX s.next s.heap)(hok:∀v∈vs,fG s.next s.heap v)(hal:∀v∈vs,tM s.heap v=true)
  (h:part ⟨⟨d,.copy (m0+1),as,g⟩,t0,fi⟩ vs s k=some r):PR P o [x,y] vs s k r:=by
 rcases vs with _|⟨a,_|⟨b,_|⟨c,vr⟩⟩⟩
 case cons.cons.nil=>
  change (match slX t0 s.heap b with|some ⟨t,m,ids⟩=>_|none=>none)=_ at h;split at h<;>first|(cases h)|skip
  rename_i u m ids hx;have e:=(aN h).1
  replace h:=(aN h).2
  have hsz:=eq_of_beq e;have hb:b∈[a,b]:=by simp
  split at h<;>first|(cases h)|skip
  .exact aab hT hx (hal _ hb) (hok _ hb) hsz h
  .rename_i id;split at h<;>first|(cases h)|skip
   rename_i u2 v ver hv;split at h<;>first|(cases h)|skip
   rename_i m' hm;obtain⟨rfl,rfl⟩:=zx hm;exact Qj hT hv (hok _ aL) hx (hal _ hb) (hok _ hb) hsz (KS.so hv) h
  .rename_i id ver lo tt v;split at h<;>first|(cases h)|skip
   rename_i u2 w0 ver' hv;split at h<;>first|(cases h)|skip
   rename_i m' hm;obtain⟨rfl,rfl⟩:=zx hm;obtain⟨e2,h3⟩:=aN h;obtain rfl:=eq_of_beq e2;exact Qj hT hv (hok _ aL).1 hx (hal _ hb) (hok _ hb) hsz (KS.sb (hok _ aL) hv) h3
 all_goals cases h
theorem Rv{c:te}{dt:TypeId}{m0:Nat}{z:List Value}(ho:o.op=.call c)(hcal:c.callee=.builtin .clear)(hargs:c.args= #[x])(hts:c.argTypes= #[dt])(hud:P.underlying dt=some (.slice el))(hz:jH P el=some z)(hzl:z.length=m0+1)(hok:∀v∈vs,fG s.next s.heap v)
  (h:part ⟨⟨d,.clear z,as,g⟩,t0,fi⟩ vs s k=some r):PR P o [x] vs s k r:=by
 rcases vs with _|⟨a,_|⟨b,vr⟩⟩
 case cons.nil=>
  change (match a with|.sb id ver lo _ v=>_|_=>none)=_ at h;split at h<;>first|(cases h)|skip
  rename_i id ver lo tt v;split at h<;>first|(cases h)|skip
  rename_i u w0 ver' hv;obtain⟨e,h⟩:=aN h;simp[H4]at e;obtain⟨⟨rfl,e2⟩,e3,_⟩:=e;obtain⟨w1,hw,h⟩:=zF h;obtain⟨hlen,hpart⟩:=KS.sb (hok _ aL) hv;cases w0 with
  |nil=>cases hw
  |mk q=>
   rcases hlen with⟨h1,_⟩|⟨q',e',h2⟩
   .cases h1
   cases e';refine⟨_,[(id,some _)],s.next,[id],h,aw _,mA.cons (fun o' e=>.inr (.inr ⟨_,hv,?_⟩)) mA.nil,trivial,fun p hp t c e=>?_,fun p hp=>?_,fun ρ S K w0' w φ H _ hI hsh har hl hn=>?_⟩
   .cases e;exact⟨cA _,rfl,by simp[nB,Ky h2],fun e=>absurd e (by omega)⟩
   .simp_all
   .obtain rfl:=aB.1 hp;exact .inl ⟨(hok _ aL).1,trivial⟩
   .obtain ⟨l1,k1,_,k3⟩:=hpart S w φ _ hsh har.1;exact YC ho hcal hargs hts hud hz hzl hI ((hl id (by simp)).trans hv) k1 (k3 q rfl) h2 e3 (BH e2)
 all_goals cases h
theorem Mn{α:Type}{wd:Bool}(hwd:wd=true->Ew P el=true){t:Ty}{l m:List α}(h:NF wd t l=some m):l=m/\HA P el l.length:=by obtain⟨h1,h2⟩:=Wu h;exact⟨h1,h2.imp id fun h=>⟨hwd h.1,h.2⟩⟩
theorem Qv{a xv:V}{m0:Nat}{u tx:Ty}{m:Sl (El u)}{ids:List Nat}{z:List Value}(hT:QI P o x y el m0 z)(hx:slX tx s.heap xv=some ⟨u,m,ids⟩)(hal:tM s.heap xv=true)(hok:fG s.next s.heap xv)(hsz:ei u=m0+1)(hd:oq u=true)
  (ha:∀(S:Nat->Prop)(w:World)(φ:iq)(av:Value),RW S w φ a av->av=.slice none 0 0) {wd:Bool} (hwd:wd=true->Ew P el=true) (h:(NF wd u ([]++m.l)).bind (fun r=>k (.so s.next) (tE s (.ar u (AZ Sl.nil m.l r) 0)) ids)=some r):PR P o [x,y] [a,xv] s k r:=by
 obtain⟨rr,h1,hk⟩:=zF h;obtain⟨rfl,hle⟩:=Mn hwd h1;refine PR.new hk (bh _) (fun t c e=>by cases e) fun ρ S K w0 w φ H _ hI _ har hl hn=>?_;obtain⟨cs,e1,e2⟩:=DG hI har.2.1 hx hl hal hok;rw[hsz]at e2;obtain⟨val,w',q1,q2⟩:=Uo hT hI hn hd hsz (ha S w φ _ har.1) e1 e2 (by simpa using hle);exact⟨.value val,val,w',q1,.inl rfl,q2⟩
theorem Qu{a xv:V}{id lo ver m0:Nat}{u u2 tx:Ty}{w0:Sl (El u2)}{v m:Sl (El u)}{ids:List Nat}{z:List Value}(hT:QI P o x y el m0 z)(hv:fO s.heap id=some (.ar u2 w0 ver))(hx:slX tx s.heap xv=some ⟨u,m,ids⟩)(hal:tM s.heap xv=true)(hok:fG s.next s.heap xv)
  (hsz:ei u=m0+1) (hd:oq u=true) (hp:KS s a id lo v.l.length w0) (hc:Qg u2 u w0 lo v) {wd:Bool} (hwd:wd=true->Ew P el=true) (h:(NF wd u (v.l++m.l)).bind (fun r=>k (.so s.next) (tE (j8 s id none) (.ar u (AZ v m.l r) 0)) (id::ids))=some r):PR P o [x,y] [a,xv] s k r:=by
 obtain⟨rr,h1,hk⟩:=zF h;obtain⟨rfl,hle⟩:=Mn hwd h1;obtain⟨hlen,hpart⟩:=hp;refine⟨.so s.next,[(s.next,some _),(id,none)],s.next+1,id::ids,hk,cA _,mA.cons (fun _ _=>.inl (aw _)) (mA.cons (fun o' e=>by cases e) mA.nil),bh _,fun p hp t c e=>?_,fun p hp=>?_,fun ρ S K w0' w φ H _ hI hsh har hl hn=>?_⟩
 .simp only[aO,bF,or_false]at hp;rcases hp with rfl|rfl<;>cases e
 .simp at hp;rcases hp with rfl|rfl
  .exact .inl ⟨bh _,trivial⟩
  .exact .inr rfl
 .obtain ⟨cs,e1,e2⟩:=DG hI har.2.1 hx (fun i hi=>hl i (by simp[hi])) hal hok;obtain⟨l1,k1,k2,k3⟩:=hpart S w φ _ hsh har.1;have hH:=(hl id (by simp)).trans hv;have hnx:=hn _ (aw _) (bh _);rw[hsz]at e2;rcases hc with⟨h7,rfl⟩|⟨q,mm,h7,rfl,h8⟩
  .have hkill:Inv S K w0' φ (up H [(id,none)]) w:=hI.G7 fun i a ha=>by
    rw[cx]at ha;split at ha
    .cases ha
    .exact ha
   obtain⟨val,w',q1,q2⟩:=Uo hT hkill hnx hd hsz (k2 h7) e1 e2 (by simpa);exact⟨.value val,val,w',q1,.inl rfl,q2.after⟩
  .obtain ⟨rfl,e⟩:=ir h7;obtain rfl:=eq_of_heq e;have hll:(Sl.mk _:Sl _).l=(q.drop lo).take mm:=rfl;have hlm:((q.drop lo).take mm).length=mm:=by simp;omega
   rw[hll]at hle k3;obtain⟨val,w',q1,q2⟩:=adr (sv:=.nil) hT hI hnx hH k1 (k3 q rfl) (by rw[hlm]) (by omega) hsz e1 e2 (by simpa using hle);refine⟨.value val,val,w',q1,.inl rfl,?_⟩;unfold AZ;split<;>exact q2
theorem O8{m0:Nat}{z:List Value}(hT:QI P o x y el m0 z){wd:Bool}(hwd:wd=true->Ew P el=true)(hok:∀v∈vs,fG s.next s.heap v)(hal:∀v∈vs,tM s.heap v=true)
  (h:part ⟨⟨d,.append (m0+1) wd,as,g⟩,t0,fi⟩ vs s k=some r):PR P o [x,y] vs s k r:=by
 rcases vs with _|⟨a,_|⟨b,_|⟨c,vr⟩⟩⟩
 case cons.cons.nil=>
  change (match slX t0 s.heap b with|some ⟨t,m,ids⟩=>_|none=>none)=_ at h;split at h<;>first|(cases h)|skip
  rename_i u m ids hx;have e:=(aN h).1
  replace h:=(aN h).2
  simp[H4]at e;obtain⟨hsz,hd,_⟩:=e;have hb:b∈[a,b]:=by simp
  split at h<;>first|(cases h)|skip
  .exact Qv hT hx (hal _ hb) (hok _ hb) hsz hd (fun S w φ av hr=>(aE (R1.iB hr)).1) hwd h
  .rename_i tv v;obtain⟨e2,h⟩:=aN h;refine Qv hT hx (hal _ hb) (hok _ hb) hsz hd (fun S w φ av hr=>?_) hwd h;cases v with|nil=>exact(aE (R1.iB hr)).1|mk q=>cases e2
  .split at h<;>first|(cases h)|skip
   rename_i u2 v ver hv;split at h<;>first|(cases h)|skip
   rename_i m' hm;obtain⟨rfl,rfl⟩:=zx hm;exact Qu hT hv hx (hal _ hb) (hok _ hb) hsz hd (KS.so hv) (Qf v) hwd h
  .rename_i id ver lo tt v;split at h<;>first|(cases h)|skip
   rename_i u2 w0 ver' m' hv hm;obtain⟨rfl,rfl⟩:=zx hm;obtain⟨e2,h3⟩:=aN h;have hk1:=hok _ (aL);obtain rfl:=afr (hal _ (aL)) hv;exact Qu hT hv hx (hal _ hb) (hok _ hb) hsz hd (KS.sb hk1 hv) ((hk1.2.2 _ _ _ (.inl hv)).2 rfl) hwd h3
 all_goals cases h
end
section
variable{P:Program}{o:Oper}{vs:List V}{s:S2}{β:Type}{k:V->S2->List Nat->Option β}{r:β}{d:Option Nat}{as args:List Operand}{g:Option (Nat×Bool)}{t0:Ty}{fi:List Nat}{t el:TypeId}{sz n:Nat}{x y:Operand}{h:H2}
theorem U1{S S' K:Nat->Prop}{w0 w:World}{φ:iq}{H:Hf}{ρ:Operand->Value}{t:Ty}{len N:Nat}{zc:List Value}(hI:Inv S K w0 φ H w)(hs:iW S w S' w)(hz:RT S' w t (pM t) zc):
  ∀{parts:List (Nat×Operand)}{ws:List V}{m:Nat}{l:List (El t)}{a:List Nat}{pre:List Value}{cr:Array Value},Jx h t len m (parts.map (·.1)) ws=some (l,a)->Ar S w φ ρ (parts.map (·.2)) ws->(∀v∈ws,tM h v=true)->(∀v∈ws,fG N h v)->(∀i∈a,H i=fO h i)->
   (∀b,SF S w φ H a b->S' b)->cr.toList=pre++(az (len-m) zc).flatten->pre.length=m*ei t->m<=len->
   ∃arr' e,Instr.fill (fun i=>some (i*ei t,ei t)) cr (parts.map fun p=>(p.1,ρ p.2))=some arr'/\arr'.toList=pre++e/\o_ (RT S' w t) l e:=by
 intro parts;induction parts with
 |nil=>intro ws m l a pre cr h hr _ _ _ _ ha _ _;cases ws with|cons v ws=>exact hr.elim|nil=>obtain⟨rfl,rfl⟩:=aq (af h);exact⟨cr,_,rfl,ha,GA hz _⟩
 |cons p parts ih=>
  intro ws m l a pre cr hr har hal hok ha hS harr hpre hm;cases ws with
  |nil=>exact har.elim
  |cons v ws=>
   obtain⟨i,op⟩:=p;simp only[bN,Jx]at hr;split at hr<;>first|(cases hr;done)|skip
   rename_i w1 a1 h1;split at hr<;>first|(cases hr;done)|skip
   rename_i y1 hy;obtain⟨e,h2⟩:=aN hr;simp only[ax,Nat.ble_eq,fM]at e;obtain⟨e1,e2⟩:=e;split at h2<;>first|(cases h2;done)|skip
   rename_i l1 b1 h3;obtain⟨rfl,rfl⟩:=aq (af h2);obtain⟨c1,c2⟩:=(ZE h1 har.1).cells;have hc:=Dr hy (Gf hI hs h1 c1 (fun j hj=>ha j (by simp[hj])) (hal v (by simp)) (hok v (by simp)) fun b hb=>hS b ((SF.sub (by simp_all)).sub b hb));have hl:=hc.len;have hzl:=hz.len;have hrep:∀q,(az q zc).flatten.length=q*ei t:=fun q=>by simp[hzl]
   have hsplit:(az (len-m) zc).flatten=(az (i-m) zc).flatten++(zc++(az (len-(i+1)) zc).flatten):=by rw[<-List.flatten_cons,<-List.replicate_succ,<-List.flatten_append,List.replicate_append_replicate];congr 2;omega
   have hoff:(pre++(az (i-m) zc).flatten).length=i*ei t:=by rw[au,hpre,hrep,<-h_];congr 1;omega
   have hsz:cr.size=len*ei t:=by have:=congrArg eg harr;rw[au,hpre,hrep,<-h_,gJ]at this;rw[this];congr 1;omega
   have hfit:i*ei t+ei t<=len*ei t:=by rw[<-gS];exact du _ e2
   have hcs:(ρ op).cells.size=ei t:=by simpa using hl
   have hput:=NM (ρ op).cells cr (i*ei t) (by omega);have hnew:kV cr.toList (i*ei t) (ρ op).cells.toList=(pre++(az (i-m) zc).flatten++(ρ op).cells.toList)++(az (len-(i+1)) zc).flatten:=by rw[harr,hsplit,<-bm,<-hoff,<-bm,EB (by rw[hl,hzl])]
   rw[hnew]at hput
   obtain⟨arr',e',q1,q2,q3⟩:=ih h3 har.2 (fun v hv=>hal v (by simp[hv])) (fun v hv=>hok v (by simp[hv])) (fun j hj=>ha j (by simp[hj])) (fun b hb=>hS b ((SF.sub (by simp_all)).sub b hb)) hput
    (by rw[au,hoff,hl,gS]) (by omega)
   refine⟨arr',(az (i-m) zc).flatten++((ρ op).cells.toList++e'),?_,by rw[q2];simp,?_⟩
   .simp only[bN,Instr.fill];rw[if_neg (by simp;omega)];exact q1
   .exact ns.2 ⟨_,_,rfl,GA hz _,_,_,rfl,hc,q3⟩
theorem U2{t:Ty}{len:Nat}:∀{is:List Nat}{ws:List V}{m:Nat}{l:List (El t)}{a:List Nat},Jx h t len m is ws=some (l,a)->m<=len->l.length=len-m:=by
 intro is;induction is with
 |nil=>
  intro ws m l a hr hm;cases ws<;>first|(cases hr;done)|skip
  obtain⟨rfl,rfl⟩:=aq (af hr);simp
 |cons i is ih=>
  intro ws m l a hr hm;cases ws with
  |nil=>cases hr
  |cons v ws=>
   simp[Jx]at hr;split at hr<;>first|(cases hr;done)|skip
   split at hr<;>first|(cases hr;done)|skip
   obtain⟨e,h2⟩:=aN hr;simp at e
   grind
theorem Ir{len m:Nat}{parts:Array (Nat×Operand)}{z:List Value}(ho:o.op=.buildSlice t len parts)(hu:P.underlying t=some (.slice el))(hsz:fh P el=some (m+1))(hz:jH P el=some z)(hlim:len*(m+1)<=4096)(hzl:z.length=m+1)
  (hS:DX s.next s.heap) (hok:∀v∈vs,fG s.next s.heap v) (hal:∀v∈vs,tM s.heap v=true)
  (h:part ⟨⟨d,.buildSlice (m+1) len ((aG (len*(m+1))).map fun i=>z.getD (i %(m+1)) undef) (parts.toList.map (·.1)),as,g⟩,t0,fi⟩ vs s k=some r):PR P o (parts.toList.map (·.2)) vs s k r:=by
 obtain⟨e,h2⟩:=aN (h);simp only[ax,beq_iff_eq,H4,fM]at e;obtain⟨⟨e1,e2⟩,e3,e4⟩:=e;split at h2<;>first|(cases h2;done)|skip
 rename_i l a hl;split at h2<;>first|(cases h2;done)|skip
 rename_i s' hs';obtain⟨uf,rfl,f1,f2⟩:=E8 hs';obtain⟨g1,g2⟩:=Ke hS f2;refine⟨.so s.next,(s.next,some (.ar t0 (.mk l) 0))::uf,s.next+1,a,?_,cA _,mA.cons (fun _ _=>.inl (aw _)) g1,bh _,fun p hp t c e=>?_,fun p hp=>?_,fun ρ S K w0 w φ H _ hI _ har hla hn=>?_⟩
 .rw [<-h2];simp only[HG,tE,bN,eX]
 .rcases aO.1 hp with rfl|hp
  .cases e
  .exact absurd e ((g2 p hp).2 t c)
 .rcases aO.1 hp with rfl|hp
  .exact .inl ⟨bh _,trivial⟩
  .exact .inl ⟨by have:=(g2 p hp).1;omega,R6 (f2 p hp)⟩
 .have hF:=hI.R8 f1 f2 hla;have gj:iW S w (SF S w φ H a) w:=SF.QK a;have hnx:=hn _ (aw _) (bh _);obtain⟨zv,hzr,hzv,_⟩:=yF hz w
  have hzz:z=DC t0\/len=0:=by
   rcases jJ len with h0|h0
   .exact .inr h0
   .have:=BH e2;rw[DB hzl (oX _)]at this;obtain⟨q,rfl⟩:∃q,len=q+1:=⟨len-1,by omega⟩
    have hzt:(DC t0).length=m+1:=by rw[<-e1];exact(RT.ze (S:=S) (w:=w) e3).len
    exact .inl (List.append_inj this (by rw[hzt,hzl])).1.symm
  have hzero:∃zc:Array Value,(len*(m+1)=0->zc= #[])/\(¬len*(m+1)=0->zc=zv.cells)/\((uh (len*(m+1))).map (fun i=>zc[i %zc.size]!)).toList=[]++(az (len-0) (DC t0)).flatten:=by
   by_cases hc:len*(m+1)=0
   .have hl0:=(Nat.mul_eq_zero.1 hc).resolve_right (by omega);subst hl0;exact⟨#[],fun _=>rfl,fun h=>absurd hc h,by simp⟩
   .refine ⟨zv.cells,fun h=>absurd h hc,fun _=>rfl,?_⟩;rw[Fo hzv hzl (oX _),DB hzl (oX _),hzz.resolve_right (fun e=>hc (by simp[e]))];simp
  obtain⟨zc,hzc,hzc1,hzc2⟩:=hzero;obtain⟨arr',e',q1,q2,q3⟩:=U1 hI gj (RT.ze e3) hl har hal hok hla (fun b hb=>hb) hzc2 (by simp) (cG _);have hlen:=U2 hl (cG _);rw[Nat.sub_zero]at hlen;have hel:e'.length=len*ei t0:=by rw[o_.len (fun _ _ _ h=>RT.len h) q3,hlen]
  have hD:=jE.cr (K:=K) hF hnx el e3 e4 q3 (e:=[]) (by simpa using q2) (cap:=len) (by omega) (by have:=congrArg eg q2;simp[hel]at this;omega);rw[hlen]at hD;rw[e1]at q1;have q1':Instr.fill (fun i=>some (i*(m+1),m+1)) ((uh (len*(m+1))).map (fun i=>zc[i %zc.size]!)) (parts.map fun p=>(p.1,ρ p.2)).toList=some arr':=by rw[<-q1];simp
  have hlim':¬len*(m+1)>2^24:=by omega
  refine⟨.value _,.slice (some ⟨w.heap.size,0,none⟩) len len,{w with heap:=w.heap.push (.cells arr' el)},?_,.inl rfl,?_⟩
  rotate_left
  .obtain ⟨a1,S',φ',a2,a3,a4,a5,a6⟩:=hD;exact⟨a1,S',φ',gj.trans a2,a3,a4,a5,by rw[<-pV,mj];exact a6⟩
  .simp only[execOp,ho,Sem.run_bind,Instr.buildSlice,cU hu,Result.andThen_ok,m8 hsz,if_neg hlim'];by_cases hc:len*(m+1)=0
   .rw [hzc hc]at q1';simp only[if_pos hc,Sem.run_bind,Sem.run_pure,Result.andThen_ok,q1',newRow,run_newObj]
   .rw [hzc1 hc]at q1';simp only[if_neg hc,Sem.run_bind,hzr,Sem.run_pure,Result.andThen_ok,q1',newRow,run_newObj]
theorem agf{v:V}{t:Ty}{S:Nat->Prop}{w:World}{φ:iq}{y:Value}(h:fg v false t=true)(hx:RW S w φ v y):R1 S w φ v y:=by cases v<;>first|exact hx|(simp[fg]at h)
theorem Ui{S:Nat->Prop}{w:World}{φ:iq}{ρ:Operand->Value}{t:Ty}{v:V}{m:Nat}{op:Operand}{pre post:List Value}{cr:Array Value}{bH:List (Nat×Value)}(hf:fg v false t=true)(hr:RW S w φ v (ρ op))(harr:cr.toList=pre++post)(hpre:pre.length=m*ei t)(hpost:ei t<=post.length):
  ∃arr1,RC S w φ v (ρ op).cells.toList/\arr1.toList=(pre++(ρ op).cells.toList)++post.drop (ei t)/\(ρ op).cells.toList.length=ei t/\Instr.fill (fun i=>some (i*ei t,ei t)) cr ((m,ρ op)::bH)=Instr.fill (fun i=>some (i*ei t,ei t)) arr1 bH:=by
 obtain⟨hc,_⟩:=(agf hf hr).cells;have hl:=hc.len.trans (arZ v false t hf);have hcs:=by simpa using hl
 have hsz:cr.size=pre.length+post.length:=by rw[<-gJ,harr,au]
 have hput:=NM (ρ op).cells cr (m*ei t) (by omega)
 have hsp:kV cr.toList (m*ei t) (ρ op).cells.toList=(pre++(ρ op).cells.toList)++post.drop (ei t):=by
  rw[harr]
  conv=>lhs;rw[<-List.take_append_drop (ei t) post]
  grind [EB,List.length_take,Nat.min_eq_left]
 rw[hsp]at hput;refine⟨_,hc,hput,hl,?_⟩;simp only[Instr.fill];rw[if_neg (by simp;omega)]
theorem aan{S:Nat->Prop}{w:World}{φ:iq}{ρ:Operand->Value}{t:Ty}(ht:N1 t=1):∀{n:Nat}{parts:List (Nat×Operand)}{vs:List V}{m:Nat}{pre post:List Value}{cr:Array Value},fg (dK vs) true (QO t n)=true->parts.map (·.1)=(List.range' m (n+1))->
  Ar S w φ ρ (parts.map (·.2)) vs->cr.toList=pre++post->pre.length=m*ei t->post.length=(n+1)*ei t->∃arr' c,Instr.fill (fun i=>some (i*ei t,ei t)) cr (parts.map fun p=>(p.1,ρ p.2))=some arr'/\arr'.toList=pre++c/\RC S w φ (dK vs) c:=by
 intro n;induction n with
 |zero=>
  intro parts vs m pre post cr hf hp har harr hpre hpost
  match parts,vs,hp,har with
  |[(i,op)],[v],hp,har=>
   obtain rfl:i=m:=by simpa using hp
   have hf1:fg v false t=true:=by have:=hf;cases t<;>first|exact this|(rename_i a a2;cases a2<;>simp[N1]at ht)
   obtain⟨arr1,a1,a2,a3,a4⟩:=Ui hf1 har.1 harr hpre (by omega);refine⟨arr1,(ρ op).cells.toList,by rw[bN,List.map_nil,a4];rfl,?_,_,[],by simp,a1,rfl⟩;rw[a2,List.drop_eq_nil_of_le (by omega),bO]
  |[],_,hp,_=>simp at hp
  |(_::_::_),_,hp,_=>simp at hp
 |succ n ih=>
  intro parts vs m pre post cr hf hp har harr hpre hpost
  match parts,vs,hp,har with
  |(i,op)::parts,v::vs,hp,har=>
   rw[List.range'_succ]at hp;obtain⟨rfl,hp2⟩:i=m/\parts.map (·.1)=List.range' _ _:=by simpa using hp
   have hf2:(fg v false t&&fg (dK vs) true (QO t n))=true:=by cases hvs:dK vs<;>(rw[show dK _=.co v _ from rfl,hvs]at hf;exact hf)
   simp only[ax]at hf2;have hge:ei t<=post.length:=by rw[hpost,gS];omega
   obtain⟨arr1,a1,a2,a3,a4⟩:=Ui hf2.1 har.1 harr hpre hge;obtain⟨arr',c,b1,b2,b3⟩:=ih hf2.2 hp2 har.2 a2 (by rw[au,hpre,a3,gS]) (by rw[List.length_drop,hpost,gS _];omega);exact⟨arr',(ρ op).cells.toList++c,by rw[bN,a4,b1],by rw[b2,bm],_,_,rfl,a1,b3⟩
  |[],_,hp,_=>simp at hp
theorem agw{t:Ty}:∀{n},N1 (QO t n)=n+1->N1 t=1:=by
 have key:∀n,N1 (QO t n)=n+N1 t:=by intro n;induction n with|zero=>simp[QO]|succ n ih=>simp[QO,N1];omega
 intro n h;rw[key]at h;omega
theorem Vh{len m:Nat}{parts:Array (Nat×Operand)}{z zs:List Value}(ho:o.op=.buildSlice t len parts)(hu:P.underlying t=some (.slice el))(hsz:fh P el=some (m+1))(hz:jH P el=some z)(hlim:len*(m+1)<=4096)(hzl:z.length=m+1)
  (hok:∀v∈vs,fG s.next s.heap v) (h:part ⟨⟨d,.agB (m+1) len zs (parts.toList.map (·.1)),as,g⟩,t0,fi⟩ vs s k=some r):PR P o (parts.toList.map (·.2)) vs s k r:=by
 cases len with
 |zero=>cases h
 |succ n=>
  obtain⟨e,h2⟩:=aN (h);simp only[ax,beq_iff_eq,decide_eq_true_eq]at e;obtain⟨⟨⟨⟨e1,e2⟩,e3⟩,e4⟩,_⟩:=e;have e4:=Nat.eq_of_beq_eq_true e4;refine PR.new h2 (bh _) (fun t c e=>?_) fun ρ S K w0 w φ H _ hI _ har _ hn=>?_
  .cases e;exact Nb fun v hv=>eA (cA _) (TQ _) (hok v hv)
  .obtain ⟨zv,hzr,hzv,_⟩:=yF hz w;have hc:¬(n+1)*(m+1)=0:=by simp
   have hlim':¬(n+1)*(m+1)>2^24:=by omega
   obtain⟨arr',c,q1,q2,q3⟩:=aan (agw e4) (pre:=[]) (cr:=(uh ((n+1)*(m+1))).map (fun i=>zv.cells[i %zv.cells.size]!)) e3 (by rw[e2,List.range_eq_range']) har rfl (by simp) (by simp[e1]);rw[e1]at q1;have q1':Instr.fill (fun i=>some (i*(m+1),m+1)) ((uh ((n+1)*(m+1))).map (fun i=>zv.cells[i %zv.cells.size]!)) (parts.map fun p=>(p.1,ρ p.2)).toList=some arr':=by rw[<-q1];simp
   refine⟨.value _,.slice (some ⟨w.heap.size,0,none⟩) (n+1) (n+1),{w with heap:=w.heap.push (.cells arr' el)},?_,.inl rfl,?_⟩
   .simp only[execOp,ho,Sem.run_bind,Instr.buildSlice,cU hu,Result.andThen_ok,m8 hsz,if_neg hlim',if_neg hc,hzr,Sem.run_pure,q1',newRow,run_newObj]
   .refine jE.new hI hn (l:=⟨w.heap.size,0,arr'.size,0,.st _,none⟩) (fun _ _ _ h=>by cases h;rfl) rfl (fun hs=>⟨rfl,e3,arr',xc w arr' el,?_⟩) rfl (R1.rw (R1.CH ⟨_,gQ _ _ _,rfl,by simp[nfT,e4]⟩ rfl));rw[q2];exact RC.mono hs (pY _ hn) q3
def WH(h:H2)(u:xm):Prop:=∃id kT vT m q,fO h id=some (.mp kT vT m)/\u=[(id,some (.mp kT vT (pp m (pM vT) q).1))]
theorem PR.aok{v:V}{x1 x0:O}{id:Nat}{l:List Nat}(he:WH s.heap [(id,some x1)])(hid:id<s.next)(hv:fO s.heap id=some x0)(hk:k v (j8 s id (some x1)) l=some r)(gj:If x0 x1)(hok:∀{n h},fG n h v)
  (hrun:∀(ρ:Operand->Value)(S K:Nat->Prop)(w0 w:World)(φ:iq)(H:Hf),Inv S K w0 φ H w->A6 φ s.heap->Ar S w φ ρ args vs->(∀i∈l,H i=fO s.heap i)->ip P o ρ S K w0 w φ H s.next s.next v [(id,some x1)]) (hln:G4 s.next (some x1):=by trivial):∃v u n' l,k v (HG s u n') l=some r/\SE P o args vs s v u n' l/\WH s.heap u:=by
 refine⟨v,[(id,some x1)],s.next,l,hk,⟨aw _,mA.cons (fun o' e=>.inr (.inr ⟨_,hv,by cases e;exact gj⟩)) mA.nil,hok,fun p hp t c e=>?_,fun p hp=>?_,fun ρ S K w0' w φ H _ hI hsh har hl hn=>hrun ρ S K w0' w φ H hI hsh har hl⟩,he⟩
 .obtain rfl:=aB.1 hp;cases e;cases x0<;>exact gj.elim
 grind
theorem PR.upd{v:V}{x1 x0:O}{id:Nat}{l:List Nat}(hid:id<s.next)(hv:fO s.heap id=some x0)(hk:k v (j8 s id (some x1)) l=some r)(gj:If x0 x1)(hok:∀{n h},fG n h v)
  (hrun:∀(ρ:Operand->Value)(S K:Nat->Prop)(w0 w:World)(φ:iq)(H:Hf),Inv S K w0 φ H w->A6 φ s.heap->Ar S w φ ρ args vs->(∀i∈l,H i=fO s.heap i)->ip P o ρ S K w0 w φ H s.next s.next v [(id,some x1)]) (hln:G4 s.next (some x1):=by trivial):PR P o args vs s k r:=by
 refine⟨v,[(id,some x1)],s.next,l,hk,aw _,mA.cons (fun o' e=>.inr (.inr ⟨_,hv,by cases e;exact gj⟩)) mA.nil,hok,fun p hp t c e=>?_,fun p hp=>?_,fun ρ S K w0' w φ H _ hI hsh har hl hn=>hrun ρ S K w0' w φ H hI hsh har hl⟩
 .obtain rfl:=aB.1 hp;cases e;cases x0<;>exact gj.elim
 grind
variable{kt et:TypeId}{ka va:Bool}{ks:List Kd}{z:List Value}{m ix:Operand}
theorem Le(ho:o.op=.mapEntry t m ix)(hu:P.underlying t=some (.map kt et))(hM:aaP P kt et ka ks va z)(hok:∀v∈vs,fG s.next s.heap v)
  (h:part ⟨⟨d,.mapEntry ka ks va z,as,g⟩,t0,fi⟩ vs s k=some r):∃v u n' l,k v (HG s u n') l=some r/\SE P o [m,ix] vs s v u n' l/\WH s.heap u:=by
 rcases vs with _|⟨a,_|⟨b,_|⟨c,vr⟩⟩⟩
 case cons.cons.nil=>
  cases a<;>first|(cases h)|skip
  rename_i id;change (match fO s.heap id with|some (.mp kt vt m)=>_|_=>none)=_ at h;split at h<;>first|(cases h)|skip
  rename_i kT vT mp hv;split at h<;>first|(cases h)|skip
  rename_i q hq;have e:=(aN h).1
  replace h:=(aN h).2
  simp only[ax,beq_iff_eq,decide_eq_true_eq]at e;obtain⟨⟨⟨⟨⟨e1,e2⟩,e3⟩,e4⟩,e5⟩,e6⟩:=e;subst e1;subst e2;refine PR.aok ⟨id,kT,vT,mp,q,hv,rfl⟩ (hok _ aL) hv h trivial ⟨trivial,trivial,trivial⟩ fun ρ S K w0 w φ H hI _ har hl=>?_;obtain⟨l1,k1,k2⟩:=R1.iB har.1;obtain⟨c,q1,q2,_⟩:=yi hq har.2.1;exact Pf ho hu ⟨hM.ag,hM.ks,e3,q1⟩ hM.ze hM.za (BH e4) e5 hI (aE k2).1 q2 ((hl id (by simp)).trans hv) k1
 case cons.cons.cons=>cases a<;>cases h
 case cons.nil=>cases a<;>cases h
 all_goals cases h
theorem O7{c:te}{kt2:TypeId}(ho:o.op=.call c)(hcal:c.callee=.builtin .delete)(hargs:c.args= #[m,ix])(hts:c.argTypes= #[t,kt2])(hu:P.underlying t=some (.map kt et))(hM:aaP P kt et ka ks va z)(hok:∀v∈vs,fG s.next s.heap v)
  (h:part ⟨⟨d,.RU ka ks,as,g⟩,t0,fi⟩ vs s k=some r):PR P o [m,ix] vs s k r:=by
 rcases vs with _|⟨a,_|⟨b,_|⟨c,vr⟩⟩⟩
 case cons.cons.nil=>
  cases a<;>first|(cases h)|skip
  rename_i id;change (match fO s.heap id with|some (.mp kt vt m)=>_|_=>none)=_ at h;split at h<;>first|(cases h)|skip
  rename_i kT vT mp hv;split at h<;>first|(cases h)|skip
  rename_i q hq;have e:=(aN h).1
  replace h:=(aN h).2
  simp at e;obtain⟨e1,e3⟩:=e;subst e1;refine PR.upd (hok _ aL) hv h trivial trivial fun ρ S K w0 w φ H hI _ har hl=>?_;obtain⟨l1,k1,k2⟩:=R1.iB har.1;obtain⟨c,q1,q2,_⟩:=yi hq har.2.1;exact Vn ho hcal hargs hts hu ⟨hM.ag,hM.ks,e3,q1⟩ hI (aE k2).1 q2 ((hl id (by simp)).trans hv) k1
 case cons.cons.cons=>cases a<;>cases h
 case cons.nil=>cases a<;>cases h
 all_goals cases h
theorem O6{xx:Operand}{n:Nat}(ho:o.op=.mapUpdate t m ix xx)(hu:P.underlying t=some (.map kt et))(hM:aaP P kt et ka ks va z)(hok:∀v∈vs,fG s.next s.heap v)
  (h:part ⟨⟨d,.RS ka ks va n,as,g⟩,t0,fi⟩ vs s k=some r):PR P o [m,ix,xx] vs s k r:=by
 rcases vs with _|⟨a,_|⟨b,_|⟨c,_|⟨e,vr⟩⟩⟩⟩
 case cons.cons.cons.nil=>
  cases a<;>first|(cases h;done)|skip
  rename_i id;change (match fO s.heap id with|some (.mp kt vt m)=>_|_=>none)=_ at h;split at h<;>first|(cases h)|skip
  rename_i kT vT mp hv;split at h<;>first|(cases h;done)|skip
  rename_i q hq;split at h<;>first|(cases h)|skip
  rename_i y1 hy;have e:=(aN h).1
  replace h:=(aN h).2
  simp only[ax,beq_iff_eq,decide_eq_true_eq]at e;obtain⟨⟨⟨⟨e1,e2⟩,e3⟩,e4⟩,e5⟩:=e;subst e1;refine PR.upd (hok _ aL) hv h trivial trivial fun ρ S K w0 w φ H hI _ har hl=>?_;obtain⟨l1,k1,k2⟩:=R1.iB har.1;obtain⟨c,q1,q2,_⟩:=yi hq har.2.1;obtain⟨c2,q3,q4,_⟩:=yi hy har.2.2.1;exact Vm ho hu ⟨hM.ag,hM.ks,e3,q1⟩ hI (aE k2).1 q2 q4 q3 ((hl id (by simp)).trans hv) k1
 case cons.cons.cons.cons=>cases a<;>cases h
 case cons.nil=>cases a<;>cases h
 case cons.cons.nil=>cases a<;>cases h
 all_goals cases h
theorem Ip{st xx:Operand}{n:Nat}(ho:o.op=.entryStore t m st xx)(hok:∀v∈vs,fG s.next s.heap v)
  (h:part ⟨⟨d,.entryStore va n,as,g⟩,t0,fi⟩ vs s k=some r):PR P o [m,st,xx] vs s k r:=by
 rcases vs with _|⟨a,_|⟨b,_|⟨c,_|⟨e,vr⟩⟩⟩⟩
 case cons.cons.cons.nil=>
  cases a<;>first|(cases h;done)|skip
  rename_i id;cases b<;>first|(cases h;done)|skip
  rename_i tb b;cases tb<;>first|(cases h;done)|skip
  rename_i kk;change (match fO s.heap id with|some (.mp kt vt m)=>_|_=>none)=_ at h;split at h<;>first|(cases h;done)|skip
  rename_i kT vT mp hv;split at h<;>first|(cases h;done)|skip
  rename_i y1 hy
  replace h:=(aN h).2
  obtain⟨mp',hm,h2⟩:=zF h;refine PR.upd (hok (.om id) aL) hv h2 trivial trivial fun ρ S K w0 w φ H hI _ har hl=>?_;obtain⟨l1,k1,k2⟩:=R1.iB (v:=.om id) har.1;obtain⟨c2,q3,q4,_⟩:=yi hy har.2.2.1;exact Lg ho hI (aE k2).1 (R1.int har.2.1) q4 q3 ((hl id (by simp)).trans hv) k1 hm
 case cons.cons.cons.cons=>
  cases a<;>first|(cases h;done)|skip
  cases b<;>first|(cases h;done)|skip
  rename_i tb b;cases tb<;>cases h
 case cons.nil=>cases a<;>cases h
 case cons.cons.nil=>
  cases a<;>first|(cases h;done)|skip
  cases b<;>first|(cases h;done)|skip
  rename_i tb b;cases tb<;>cases h
 all_goals cases h
end
section
variable{P:Program}{o:Oper}{vs:List V}{s:S2}{β:Type}{kk:V->S2->List Nat->Option β}{r:β}{d:Option Nat}{as args:List Operand}{g:Option (Nat×Bool)}{t0:Ty}{fi:List Nat}{bI:II}{k:Ev.K}
theorem FU{n:Nat}(hn:∀(q:List V),q.length≠n->part ⟨⟨d,k,as,g⟩,t0,fi⟩ q s kk=none)(h:part ⟨⟨d,k,as,g⟩,t0,fi⟩ vs s kk=some r):vs.length=n:=by
 by_cases e:vs.length=n
 .exact e
 .rw [hn vs e]at h;cases h
theorem J0{α:Type}{l:List α}(h:l.length=2):∃x y,l=[x,y]:=by
 match l,h with|[x,y],_=>exact⟨x,y,rfl⟩
theorem Zd{α:Type}{l:List α}(h:l.length=1):∃x,l=[x]:=by
 match l,h with|[x],_=>exact⟨x,rfl⟩
def Md:Ev.K->Bool
 |.mapEntry _ _ _ _=>true
 |_=>false
def PRc(k:Ev.K)(P:Program)(o:Oper)(args:List Operand)(vs:List V)(s:S2){β:Type}(kk:V->S2->List Nat->Option β)(r:β):Prop:=∃v u n' l,kk v (HG s u n') l=some r/\SE P o args vs s v u n' l/\(2<=Iu k\/u=[]/\l=[]/\n'=s.next)/\(Md k=true->WH s.heap u)
theorem PR.hi(h:PR P o args vs s kk r)(hc:2<=Iu k)(he:Md k=false:=by rfl):PRc k P o args vs s kk r:=let⟨v,u,n',l,h1,h2⟩:=h;⟨v,u,n',l,h1,h2,.inl hc,fun e=>by rw[he]at e;cases e⟩
theorem KT.lo(h:KT P o args vs s kk r)(he:Md k=false:=by rfl):PRc k P o args vs s kk r:=let⟨v,h1,h2⟩:=h;⟨v,[],s.next,[],h1,h2,.inr ⟨rfl,rfl,rfl⟩,fun e=>by rw[he]at e;cases e⟩
theorem M1{b:Builtin}{c:te}(ho:o.op=.call c)(hcal:c.callee=.builtin b)(hk:mQ P b c.args.toList c.argTypes.toList=(k,args))(hS:DX s.next s.heap)(hok:∀v∈vs,fG s.next s.heap v)(hal:∀v∈vs,tM s.heap v=true)
  (hl:args.length=vs.length) (h:part ⟨⟨d,k,as,g⟩,t0,fi⟩ vs s kk=some r):PRc k P o args vs s kk r:=by
 have gY:(Ev.K.gY,([]:List Operand))=(k,args)->PRc k P o args vs s kk r:=by intro e;obtain⟨rfl,rfl⟩:=aq e;cases h
 have two:∀{k:Ev.K},(∀(q:List V),q.length≠2->part ⟨⟨d,k,as,g⟩,t0,fi⟩ q s kk=none)->part ⟨⟨d,k,as,g⟩,t0,fi⟩ vs s kk=some r->vs.length=2:=fun hn h=>FU hn h;unfold mQ at hk;split at hk
 .skip;(repeat' split at hk)<;>(obtain⟨rfl,rfl⟩:=aq hk;cases h)
 .obtain ⟨rfl,rfl⟩:=aq hk;cases h
 .obtain ⟨rfl,rfl⟩:=aq hk;cases h
 .rename_i st xt hts;split at hk
  .rename_i hus hux;split at hk
   .rename_i m z hsz hz;split at hk
    .rename_i hb;obtain⟨rfl,rfl⟩:=aq hk;have h2:vs.length=2:=FU (fun q hq=>by rcases q with _|⟨a,_|⟨b,_|⟨c,q⟩⟩⟩<;>first|rfl|exact absurd rfl hq) h;obtain⟨x,y,hxy⟩:=J0 (hl.trans h2);rw[hxy];exact(O8 ⟨⟨c,st,xt,_,ho,hcal,Ba hxy,Ba hts,hus,hux⟩,hsz,hz,hb.2,hb.1⟩ id hok hal h).hi (aw _)
    .exact gY hk
   .exact gY hk
  .skip;(repeat' split at hk)<;>(obtain⟨rfl,rfl⟩:=aq hk;cases h)
  .exact gY hk
 .skip;(repeat' split at hk)<;>(obtain⟨rfl,rfl⟩:=aq hk;cases h)
 .rename_i dt xt hts;split at hk
  .rename_i hud;split at hk
   .rename_i hsz;obtain⟨rfl,rfl⟩:=aq hk;have h2:vs.length=2:=FU (fun q hq=>by rcases q with _|⟨a,_|⟨b,_|⟨c,q⟩⟩⟩<;>first|rfl|exact absurd rfl hq) h;obtain⟨x,y,hxy⟩:=J0 (hl.trans h2);rw[hxy];exact(Vg ⟨⟨c,dt,xt,ho,hcal,Ba hxy,Ba hts,hud⟩,hsz⟩ hS hok hal h).hi (aw _)
   .exact gY hk
  .exact gY hk
 .rename_i mt kt hts;split at hk
  .rename_i hu;split at hk
   .rename_i hm;obtain⟨rfl,rfl⟩:=aq hk;have h2:vs.length=2:=FU (fun q hq=>by rcases q with _|⟨a,_|⟨b,_|⟨c,q⟩⟩⟩<;>first|rfl|exact absurd rfl hq|(cases a<;>rfl)) h;obtain⟨x,y,hxy⟩:=J0 (hl.trans h2);rw[hxy];exact(O7 ho hcal (Ba hxy) (Ba hts) hu (DT hm) hok h).hi (aw _)
   .exact gY hk
  .exact gY hk
 .rename_i st hts;split at hk
  .rename_i hu;split at hk
   .rename_i hsz hz;split at hk
    .rename_i hzl;obtain⟨rfl,rfl⟩:=aq hk;have h2:vs.length=1:=FU (fun q hq=>by rcases q with _|⟨a,_|⟨b,q⟩⟩<;>first|rfl|exact absurd rfl hq) h;obtain⟨x,hxy⟩:=Zd (hl.trans h2);rw[hxy];exact(Rv ho hcal (DQ hxy) (DQ hts) hu hz hzl hok h).hi (aw _)
    .exact gY hk
   .exact gY hk
  .exact gY hk
 .exact gY hk
theorem Rp(hk:En P bI o.op=(k,args))(hp:E5 k=false)(hS:DX s.next s.heap)(hok:∀v∈vs,fG s.next s.heap v)(hal:∀v∈vs,tM s.heap v=true)(hl:args.length=vs.length)
  (h:part ⟨⟨d,k,as,g⟩,t0,fi⟩ vs s kk=some r):PRc k P o args vs s kk r:=by
 have gY:(Ev.K.gY,([]:List Operand))=(k,args)->PRc k P o args vs s kk r:=by intro e;obtain⟨rfl,rfl⟩:=aq e;cases h
 generalize hop:o.op=op at hk;unfold En at hk;split at hk
 .obtain ⟨rfl,rfl⟩:=aq hk;cases h
 .obtain ⟨rfl,rfl⟩:=aq hk;cases h
 .obtain ⟨rfl,rfl⟩:=aq hk;cases hp
 .split at hk
  .rename_i hz;obtain⟨rfl,rfl⟩:=aq hk;exact(Rw hop hz h).hi (aw _)
  .exact gY hk
 .obtain ⟨rfl,rfl⟩:=aq hk;exact(Yn hop hok h).hi (aw _)
 .skip;(repeat' split at hk)<;>(obtain⟨rfl,rfl⟩:=aq hk;cases h)
 .split at hk
  .rename_i hu;split at hk
   .rename_i hsz hz;split at hk
    .rename_i hc;obtain⟨rfl,rfl⟩:=aq hk;exact(Vh hop hu hsz hz hc.1 hc.2.1 hok h).hi (aw _)
    .split at hk
     .rename_i hc;obtain⟨rfl,rfl⟩:=aq hk;exact(Ir hop hu hsz hz hc.1 hc.2 hS hok hal h).hi (aw _)
     .exact gY hk
   .exact gY hk
  .exact gY hk
 .split at hk
  .rename_i hag hs;split at hk
   .rename_i hcc;obtain⟨rfl,rfl⟩:=aq hk;obtain⟨_,_,rfl,rfl⟩:=hcc;exact(Rs hop hag hs hok h).hi (aw _)
   .obtain ⟨rfl,rfl⟩:=aq hk;cases h
  .exact gY hk
 .split at hk
  .rename_i hs;obtain⟨rfl,rfl⟩:=aq hk;exact(Ro hop hs hS hok hal h).hi (aw _)
  .exact gY hk
 .obtain ⟨rfl,rfl⟩:=aq hk;cases h
 .unfold Co at hk
  have cn:∀{kind:Nat}{neg:Bool}{x y:Operand},s_ kind neg x y=(k,args)->PRc k P o args vs s kk r:=by
   intro kind neg x y hk;unfold s_ at hk
   (repeat' split at hk)<;>(obtain⟨rfl,rfl⟩:=aq hk;cases h)
  split at hk
  .skip;(repeat' split at hk)<;>first|exact cn hk|(obtain⟨rfl,rfl⟩:=aq hk;cases h)
  .skip;(repeat' split at hk)<;>first|exact cn hk|(obtain⟨rfl,rfl⟩:=aq hk;cases h)
  .obtain ⟨rfl,rfl⟩:=aq hk;exact(Yo hop h).lo
 .obtain ⟨rfl,rfl⟩:=aq hk;cases h
 .skip;(repeat' split at hk)<;>(obtain⟨rfl,rfl⟩:=aq hk;cases h)
 .skip;(repeat' split at hk)<;>(obtain⟨rfl,rfl⟩:=aq hk;cases h)
 .split at hk
  .rename_i hu;split at hk
   .rename_i n0 z hs hz;split at hk
    .rename_i hc;split at hk
     .rename_i m hn;obtain⟨rfl,rfl⟩:=aq hk
      have hz1:J8 z=true:=by
       unfold aes at hn;split at hn
       .rename_i hq;exact hq.2
       .cases hn
      exact(Rr hop hu hs hz hc.1 hc.2 hz1 h).hi (aw _)
     .obtain ⟨rfl,rfl⟩:=aq hk;exact(JK hop hu hs hz hc.1 hc.2 h).hi (aw _)
    .exact gY hk
   .exact gY hk
  .exact gY hk
 .split at hk
  .rename_i hu;obtain⟨rfl,rfl⟩:=aq hk;exact(O5 hop hu hl h).lo
  .rename_i hu;split at hk
   .rename_i hs;obtain⟨rfl,rfl⟩:=aq hk;exact(Rq hop hu hs hok hal hl h).lo
   .exact gY hk
  .exact gY hk
 .skip;(repeat' split at hk)<;>(obtain⟨rfl,rfl⟩:=aq hk;cases h)
 .skip;(repeat' split at hk)<;>(obtain⟨rfl,rfl⟩:=aq hk;cases h)
 .skip;(repeat' split at hk)<;>(obtain⟨rfl,rfl⟩:=aq hk;cases h)
 .split at hk
  .rename_i hu;split at hk
   .rename_i hs;split at hk
    .obtain ⟨rfl,rfl⟩:=aq hk;cases h
    .obtain ⟨rfl,rfl⟩:=aq hk;exact(JL hop hu hs hok h).lo
   .exact gY hk
  .rename_i hu;split at hk
   .rename_i hs;obtain⟨rfl,rfl⟩:=aq hk;exact(Im hop hu hs hok h).lo
   .exact gY hk
  .exact gY hk
 .split at hk
  .rename_i hu;obtain⟨rfl,rfl⟩:=aq hk;exact(Lf hop hu h).lo
  .rename_i hu;split at hk
   .rename_i hag hs;obtain⟨rfl,rfl⟩:=aq hk;exact(Rt hop hu hag hs h).lo
   .exact gY hk
  .exact gY hk
 .obtain ⟨rfl,rfl⟩:=aq hk;cases h
 .split at hk
  .rename_i kt et hu;split at hk
   .obtain ⟨rfl,rfl⟩:=aq hk;exact(M0 (kt:=kt) (et:=et) hop h).hi (aw _)
   .exact gY hk
  .exact gY hk
 .skip;(repeat' split at hk)<;>(obtain⟨rfl,rfl⟩:=aq hk;cases h)
 .split at hk
  .rename_i hu;split at hk
   .rename_i hm;obtain⟨rfl,rfl⟩:=aq hk;obtain⟨v,u,n',l,h1,h2,h3⟩:=Le hop hu (DT hm) hok h;exact⟨v,u,n',l,h1,h2,.inl (aw _),fun _=>h3⟩
   .exact gY hk
  .exact gY hk
 .split at hk
  .rename_i hu;split at hk
   .rename_i hm;obtain⟨rfl,rfl⟩:=aq hk;exact(O6 hop hu (DT hm) hok h).hi (aw _)
   .exact gY hk
  .exact gY hk
 .split at hk
  .rename_i hu;split at hk
   .rename_i hm;obtain⟨rfl,rfl⟩:=aq hk;exact(Ip hop hok h).hi (aw _)
   .exact gY hk
  .exact gY hk
 .rename_i c;split at hk
  .rename_i hcal;exact M1 hop hcal hk hS hok hal hl h
  .skip;(repeat' split at hk)<;>(obtain⟨rfl,rfl⟩:=aq hk;cases h)
  .obtain ⟨rfl,rfl⟩:=aq hk;cases h
  .exact gY hk
 .exact gY hk
end
abbrev oc:=Nat->Option V
def OpE(E:oc)(a:Operand)(v:V):Prop:=v=.gn\/match a,v with|.tmp t,v=>E t=some v|.const c,v=>cvV c=some v|.global g,v=>acD g=some v|.func f,v=>v=.fn true f .ni
def QH(E:oc):List Operand->List V->Prop
 |[],[]=>True
 |a::r,v::vs=>OpE E a v/\QH E r vs
 |_,_=>False
def LA(E:oc)(g:Nat):Option Bool:=match E g with|some (.kb c)=>some c|some (.x .b c)=>some c|_=>none
def pO(E:oc):Option (Nat×Bool)->Option Bool
 |none=>some true
 |some (g,b)=>match E g with|some (.kb c)=>some (c==b)|some (.x .b c)=>some (c==b)|some .no=>some false|_=>none
def sg(E:oc)(d:Option Nat)(v:V):oc:=fun t=>if d=some t then some v else E t
def kB(S:Nat->Prop)(w:World)(φ:iq)(E:oc)(tmps:Array Value):Prop:=∀t v,E t=some v->RW S w φ v (tmps.getD t undef)
def anX(P:Program)(o:Oper)(a:Act)(S K:Nat->Prop)(w0 w:World)(φ:iq)(H:Hf)(n n':Nat)(v:V)(u:xm):Prop:=∀(next:Act->World->Prop)(Q:Exit->Act->World->Prop),(∀val w',jE S K w0 w φ H n n' v u val w'->next (a.put o.dst val) w')->o.wp P a w next Q
def aaT(P:Program)(o:Oper)(args:List Operand)(vs:List V)(G:H2)(n n':Nat)(v:V)(u:xm)(l:List Nat):Prop:=∀(a:Act)(S K:Nat->Prop)(w0 w:World)(φ:iq)(H:Hf),Inv S K w0 φ H w->A6 φ G->Ar S w φ a.eval args vs->(∀i∈l,H i=fO G i)->(∀j,n<=j->j<n'->φ j=none)->anX P o a S K w0 w φ H n n' v u
structure Hz(P:Program)(o:Oper)(args:List Operand)(vs:List V)(h:H2)(n n':Nat)(v:V)(u:xm)(l:List Nat):Prop where
 le:n<=n'
 QJ:mA n h u
 okv:fG n' (u++h) v
 bx:∀p∈u,∀t c,p.2=some (.bx t c)->fG n' (u++h) c
 lt:∀p∈u,LtO n' p
 act:aaT P o args vs h n n' v u l
section
variable{P:Program}{o:Oper}{vs:List V}{s:S2}{S K:Nat->Prop}{w0 w w':World}{φ φ':iq}{H:Hf}{a:Act}{n n':Nat}{v:V}{u:xm}{l:List Nat}{args:List Operand}{E:oc}{bI:II}{nt:Nat}
theorem ip.agd(h:ip P o a.eval S K w0 w φ H n n' v u):anX P o a S K w0 w φ H n n' v u:=by
 intro next Q hn
 obtain⟨nx,val,w',hr,hx,hd⟩:=h;unfold Oper.wp;rw[hr];rcases hx with rfl|⟨rfl,rfl⟩
 .exact hn _ _ hd
 .exact hn _ _ hd
theorem SE.aon(h:SE P o args vs s v u n' l):Hz P o args vs s.heap s.next n' v u l:=⟨h.1,h.2.1,h.2.2.1,h.2.2.2.1,h.2.2.2.2.1,fun a S K w0 w φ H h1 h2 h3 h4 h5=>(h.2.2.2.2.2 a.eval S K w0 w φ H (fun _=>rfl) h1 h2 h3 h4 h5).agd⟩
theorem kB.mono{S':Nat->Prop}{t:Array Value}(h:kB S w φ E t)(hs:iW S w S' w')(hr:Ren φ φ'):kB S' w' φ' E t:=fun i v hv=>(h i v hv).mono hs hr
theorem anG{c:Value}{v:V}(h:cvV c=some v):RW S w φ v c:=by
 unfold cvV at h;split at h<;>first|(cases h;done)|(cases h;exact⟨[_],rfl,rfl⟩)|skip
 .cases h;exact⟨[_],⟨_,rfl,.inl rfl⟩,rfl⟩
 .rename_i cs;split at h
  .rename_i hp;cases h;exact⟨cs.toList,⟨rfl,hp⟩,by simp[DW]⟩
  .cases h
theorem OpE.rw{x:Operand}(h:OpE E x v)(hE:kB S w φ E a.tmps)(hg:KU S w):RW S w φ v (a.eval x):=by
 rcases h with rfl|h
 .trivial
 cases x with|tmp t=>exact hE t v h|const c=>exact anG h|global g=>obtain⟨h1,h2,h3,h4,h5⟩:=hg g v h;refine R1.rw ⟨_,h1.mono (iW.refl _ _) (fun i l h=>by cases h),?_⟩;rw[h2];rfl|func f=>obtain rfl:v=.fn true f .ni:=h;exact⟨[.func (.func f) #[] #[]],⟨[],rfl,rfl⟩,rfl⟩
theorem QH.ar:∀{xs:List Operand}{vs:List V},QH E xs vs->kB S w φ E a.tmps->KU S w->Ar S w φ a.eval xs vs:=by
 intro xs;induction xs with
 |nil=>intro vs h _ _;cases vs<;>first|trivial|exact h.elim
 |cons x xs ih=>intro vs h hE hg;cases vs with|nil=>exact h.elim|cons v vs=>exact⟨h.1.rw hE hg,ih h.2 hE hg⟩
theorem QH.len:∀{xs:List Operand}{vs:List V},QH E xs vs->xs.length=vs.length:=by
 intro xs;induction xs with
 |nil=>intro vs h;cases vs<;>first|rfl|exact h.elim
 |cons x xs ih=>intro vs h;cases vs with|nil=>exact h.elim|cons v vs=>simp[ih h.2]
theorem abF{a:Act}{d:Nat}{v:Value}(h:d<a.tmps.size)(t:Nat):(a.put (some d) v).tmps.getD t undef=if t=d then v else a.tmps.getD t undef:=by
 simp[Act.put]
 grind
theorem OY{a:Act}(d:Option Nat)(v:Value):(a.put d v).tmps.size=a.tmps.size:=by cases d<;>simp[Act.put]
theorem JE{a:Act}(d:Option Nat)(v:Value):(a.put d v).defers=a.defers:=by cases d<;>simp[Act.put]
theorem kB.put{S':Nat->Prop}{d:Option Nat}{val:Value}(hE:kB S w φ E a.tmps)(hs:iW S w S' w')(hr:Ren φ φ')(hd:∀x,d=some x->x<a.tmps.size)(hv:RW S' w' φ' v val):kB S' w' φ' (sg E d v) (a.put d val).tmps:=by
 intro t x hx;unfold sg at hx;cases d with
 |none=>rw[if_neg (by simp)]at hx;exact(hE t x hx).mono hs hr
 |some d=>
  rw[abF (hd d rfl)];split at hx
  .rename_i e;cases e;rw[if_pos rfl];cases hx;exact hv
  .rename_i e;rw[if_neg (fun h=>e (by rw[h]))];exact(hE t x hx).mono hs hr
theorem kB.drop{d:Option Nat}(hE:kB S w φ E a.tmps):kB S w φ (sg E d .no) (a.put d undef).tmps:=by
 intro t x hx;unfold sg at hx;split at hx
 .rename_i h;subst h;cases hx;simp[Act.put,Array.getElem?_setIfInBounds,if_true];split<;>rfl
 .have:=hE t x hx;cases d with|none=>exact this|some d=>simp_all[Act.put]
theorem HJ(hE:kB S w φ E a.tmps)(hsz:a.tmps.size<1000000000){all:Array Oper}{o:Oper}{b:Bool}(h:pO E (df P bI nt all o).guard=some b):Region.wanted o (yielded all a.tmps)=b:=by
 unfold df at h;unfold Region.wanted;cases hg:o.guard with
 |none=>rw[hg]at h;simpa[pO]using h
 |some p=>
  obtain⟨j,eG⟩:=p;rw[hg]at h
  have lit:∀{x:Bool}{v:V},tg v=some (.bool x)->E (((all[j]?).bind (·.dst)).getD 1000000000)=some v->(x==eG)=b->(yielded all a.tmps j==some eG)=b:=by
   intro x v hl hx hb;have hv:=xV hl (hE _ _ hx);cases hd:(all[j]?).bind (·.dst)with
   |none=>
    rw[hd]at hv
    grind [lq,Array.getElem?_eq_none,undef]
   |some t=>
    rw[hd]at hv
    have ht:a.tmps[t]?=some (.bool x):=by
     rw[lq]at hv
     grind [undef]
    simp only[yielded,hd,Option.bind_some,ht];rw[<-hb];cases x<;>cases eG<;>rfl
  have hh:(match E (((all[j]?).bind (·.dst)).getD 1000000000)with|some (.kb c)=>some (c==eG)|some (.x .b c)=>some (c==eG)|some .no=>some false|_=>none)=some b:=h
  have key:(yielded all a.tmps j==some eG)=b:=by
   split at hh
   .rename_i c hx;exact lit (v:=.kb c) rfl hx (af hh)
   .rename_i c hx;exact lit (v:=.x .b c) rfl hx (af hh)
   .rename_i hx;have hr:_=undef:=hE _ _ hx;obtain rfl:=af hh;cases hd:(all[j]?).bind (·.dst)with
    |none=>simp only[yielded,hd];rfl
    |some t=>
     rw[hd]at hr;rw[lq]at hr
     grind [yielded,undef]
   .cases hh
  exact key
end
def agS:Sh->Bool
 |.x t=>kR t
 |.st _=>true
 |_=>false
abbrev iq.z:iq:=fun _=>none
def NV(S:Nat->Prop)(w:World):Sh->List V->List Value->List Nat->Prop
 |.x t,l,c,fp=>fp=[]/\∃y,l=[.x t y]/\RT S w t y c
 |.pt t,l,c,fp=>fp=[]/\∃y b o d,l=[.x t y]/\c=[.pointer (some ⟨b,o,none⟩)]/\S b/\RT S w t y d/\At w b o d
 |.os t,l,c,fp=>∃s:Sl (El t),l=[.x (.sl t) s]/\((s=.nil/\c=[.slice none 0 0]/\fp=[])\/∃lo,RO S w .z lo (.ar t s 0)/\E6 lo 0 lo.n c/\fp=ob w lo (.ar t s 0))
 |.rw t,l,c,fp=>∃s:Sl (Sl (El t)),l=[.x (.sl (.sl t)) s]/\((s=.nil/\c=[.slice none 0 0]/\fp=[])\/∃lo,RO S w .z lo (.rw t s none)/\E6 lo 0 lo.n c/\fp=ob w lo (.rw t s none))
 |.mp k v,l,c,fp=>∃m lo,l=[.x (.mp k v) m]/\RO S w .z lo (.mp k v m)/\c=[.map (some lo.cQ)]/\fp=[lo.cQ]
 |.pb _ sh,l,c,fp=>∃m b cr f,l=[pkV m]/\c=[.pointer (some ⟨b,0,none⟩)]/\fp=b::f/\uq w b cr/\NV S w sh m cr.toList f
 |.st sh,l,c,fp=>NV S w sh l c fp
 |.pr a b,l,c,fp=>∃l1 l2 c1 c2 f1 f2,l=l1++l2/\c=c1++c2/\fp=f1++f2/\NV S w a l1 c1 f1/\NV S w b l2 c2 f2
 |.nl k,l,c,fp=>l=[]/\c=[nlV k]/\fp=[]
 |.fn f sh,l,c,fp=>∃d,c=[.func (.func f) #[] d.toArray]/\NV S w sh l d fp
 |.ni,l,c,fp=>l=[]/\c=[]/\fp=[]
 |.gn,l,_,fp=>l=[]/\fp=[]
def Lw(S:Nat->Prop)(w:World)(sh:Sh)(l:List V)(x:Value)(fp:List Nat):Prop:=(sh=.gn/\l=[]/\fp=[])\/∃c,NV S w sh l c fp/\if agS sh then x=.agg c.toArray else c=[x]
section
variable{S S' K:Nat->Prop}{w0 w w':World}{φ φ':iq}{H:Hf}{n:Nat}{h:H2}
theorem NV.QK(hs:iW S w S' w):∀{sh:Sh}{l:List V}{c:List Value}{fp:List Nat},NV S w sh l c fp->NV S' w sh l c fp:=by intro sh;induction sh with|x t=>rintro l c fp ⟨h1,y,h2,h3⟩;exact⟨h1,y,h2,h3.mono hs⟩|pt t=>rintro l c fp ⟨h1,y,b,o,d,h2,h3,h4,h5,h6⟩;exact⟨h1,y,b,o,d,h2,h3,hs.sub _ h4,h5.mono hs,h6⟩|os t=>rintro l c fp ⟨s,h1,h2⟩;exact⟨s,h1,h2.imp id fun⟨lo,h3,h4⟩=>⟨lo,h3.mono hs (Ren.refl _) fun _ _=>rfl,h4⟩⟩|rw t=>rintro l c fp ⟨s,h1,h2⟩;exact⟨s,h1,h2.imp id fun⟨lo,h3,h4⟩=>⟨lo,h3.mono hs (Ren.refl _) fun _ _=>rfl,h4⟩⟩|mp k v=>rintro l c fp ⟨m,lo,h1,h2,h3⟩;exact⟨m,lo,h1,h2.mono hs (Ren.refl _) fun _ _=>rfl,h3⟩|pb t c ih=>rintro l c fp ⟨m,b,cr,f,h0,h1,h2,h3,h4⟩;exact⟨m,b,cr,f,h0,h1,h2,h3,ih h4⟩|st c ih=>intro l c fp h;exact ih h|pr a b iha ihb=>rintro l c fp ⟨l1,l2,c1,c2,f1,f2,h1,h2,h3,h4,h5⟩;exact⟨l1,l2,c1,c2,f1,f2,h1,h2,h3,iha h4,ihb h5⟩|fn f c ih=>rintro l c fp ⟨d,h1,h2⟩;exact⟨d,h1,ih h2⟩|_=>intro l c fp h;exact h
theorem NV.len:∀{sh:Sh}{l:List V}{c:List Value}{fp:List Nat},NV S w sh l c fp->l.length=(QM sh).length:=by intro sh;induction sh with|x t=>rintro l c fp ⟨_,y,rfl,_⟩;rfl|pt t=>rintro l c fp ⟨_,y,_,_,_,rfl,_⟩;rfl|os t=>rintro l c fp ⟨_,rfl,_⟩;rfl|rw t=>rintro l c fp ⟨_,rfl,_⟩;rfl|mp k v=>rintro l c fp ⟨_,_,rfl,_⟩;rfl|pb t c ih=>rintro l c fp ⟨_,_,_,_,rfl,_⟩;rfl|st c ih=>intro l c fp h;exact ih h|pr a b iha ihb=>rintro l c fp ⟨l1,l2,_,_,_,_,rfl,_,_,h4,h5⟩;simp[QM,iha h4,ihb h5]|fn f c ih=>rintro l c fp ⟨_,_,h2⟩;exact ih h2|_=>rintro l c fp ⟨rfl,_⟩;rfl
theorem ae_:∀{r:List V}{v:V}{cs:List Ty}{m:List V},r.length=cs.length->aa4 cs (pkW v r)=some m->m=v::r:=by
 intro r;induction r with
 |nil=>intro v cs m hl h;cases cs<;>first|(cases hl;done)|(cases h;rfl)
 |cons a r ih=>
  intro v cs m hl h;cases cs<;>first|(cases hl)|skip
  simp[pkW]at h
  grind [aa4]
theorem adC{l m:List V}{cs:List Ty}(hl:l.length=cs.length)(h:N6 cs (pkV l)=some m):m=l:=by
 cases l<;>cases cs<;>first|(cases hl)|skip
 .cases h;rfl
 .exact ae_ (by simpa using hl) h
theorem Lw.QK(hs:iW S w S' w){sh:Sh}{l:List V}{x:Value}{fp:List Nat}(h:Lw S w sh l x fp):Lw S' w sh l x fp:=h.imp id fun⟨c,h1,h2⟩=>⟨c,h1.QK hs,h2⟩
theorem Sa{f:Nat->List Nat}:∀{n:Nat},(∀i,i<n->(f i).Nodup)->(∀i j,i<n->j<n->i≠j->∀b∈f i,b∉f j)->((aG n).flatMap f).Nodup:=by
 intro n;induction n with
 |zero=>intro _ _;simp
 |succ n ih=>
  intro h1 h2;rw[List.range_succ,List.flatMap_append];refine cm.2 ⟨ih (fun i hi=>h1 i (by omega)) fun i j hi hj=>h2 i j (by omega) (by omega),by simpa using h1 n (by omega),fun a ha b hb e=>?_⟩;obtain⟨i,hi,ha⟩:=bL.1 ha
  grind
theorem YV{l:rJ}{o:O}(h:RO S w φ l o):(ob w l o).Nodup:=by
 cases o with
 |ar t s v=>cases s<;>simp[ob]
 |rw t s ln=>
  cases s with
  |nil=>simp[ob]
  |mk r=>
   obtain⟨_,_,_,_,h5⟩:=h;obtain⟨cr,_,_,_,_,k,_⟩:=h5 r rfl;simp[ob];refine⟨fun hm=>?_,?_⟩
   .obtain ⟨i,hi,hb⟩:=bL.1 hm
    grind
   .refine Sa (fun i _=>?_) fun i j hi hj hne b hb hb2=>(k i j b hi hj hb).2 hne hb2
    grind [vR,xX]
 |_=>simp[ob]
def BG(w:World)(φ:iq)(H:Hf)(ids fp:List Nat):Prop:=fp.Nodup/\∀x∈fp,∃i∈ids,∃o lo,H i=some o/\φ i=some lo/\x∈ob w lo o
theorem BG.nil:BG w φ H [] []:=⟨kj,by simp⟩
theorem BG.one{i:Nat}{o:O}{lo:rJ}(hI:Inv S K w0 φ H w)(ho:H i=some o)(hl:φ i=some lo):BG w φ H [i] (ob w lo o):=by obtain⟨l2,a1,a2,_⟩:=hI.o9 i o ho;obtain rfl:=af (hl.symm.trans a1);exact⟨YV a2,fun x hx=>⟨i,by simp,o,lo,ho,hl,hx⟩⟩
theorem BG.append(hI:Inv S K w0 φ H w){a b f g:List Nat}(hn:(a++b).Nodup)(h1:BG w φ H a f)(h2:BG w φ H b g):BG w φ H (a++b) (f++g):=by
 refine⟨cm.2 ⟨h1.1,h2.1,fun x hx y hy e=>?_⟩,fun x hx=>?_⟩
 .subst e;obtain⟨i,hi,o,lo,q1,q2,q3⟩:=h1.2 x hx;obtain⟨j,hj,o',lo',r1,r2,r3⟩:=h2.2 x hy;exact hI.jz i j o o' lo lo' q1 r1 q2 r2 (fun e=>(cm.1 hn).2.2 i hi j hj e) x q3 r3
 .rcases aK.1 hx with hx|hx
  .obtain ⟨i,hi,q⟩:=h1.2 x hx;exact⟨i,by simp[hi],q⟩
  .obtain ⟨i,hi,q⟩:=h2.2 x hx;exact⟨i,by simp[hi],q⟩
theorem aai{k v k' v':Ty}{m:El (.mp k v)}{m':El (.mp k' v')}(h:fF (.mp k v) (.mp k' v') m=some m'):∃(e:k=k')(e':v=v'),e'▸e▸m=m':=by obtain⟨e,h⟩:=kJ h;cases e;exact⟨rfl,rfl,h⟩
theorem Gu{a a2:Ty}{q:El (.sl (.sl a))}{q':El (.sl (.sl a2))}(h:fF (.sl (.sl a)) (.sl (.sl a2)) q=some q'):∃e:a=a2,e▸q=q':=by obtain⟨e,h⟩:=kJ h;cases e;exact⟨rfl,h⟩
def Um(h:H2)(a:Sh)(x:V):Option (List V×List Nat):=match a,x with|.os t,.x (.sl _) v=>acb t v|.os t,.sb id ver _ _ r=>sbX h t id ver r|_,_=>zA h a false x
theorem Sv(hI:Inv S K w0 φ H w){id ver lo:Nat}{t tt:Ty}{r:Sl (El tt)}{l:List V}{ids:List Nat}{c:List Value}(ha:sbX h t id ver r=some (l,ids))(hr:RC S w φ (.sb id ver lo tt r) c)(hH:∀i∈ids,H i=fO h i)(hok:fG n h (.sb id ver lo tt r)):
  ∃fp,NV S w (.os t) l c fp/\BG w φ H ids fp:=by
 unfold sbX at ha;split at ha<;>first|(cases ha)|skip
 rename_i u w1 v ho;obtain⟨e,h2⟩:=aN ha;obtain rfl:=eq_of_beq e;split at h2<;>first|(cases h2;done)|skip
 rename_i s hs;obtain⟨rfl,rfl⟩:=zx hs;obtain⟨rfl,rfl⟩:=aq (af h2);obtain⟨l1,k1,k2,_,k4⟩:=hr;have hH1:=(hH id (by simp)).trans ho;rcases(hok.2.2 u w1 v (.inl ho)).2 rfl with⟨q1,rfl⟩|⟨q,m,q1,rfl,q3⟩
 .exact ⟨[],⟨Sl.nil,rfl,.inl ⟨rfl,k4,rfl⟩⟩,kj,by simp⟩
 .obtain ⟨rfl,e2⟩:=ir q1;obtain rfl:=eq_of_heq e2;obtain⟨b1,b2,b3,b4,cr,pa,d,qa,c1,c2,c3,c4,e1,e2,c5,c6⟩:=hI.cells hH1 k1;obtain⟨da,d0,db,rfl,r1,r2⟩:=GB (fun _ _ _ h=>RT.len h) c5 lo m (by omega);obtain⟨addr,cap,rfl,p1,p2,p3,p4⟩:=k4;rw[b1]at p3 p4;refine⟨[l1.cQ],⟨_,rfl,.inr ⟨⟨l1.cQ,addr,l1.ext,cap,u,some ((q.drop lo).take m).length⟩,⟨rfl,rfl,b3,b4,fun r' e'=>?_⟩,⟨addr,cap,rfl,p1,by simp,by simp,by simpa using p4⟩,rfl⟩⟩,by simpa[ob]using BG.one hI hH1 k1⟩;cases e';have hm:((q.drop lo).take m).length*ei u<=cap*ei u:=du _ p1;refine⟨cr,d0,c1,c2,p1,by simp only;omega,r2,?_⟩;rcases jJ cap with e|e
  .have hz:((q.drop lo).take m).length=0:=by omega
   obtain rfl:d0=[]:=List.length_eq_zero_iff.1 (by rw[o_.len (fun _ _ _ h=>RT.len h) r2,hz];omega);trivial
  .simp [p3 e,<-r1];exact xM c6
theorem adn(hI:Inv S K w0 φ H w)(hbx:∀id t c,fO h id=some (.bx t c)->fG n h c):∀{sh:Sh}{b:Bool}{v:V}{l:List V}{ids:List Nat}{c:List Value},zA h sh b v=some (l,ids)->RC S w φ v c->(∀i∈ids,H i=fO h i)->fG n h v->ids.Nodup->∃fp,NV S w sh l c fp/\BG w φ H ids fp:=by
 intro sh;induction sh with
 |os t=>
  intro b v l ids c ha hr hH hok hn;cases b<;>cases v<;>first|(cases ha;done)|skip
  .rename_i k;cases k<;>first|(cases ha;done)|skip
   obtain⟨rfl,rfl⟩:=aq (af ha);exact⟨[],⟨Sl.nil,rfl,.inl ⟨rfl,hr,rfl⟩⟩,BG.nil⟩
  .rename_i id;change (match fO h id with|some (.ar u s _)=>(match fF (.sl u) (.sl t) s with|some s=>some ([V.x (.sl t) s],[id])|none=>none)|_=>none)=_ at ha;split at ha<;>first|(cases ha;done)|skip
   rename_i u s ver ho;split at ha<;>first|(cases ha;done)|skip
   rename_i s' hs;obtain⟨rfl,rfl⟩:=zx hs;obtain⟨rfl,rfl⟩:=aq (af ha);obtain⟨l1,k1,k2⟩:=hr;have hH1:=(hH id (by simp)).trans ho;obtain⟨l2,o1,o2,_⟩:=hI.o9 id _ hH1;obtain rfl:=af (k1.symm.trans o1);exact⟨ob w l1 (.ar u s ver),⟨s,rfl,.inr ⟨l1,o2,k2,rfl⟩⟩,BG.one hI hH1 k1⟩
 |rw t=>
  intro b v l ids c ha hr hH hok hn;cases b<;>cases v<;>first|(cases ha;done)|skip
  .rename_i k;cases k<;>first|(cases ha;done)|skip
   obtain⟨rfl,rfl⟩:=aq (af ha);exact⟨[],⟨Sl.nil,rfl,.inl ⟨rfl,hr,rfl⟩⟩,BG.nil⟩
  .rename_i id;change (match fO h id with|some (.rw u s none)=>(match fF (.sl (.sl u)) (.sl (.sl t)) s with|some s=>some ([V.x (.sl (.sl t)) s],[id])|none=>none)|_=>none)=_ at ha;split at ha<;>first|(cases ha;done)|skip
   rename_i u s ho;split at ha<;>first|(cases ha;done)|skip
   rename_i s' hs;obtain⟨rfl,rfl⟩:=Gu hs;obtain⟨rfl,rfl⟩:=aq (af ha);obtain⟨l1,k1,k2⟩:=hr;have hH1:=(hH id (by simp)).trans ho;obtain⟨l2,o1,o2,_⟩:=hI.o9 id _ hH1;obtain rfl:=af (k1.symm.trans o1);exact⟨_,⟨s,rfl,.inr ⟨l1,o2,k2,rfl⟩⟩,BG.one hI hH1 k1⟩
 |mp kT vT=>
  intro b v l ids c ha hr hH hok hn;cases b<;>cases v<;>first|(cases ha;done)|skip
  rename_i id;change (match fO h id with|some (.mp k' v' m)=>(match fF (.mp k' v') (.mp kT vT) m with|some m=>some ([V.x (.mp kT vT) m],[id])|none=>none)|_=>none)=_ at ha;split at ha<;>first|(cases ha;done)|skip
  rename_i k' v' m ho;split at ha<;>first|(cases ha;done)|skip
  rename_i m' hs;obtain⟨rfl,rfl,rfl⟩:=aai hs;obtain⟨rfl,rfl⟩:=aq (af ha);obtain⟨l1,k1,k2⟩:=hr;have hH1:=(hH id (by simp)).trans ho;obtain⟨l2,o1,o2,_⟩:=hI.o9 id _ hH1;obtain rfl:=af (k1.symm.trans o1);exact⟨_,⟨m,l1,rfl,o2,k2,rfl⟩,by simpa[ob]using BG.one hI hH1 k1⟩
 |pb t c ih=>
  intro b v l ids cc ha hr hH hok hn;cases b<;>cases v<;>first|(cases ha;done)|skip
  rename_i id u p;cases p<;>first|(cases ha;done)|skip
  change (match fO h id with|some (.bx w v)=>bif decide (w=u)&&decide (u=t)then(match zA h c false v with|some (l,i)=>some ([pkV l],id::i)|none=>none)else none|_=>none)=_ at ha;split at ha<;>first|(cases ha;done)|skip
  rename_i w1 v1 ho;obtain⟨e,h2⟩:=aN ha;split at h2<;>first|(cases h2;done)|skip
  rename_i l' i' hi;obtain⟨rfl,rfl⟩:=aq (af h2);obtain⟨l1,k1,k2,k3,k4⟩:=hr;have hH1:=(hH id (by simp)).trans ho;obtain⟨l2,o1,⟨o2,o3,cr,o4,o5⟩,_⟩:=hI.o9 id _ hH1;obtain rfl:=af (k1.symm.trans o1);obtain⟨f,q1,q2⟩:=ih hi o5 (fun j hj=>hH j (by simp[hj])) (hbx _ _ _ ho) (gD.1 hn).2;have e0:CG u []=0:=by cases u<;>rfl
  rw[e0]at k4;refine⟨l1.cQ::f,⟨l',l1.cQ,cr,f,rfl,k4,rfl,o4,q1⟩,?_⟩;have:=BG.append hI (a:=[id]) (b:=i') hn (BG.one hI hH1 k1) q2;simpa[ob]using this
 |nl k=>
  intro b v l ids c ha hr hH hok hn;cases b<;>cases v<;>first|(cases ha;done)|skip
  obtain⟨e,h2⟩:=aN ha;obtain rfl:=eq_of_beq e;obtain⟨rfl,rfl⟩:=aq (af h2);exact⟨[],⟨rfl,hr,rfl⟩,BG.nil⟩
 |x t=>
  intro b v l ids c ha hr hH hok hn;cases b<;>first|(cases ha;done)|skip
  change (match zN t v with|some y=>some ([V.x t y],[])|none=>none)=_ at ha;split at ha<;>first|(cases ha;done)|skip
  rename_i y hy;obtain⟨rfl,rfl⟩:=aq (af ha);exact⟨[],⟨rfl,y,rfl,Dr hy hr⟩,BG.nil⟩
 |st sh ih=>
  intro b v l ids c ha hr hH hok hn;cases b<;>cases v<;>first|(cases ha;done)|exact ih ha hr hH hok hn|skip
  rename_i u v;cases u<;>first|(cases ha;done)|skip
  rename_i u;exact ih ha (Xg (t:=u) hr) hH Td hn
 |pr a sh iha ihb=>
  intro b v l ids c ha hr hH hok hn;cases b<;>cases v<;>first|(cases ha;done)|skip
  rename_i x r;change (match Um h a x,zA h sh true r with|some (l,i),some (m,j)=>some (l++m,i++j)|_,_=>none)=_ at ha;split at ha<;>first|(cases ha;done)|skip
  rename_i l1 i1 l2 i2 h1 h2;obtain⟨rfl,rfl⟩:=aq (af ha);obtain⟨d,e,rfl,r1,r2⟩:=hr;obtain⟨g,q3,q4⟩:=ihb h2 r2 (fun j hj=>hH j (by simp[hj])) hok.2 (cm.1 hn).2.1;have hH':∀j∈i1,H j=fO h j:=fun j hj=>hH j (by simp[hj]);have hn1:=(cm.1 hn).1
  have:∃f,NV S w a l1 d f/\BG w φ H i1 f:=by
   unfold Um at h1;split at h1
   .rename_i t u v;unfold acb at h1;split at h1<;>first|(cases h1;done)|skip
    obtain⟨rfl,rfl⟩:=aq (af h1);exact⟨[],⟨Sl.nil,rfl,.inl ⟨rfl,r1,rfl⟩⟩,BG.nil⟩
   .exact Sv hI h1 r1 hH' hok.1
   .exact iha h1 r1 hH' hok.1 hn1
  obtain⟨f,q1,q2⟩:=this;exact⟨f++g,⟨l1,l2,d,e,f,g,rfl,rfl,rfl,q1,q3⟩,BG.append hI hn q2 q4⟩
 |ni=>
  intro b v l ids c ha hr hH hok hn;cases b<;>cases v<;>first|(cases ha;done)|skip
  obtain⟨rfl,rfl⟩:=aq (af ha);exact⟨[],⟨rfl,hr,rfl⟩,BG.nil⟩
 |_=>intro b v l ids c ha;cases b<;>cases v<;>cases ha
end
section
variable{S S' K:Nat->Prop}{w0 w w':World}{φ φ':iq}{H:Hf}{n:Nat}{h:H2}
theorem KM:∀{v:V},Qw v=true->tM h v=true:=by intro v;induction v with|co a r iha ihr=>intro hv;simp only[Qw,ax]at hv;simp[tM,iha hv.1,ihr hv.2]|pt t v=>intro hv;exact hv|ni=>intro _;rfl|_=>intro hv;cases hv
theorem adp(hI:Inv S K w0 φ H w)(hbx:∀id t c,fO h id=some (.bx t c)->fG n h c)(gj:iW S w S' w):∀{sh:Sh}{v:V}{l:List V}{ids:List Nat}{c:List Value},NN h sh v=some (l,ids)->RC S w φ v c->(∀i∈ids,H i=fO h i)->tM h v=true->fG n h v->(∀b,SF S w φ H ids b->S' b)->NV S' w sh l c []:=by
 intro sh;induction sh with
 |x t=>
  intro v l ids c ha hr hH hal hok hS;change (match zK h v with|some (w,l)=>(match zN t w with|some y=>some ([V.x t y],l)|none=>none)|none=>none)=_ at ha;split at ha<;>first|(cases ha;done)|skip
  rename_i w1 a h1;split at ha<;>first|(cases ha;done)|skip
  rename_i y hy;obtain⟨rfl,rfl⟩:=aq (af ha);exact⟨rfl,y,rfl,Dr hy (Gf hI gj h1 hr hH hal hok hS)⟩
 |pt t=>
  intro v l ids c ha hr hH hal hok hS;cases v<;>first|(cases ha;done)|skip
  .rename_i id u p;cases p<;>first|(cases ha;done)|skip
   change (match fO h id with
    |some (.bx w c)=>bif decide (w=u)&&tM h c then(match zK h c with|some (c,l)=>(match zN t c with|some y=>some ([V.x t y],id::l)|none=>none)|none=>none)else none
    |some (.ib w v)=>bif decide (w=u)then(match fF w t v with|some y=>some ([V.x t y],[id])|none=>none)else none
    |_=>none)=_ at ha
   obtain⟨l1,k1,k2,k3,k4⟩:=hr;have e0:CG u []=0:=by cases u<;>rfl
   rw[e0]at k4;split at ha<;>first|(cases ha;done)|skip
   .rename_i w1 c1 ho;obtain⟨e,h2⟩:=aN ha;simp only[ax]at e;split at h2<;>first|(cases h2;done)|skip
    rename_i c2 a h3;split at h2<;>first|(cases h2;done)|skip
    rename_i y hy;obtain⟨rfl,rfl⟩:=aq (af h2);have hH1:=(hH id (by simp)).trans ho;obtain⟨l2,o1,⟨o2,o3,cr,o4,o5⟩,_⟩:=hI.o9 id _ hH1;obtain rfl:=af (k1.symm.trans o1);have hc:=Gf hI gj h3 o5 (fun i hi=>hH i (by simp[hi])) e.2 (hbx _ _ _ ho) fun b hb=>hS b ((SF.sub (by simp_all)).sub b hb);exact⟨rfl,y,_,_,_,rfl,k4,hS _ (SF.cQ (by simp) hH1 k1 (by simp[ob])),Dr hy hc,(Fj o4).2 fun i v hi=>by simpa using hi⟩
   .rename_i w1 v1 ho;obtain⟨e,h2⟩:=aN ha;split at h2<;>first|(cases h2;done)|skip
    rename_i y hy;obtain⟨rfl,rfl⟩:=aq (af h2);obtain⟨e1,e2⟩:=kJ hy;subst e1;subst e2;have hH1:=(hH id (by simp)).trans ho;obtain⟨l2,o1,⟨o2,o3,o4,d,o5,o6⟩,_⟩:=hI.o9 id _ hH1;obtain rfl:=af (k1.symm.trans o1);exact⟨rfl,_,_,_,d,rfl,k4,gj.sub _ o4,o5.mono gj,o6⟩
  .rename_i id m u p;cases p<;>first|(cases ha;done)|skip
   obtain⟨l1,m1,k1,k2,k3,k4,k5,k6⟩:=hr;have e0:CG u []=0:=by cases u<;>rfl
   rw[e0]at k6
   have key:∀{w1:Ty}{s1:Sl (El w1)}{ver:Nat},(fO h id=some (.ar w1 s1 ver)\/fO h id=some (.im w1 s1 ver))->(bif decide (w1=u)then(match fF w1 t (gt s1.l m)with|some y=>some ([V.x t y],[id])|none=>none)else none)=some (l,ids)->NV S' w (.pt t) l c []:=by
    intro w1 s1 ver ho ha;obtain⟨e,h2⟩:=aN ha;obtain rfl:=of_decide_eq_true e;split at h2<;>first|(cases h2;done)|skip
    rename_i y hy;obtain⟨rfl,rfl⟩:=aq (af h2);obtain⟨e1,e2⟩:=kJ hy;subst e1;subst e2;have CI:∀{r:List (El w1)}{d:List Value},m<r.length->o_ (RT S w w1) r d->At w l1.cQ l1.jA d->SF S w φ H [id] l1.cQ->NV S' w (.pt w1) [V.x w1 (gt r m)] c []:=by intro r d hm hr ha hb;obtain⟨a,mm,b,rfl,q1,q2,_⟩:=Cq (fun _ _ _ h=>RT.len h) hm hr;exact⟨rfl,_,_,_,mm,rfl,k6,hS _ hb,q2.mono gj,by have:=xM ha;rwa[q1]at this⟩
    rcases ho with ho|ho
    .have hH1:=(hH id (by simp)).trans ho;obtain⟨l2,o1,o2,_⟩:=hI.o9 id _ hH1;obtain rfl:=af (k1.symm.trans o1);obtain⟨r,rfl,e2⟩:=q_ (o2.2.1.symm.trans k3);obtain⟨d,d1,d2⟩:=RO.XH (.inl o2);exact CI (r:=r) (by rw[e2];exact k4) d1 d2 (SF.cQ (by simp) hH1 k1 (by simp[ob]))
    .have hH1:=(hH id (by simp)).trans ho;obtain⟨l2,o1,o2,_⟩:=hI.o9 id _ hH1;obtain rfl:=af (k1.symm.trans o1);obtain⟨r,rfl,e2⟩:=q_ (o2.2.1.symm.trans k3);obtain⟨d,d1,d2⟩:=RO.XH (.inr o2);exact CI (r:=r) (by rw[e2];exact k4) d1 d2 (.inl (o2.2.2.2.2 r rfl).1)
   change (match fO h id with
    |some (.ar w s _)|some (.im w s _)=>bif decide (w=u)then(match fF w t (gt s.l m)with|some y=>some ([V.x t y],[id])|none=>none)else none
    |_=>none)=_ at ha
   split at ha<;>first|(cases ha;done)|skip
   .rename_i ho;exact key (.inl ho) ha
   .rename_i ho;exact key (.inr ho) ha
  .rename_i u v;change (match fF u t v with|some y=>some ([V.x t y],[])|none=>none)=_ at ha;split at ha<;>first|(cases ha;done)|skip
   rename_i y hy;obtain⟨rfl,rfl⟩:=aq (af ha);obtain⟨rfl,rfl⟩:=kJ hy;obtain⟨b,o,d,k1,k2,k3,k4⟩:=hr;exact⟨rfl,_,b,o,d,rfl,k1,gj.sub _ k2,k3.mono gj,k4⟩
 |nl k=>
  intro v l ids c ha hr hH hal hok hS;cases v<;>first|(cases ha;done)|skip
  obtain⟨e,h2⟩:=aN ha;obtain rfl:=eq_of_beq e;obtain⟨rfl,rfl⟩:=aq (af h2);exact⟨rfl,hr,rfl⟩
 |fn f sh ih=>
  intro v l ids c ha hr hH hal hok hS;cases v<;>first|(cases ha;done)|skip
  rename_i z f' l0;obtain⟨e,h2⟩:=aN ha;obtain rfl:=eq_of_beq e;obtain⟨d,k1,k2⟩:=hr;exact⟨d,k1,ih h2 k2 hH (by cases z;exact hal;exact KM hal) hok hS⟩
 |pr a sh iha ihb=>
  intro v l ids c ha hr hH hal hok hS;cases v<;>first|(cases ha;done)|skip
  rename_i x r;change (match NN h a x,NN h sh r with|some (l,i),some (m,j)=>some (l++m,i++j)|_,_=>none)=_ at ha;split at ha<;>first|(cases ha;done)|skip
  rename_i l1 i1 l2 i2 h1 h2;obtain⟨rfl,rfl⟩:=aq (af ha);obtain⟨d,e,rfl,r1,r2⟩:=hr;simp only[tM,ax]at hal;exact⟨l1,l2,d,e,[],[],rfl,rfl,rfl,iha h1 r1 (fun j hj=>hH j (by simp[hj])) hal.1 hok.1 fun b hb=>hS b ((SF.sub (by simp_all)).sub b hb),ihb h2 r2 (fun j hj=>hH j (by simp[hj])) hal.2 hok.2 fun b hb=>hS b ((SF.sub (by simp_all)).sub b hb)⟩
 |ni=>
  intro v l ids c ha hr hH hal hok hS;cases v<;>first|(cases ha;done)|skip
  obtain⟨rfl,rfl⟩:=aq (af ha);exact⟨rfl,hr,rfl⟩
 |_=>intro v l ids c ha;cases v<;>cases ha
def SG(S:Nat->Prop)(w:World):List (Bool×Sh)->List V->List Value->List Nat->Prop
 |[],l,[],fp=>l=[]/\fp=[]
 |(b,c)::r,l,x::xs,fp=>∃l1 l2 f1 f2,l=l1++l2/\fp=f1++f2/\Lw S w c l1 x f1/\(b=false->f1=[])/\SG S w r l2 xs f2
 |_,_,_,_=>False
def Ai:List (Bool×Sh)->List Value->List Value
 |(b,_)::r,x::xs=>bif b then x::Ai r xs else Ai r xs
 |_,_=>[]
def Ep(S:Nat->Prop)(w:World)(φ:iq):List V->List Value->Prop
 |[],[]=>True
 |v::vs,x::xs=>RW S w φ v x/\Ep S w φ vs xs
 |_,_=>False
theorem I5(hI:Inv S K w0 φ H w)(hbx:∀id t c,fO h id=some (.bx t c)->fG n h c){sh:Sh}{v:V}{l:List V}{ids:List Nat}{x:Value}(ha:zA h sh false v=some (l,ids))(hr:RW S w φ v x)(hH:∀i∈ids,H i=fO h i)(hok:fG n h v)(hn:ids.Nodup):∃fp,Lw S w sh l x fp/\BG w φ H ids fp:=by
 have h1:R1 S w φ v x:=by
  cases v<;>first|exact hr|skip
  all_goals(exfalso;cases sh<;>first|(cases ha;done)|skip)
  all_goals
   rename_i t
   first
    |(change (match zN t (.tp _)with|some y=>some ([V.x t y],[])|none=>none)=_ at ha;split at ha<;>first|(cases ha;done)|(rename_i hy;cases hy;done))
    |(change (match zN t .no with|some y=>some ([V.x t y],[])|none=>none)=_ at ha;split at ha<;>first|(cases ha;done)|(rename_i hy;cases hy;done))
    |(change (match zN t .gn with|some y=>some ([V.x t y],[])|none=>none)=_ at ha;split at ha<;>first|(cases ha;done)|(rename_i hy;cases hy;done))
 obtain⟨c,c1,c2⟩:=h1;obtain⟨fp,f1,f2⟩:=adn hI hbx ha c1 hH hok hn;refine⟨fp,.inr ⟨c,f1,?_⟩,f2⟩
 have e:DW v=agS sh:=by
  cases sh with
  |x t=>change (match zN t v with|some y=>some ([V.x t y],[])|none=>none)=_ at ha;split at ha<;>first|(cases ha;done)|(rename_i hy;exact NA hy c1)
  |st sh=>
   cases v<;>first|(cases ha;done)|rfl|skip
   rename_i u _;cases u<;>first|(cases ha;done)|rfl
  |_=>cases v<;>first|(cases ha;done)|rfl
 rw[<-e];exact c2
theorem Un(hI:Inv S K w0 φ H w)(hbx:∀id t c,fO h id=some (.bx t c)->fG n h c)(gj:iW S w S' w){sh:Sh}{v:V}{l:List V}{ids:List Nat}{x:Value}(ha:NN h sh v=some (l,ids))(hr:RW S w φ v x)(hH:∀i∈ids,H i=fO h i)(hal:tM h v=true)(hok:fG n h v)(hS:∀b,SF S w φ H ids b->S' b):Lw S' w sh l x []:=by
 have h1:R1 S w φ v x:=by
  cases v<;>first|exact hr|(simp[tM]at hal;done)|skip
  exfalso;cases sh<;>cases ha
 obtain⟨c,c1,c2⟩:=h1;refine .inr ⟨c,adp hI hbx gj ha c1 hH hal hok hS,?_⟩
 have e:DW v=agS sh:=by
  cases sh with
  |x t=>
   change (match zK h v with|some (w,l)=>(match zN t w with|some y=>some ([V.x t y],l)|none=>none)|none=>none)=_ at ha;split at ha<;>first|(cases ha;done)|skip
   rename_i w1 a h1;split at ha<;>first|(cases ha;done)|skip
   rename_i y hy
   have hc:=Gf hI gj h1 c1 (fun i hi=>hH i (by
    obtain⟨rfl,rfl⟩:=aq (af ha);exact hi)) hal hok (fun b hb=>hS b (by
    obtain⟨rfl,rfl⟩:=aq (af ha);exact hb))
   rw[show agS (.x t)=kR t from rfl,<-NA hy hc]
   have:∀{v w1:V}{a:List Nat},zK h v=some (w1,a)->DW v=DW w1:=by
    intro v;cases v<;>intro w1 a h1<;>try simp only[zK]at h1
    all_goals(repeat' split at h1)
    all_goals first|(cases h1;done)|(cases h1;rfl)|(rename_i z f cc;cases z<;>cases h1;rfl)
   exact this h1
  |_=>cases v<;>first|(cases ha;done)|rfl
 rw[<-e];exact c2
theorem Ww(hI:Inv S K w0 φ H w)(hbx:∀id t c,fO h id=some (.bx t c)->fG n h c)(gj:iW S w S' w):∀{ps:List (Bool×Sh)}{vs:List V}{l:List V}{j:List Nat}{q:List (V×List Nat)}{xs:List Value},Dv h ps vs=some (l,j,q)->Ep S w φ vs xs->(∀v∈vs,tM h v=true/\fG n h v)->
  (∀i∈j++q.flatMap (·.2),H i=fO h i)->(∀b,SF S w φ H j b->S' b)->(q.flatMap (·.2)).Nodup->∃fp,SG S' w ps l xs fp/\BG w φ H (q.flatMap (·.2)) fp/\Ep S w φ (q.map (·.1)) (Ai ps xs):=by
 intro ps;induction ps with
 |nil=>
  intro vs l j q xs ha hr _ _ _ _;cases vs with
  |cons v vs=>cases ha
  |nil=>obtain⟨rfl,e⟩:=aq (af ha);obtain⟨rfl,rfl⟩:=aq e;cases xs with|nil=>exact⟨[],⟨rfl,rfl⟩,BG.nil,trivial⟩|cons x xs=>exact hr.elim
 |cons p ps ih=>
  obtain⟨b,sh⟩:=p;intro vs l j q xs ha hr hv hH hS hn;cases vs with
  |nil=>cases ha
  |cons v vs=>
  cases xs with
  |nil=>exact hr.elim
  |cons x xs=>
   simp only[Dv]at ha;split at ha<;>first|(cases ha;done)|skip
   rename_i m j' q' hrec;have hv2:∀v∈vs,tM h v=true/\fG n h v:=fun v hm=>hv v (by simp[hm]);obtain⟨v1,v2⟩:=hv v (by simp);cases b with
   |true=>
    simp only[cond_true]at ha;split at ha<;>first|(cases ha;done)|skip
    rename_i l1 i1 h1;obtain⟨rfl,e⟩:=aq (af ha);obtain⟨rfl,rfl⟩:=aq e;simp only[List.flatMap_cons]at hn hH|-;obtain⟨f1,g1,g2⟩:=I5 hI hbx h1 hr.1 (fun i hi=>hH i (by simp[hi])) v2 (cm.1 hn).1;obtain⟨f2,g3,g4,g5⟩:=ih hrec hr.2 hv2 (fun i hi=>hH i (by rcases aK.1 hi with h|h<;>simp[h])) hS (cm.1 hn).2.1;exact⟨f1++f2,⟨l1,m,f1,f2,rfl,rfl,g1.QK gj,(fun e=>by cases e),g3⟩,BG.append hI hn g2 g4,hr.1,g5⟩
   |false=>
    simp only[cond_false]at ha;split at ha<;>first|(cases ha;done)|skip
    rename_i l1 i1 h1;obtain⟨rfl,e⟩:=aq (af ha);obtain⟨rfl,rfl⟩:=aq e;obtain⟨f2,g3,g4,g5⟩:=ih hrec hr.2 hv2 (fun i hi=>hH i (by rcases aK.1 hi with h|h<;>simp[h])) (fun b hb=>hS b ((SF.sub (by simp_all)).sub b hb)) hn;exact⟨f2,⟨l1,m,[],f2,rfl,rfl,Un hI hbx gj h1 hr.1 (fun i hi=>hH i (by simp[hi])) v1 v2 (fun b hb=>hS b ((SF.sub (by simp_all)).sub b hb)),(fun _=>rfl),g3⟩,g4,g5⟩
end
section
variable{S S' K:Nat->Prop}{w0 w w':World}{φ φ':iq}{H:Hf}{n:Nat}{h:H2}
def Cr(S K:Nat->Prop)(w:World)(φ:iq)(H:Hf)(fp:List Nat):Prop:=fp.Nodup/\∀b∈fp,¬S b/\¬K b/\b<w.heap.size/\∀j a m,H j=some a->φ j=some m->b∉ob w m a
theorem Inv.lay(hI:Inv S K w0 φ H w){i:Nat}{l:rJ}{o:O}(hr:Ren φ φ')(hl:φ' i=some l)(hro:RO S w φ' l o)
  (hb:∀b∈ob w l o,¬S b/\¬K b/\b<w.heap.size/\∀j a m,j≠i->H j=some a->φ j=some m->b∉ob w m a):Inv S K w0 φ' (up H [(i,some o)]) w:=by
 refine hI.iT (fun j=>j=i) (iW.refl _ _) hr hI.IQ hI.sk hI.yu (fun j a hj ha=>?_) (fun j a m hj ha hm b hbm=>⟨rfl,?_⟩) fun j a hj ha=>?_
 .rw [cx,if_neg (fun e=>hj e.symm)]at ha;exact ha
 .obtain ⟨m2,b1,_,b4⟩:=hI.o9 j a ha;simp_all
 .subst hj;rw[cx,if_pos rfl]at ha;obtain rfl:=af ha;refine⟨l,hl,hro,fun b hbm=>?_⟩;obtain⟨c1,c2,c3,c4⟩:=hb b hbm;refine⟨c1,c2,c3,fun k a m hk ha hm hbm2=>?_,fun k a m hk hne=>absurd hk hne⟩;rw[cx,if_neg (fun e=>hk e.symm)]at ha;exact c4 k a m hk ha hm hbm2
structure ul(S K:Nat->Prop)(w0 w:World)(φ:iq)(H:Hf)(s s':S2)(fp:List Nat)(u:xm)(φ':iq):Prop where
 le:s.next<=s'.next
 eq:s'=⟨s.jl,u++s.heap,s'.next,u.map (·.1)++s.wo,s.gh⟩
 K_:Ren φ φ'
 new:∀i l,φ' i=some l->φ i=none->s.next<=i/\i<s'.next
 E2:∀p∈u,s.next<=p.1/\p.1<s'.next
 inv:Inv S K w0 φ' (up H u) w
 cQ:∀j a m b,up H u j=some a->φ' j=some m->b∈ob w m a->b∈fp\/(H j=some a/\φ j=some m)
 bx:∀p∈u,∀t c,p.2=some (.bx t c)->fG s'.next (u++s.heap) c
theorem ul.none{s s':S2}(hI:Inv S K w0 φ H w)(hle:s.next<=s'.next)(he:s'=⟨s.jl,s.heap,s'.next,s.wo,s.gh⟩):ul S K w0 w φ H s s' [] [] φ:=⟨hle,he,Ren.refl _,(fun i l h1 h2=>by rw[h1]at h2;cases h2),by simp,hI,(fun j a m b h1 h2 _=>.inr ⟨h1,h2⟩),by simp⟩
theorem ul.QJ{s s':S2}{fp:List Nat}{u:xm}(h:ul S K w0 w φ H s s' fp u φ'):mA s.next s.heap u:=fun p hp _ _=>.inl (h.E2 p hp).1
theorem ul.heap{s s':S2}{fp:List Nat}{u:xm}(h:ul S K w0 w φ H s s' fp u φ'):s'.heap=u++s.heap:=by rw[h.eq]
theorem ul.gj{s s':S2}{fp:List Nat}{u:xm}(h:ul S K w0 w φ H s s' fp u φ'):D_ s.next s.heap s'.heap:=by rw[h.heap];exact h.QJ.gj
theorem ul.BC{s s1 s2:S2}{f1 f2:List Nat}{u1 u2:xm}{φ1 φ2:iq}(h1:ul S K w0 w φ H s s1 f1 u1 φ1)(h2:ul S K w0 w φ1 (up H u1) s1 s2 f2 u2 φ2):ul S K w0 w φ H s s2 (f1++f2) (u2++u1) φ2:=by
 have l1:=h1.le;have l2:=h2.le;refine⟨by omega,?_,h1.K_.trans h2.K_,fun i l a b=>?_,fun p hp=>?_,by rw[mj];exact h2.inv,fun j a m b q1 q2 q3=>?_,fun p hp t c e=>?_⟩
 .have e1:=h1.eq;have e2:=h2.eq
  grind
 .cases e:φ1 i with|none=>have:=h2.new i l a e;omega|some m=>have:=h1.new i m e b;omega
 .rcases aK.1 hp with hp|hp
  .have:=h2.E2 p hp;omega
  .have:=h1.E2 p hp;omega
 .rw [mj]at q1;rcases h2.cQ j a m b q1 q2 q3 with h|⟨h,h'⟩
  .exact .inl (eD _ h)
  .rcases h1.cQ j a m b h h' q3 with h|h
   .exact .inl (bM _ h)
   .exact .inr h
 .rw [bm,<-h1.heap,<-h2.heap];rcases aK.1 hp with hp|hp
  .have:=h2.bx p hp t c e;rwa[<-h2.heap]at this
  .have:=h1.bx p hp t c e;rw[<-h1.heap]at this;exact eA l2 h2.gj this
theorem ul.V8{s s':S2}{f1 f2:List Nat}{u:xm}(h:ul S K w0 w φ H s s' f1 u φ')(hf:Cr S K w φ H (f1++f2)):Cr S K w φ' (up H u) f2:=by
 obtain⟨h1,h2⟩:=hf;obtain⟨n1,n2,n3⟩:=cm.1 h1;refine⟨n2,fun b hb=>?_⟩;obtain⟨c1,c2,c3,c4⟩:=h2 b (by simp[hb]);refine⟨c1,c2,c3,fun j a m q1 q2 q3=>?_⟩;rcases h.cQ j a m b q1 q2 q3 with q|⟨q,q'⟩
 .exact n3 b q b hb rfl
 .exact c4 j a m q q' q3
theorem Cr.left{f1 f2:List Nat}(h:Cr S K w φ H (f1++f2)):Cr S K w φ H f1:=⟨(cm.1 h.1).1,fun b hb=>h.2 b (by simp[hb])⟩
theorem ul.one{s:S2}{o:O}{lo:rJ}(hI:Inv S K w0 φ H w)(hn:φ s.next=Option.none)(hro:RO S w (ext φ s.next lo) lo o)(hf:Cr S K w φ H (ob w lo o))(hbx:∀t c,o≠.bx t c):ul S K w0 w φ H s (tE s o) (ob w lo o) [(s.next,some o)] (ext φ s.next lo):=by
 refine⟨cA _,rfl,pY lo hn,fun i l a b=>?_,fun p hp=>?_,hI.lay (pY lo hn) (gQ _ _ _) hro fun b hb=>?_,fun j a m b q1 q2 q3=>?_,fun p hp t c e=>?_⟩
 .simp_all [ext,tE]
 .obtain rfl:=aB.1 hp;exact⟨aw _,bh _⟩
 .obtain ⟨c1,c2,c3,c4⟩:=hf.2 b hb
  grind
 .rw [cx]at q1;simp[ext]at q2;by_cases e:s.next=j
  .simp_all
  .rw [if_neg e]at q1;rw[if_neg (fun h=>e h.symm)]at q2;exact .inr ⟨q1,q2⟩
 simp_all
theorem RO.z{l:rJ}{o:O}(h:RO S w .z l o):RO S w φ l o:=h.mono (iW.refl _ _) (fun i l h=>by cases h) fun _ _=>rfl
theorem RQ:∀{sh:Sh}{b:Bool}{l bH:List V}{s s':S2}{v:V},IW sh b l s=some (v,bH,s')->s.next<=s'.next:=by
 intro sh;induction sh with
 |pb t c ih=>
  intro b l bH s s' v h;cases b<;>cases l<;>first|(cases h;done)|skip
  rename_i y l;change (match N6 (QM c) y with|some m=>(match IW c false m {s with next:=s.next+1}with|some (w,[],s')=>bif fg w false t then some (V.op s.next t [],l,j8 s' s.next (some (.bx t w)))else none|_=>none)|none=>none)=_ at h;split at h<;>first|(cases h;done)|skip
  split at h<;>first|(cases h;done)|skip
  rename_i h1;have:=ih h1;cases(aN h).2;simp only[j8];simp only at this;omega
 |st c ih=>
  intro b l bH s s' v h;cases b<;>first|(cases h;done)|skip
  grind [IW]
 |pr a c iha ihc=>
  intro b l bH s s' v h;cases b<;>first|(cases h;done)|skip
  grind [IW,bg]
 |nl k=>
  intro b l bH s s' v h;cases b<;>first|(cases h;done)|skip
  cases h;exact cA _
 |ni=>
  intro b l bH s s' v h;cases b<;>first|(cases h;done)|skip
  cases h;exact aw _
 |x t=>
  intro b l bH s s' v h;cases b<;>first|(cases h;done)|skip
  rcases l with _|⟨a,l⟩
  .cases h
  cases a<;>first|(cases h;done)|skip
  cases(aN h).2;exact lI _ _
 |os t=>
  intro b l bH s s' v h;cases b<;>first|(cases h;done)|skip
  rcases l with _|⟨a,l⟩
  .cases h
  cases a<;>first|(cases h;done)|skip
  rename_i ta _;cases ta<;>first|(cases h;done)|skip
  cases(aN h).2;exact cA _
 |rw t=>
  intro b l bH s s' v h;cases b<;>first|(cases h;done)|skip
  rcases l with _|⟨a,l⟩
  .cases h
  cases a<;>first|(cases h;done)|skip
  rename_i ta _;cases ta<;>first|(cases h;done)|skip
  rename_i ta _;cases ta<;>first|(cases h;done)|skip
  cases(aN h).2;exact cA _
 |mp k v=>
  intro b l bH s s' v h;cases b<;>first|(cases h;done)|skip
  rcases l with _|⟨a,l⟩
  .cases h
  cases a<;>first|(cases h;done)|skip
  rename_i ta _;cases ta<;>first|(cases h;done)|skip
  cases(aN h).2;exact cA _
 |_=>intro b l bH s s' v h;cases b<;>cases h
theorem RP:∀{sh:Sh}{b:Bool}{l bH rest':List V}{s s':S2}{v:V}{φ:iq}{H:Hf}{c:List Value}{fp:List Nat},IW sh b (l++bH) s=some (v,rest',s')->NV S w sh l c fp->Inv S K w0 φ H w->(∀j,s.next<=j->j<s'.next->φ j=none)->Cr S K w φ H fp->
  rest'=bH/\DW v=(agS sh&&!b)/\∃u φ',ul S K w0 w φ H s s' fp u φ'/\RC S w φ' v c/\fG s'.next s'.heap v:=by
 intro sh;induction sh with
 |x t=>
  rintro b l bH rest' s s' v φ H c fp hm ⟨rfl,y,rfl,h1⟩ hI hn hf;cases b<;>first|(cases hm;done)|skip
  obtain⟨e,h2⟩:=aN hm;obtain⟨rfl,e2⟩:=aq (af h2);obtain⟨rfl,rfl⟩:=aq e2;exact⟨rfl,by simp[DW,agS],[],φ,ul.none hI (lI _ _) rfl,h1,trivial⟩
 |os t=>
  rintro b l bH rest' s s' v φ H c fp hm ⟨q,rfl,h1⟩ hI hn hf;cases b<;>first|(cases hm;done)|skip
  obtain⟨e,h2⟩:=aN hm;obtain⟨rfl,e2⟩:=aq (af h2);obtain⟨rfl,rfl⟩:=aq e2;have hnx:=hn s.next (aw _) (bh _);simp only[ax,H4,fM]at e
  have key:∃lo,RO S w .z lo (.ar t q 0)/\E6 lo 0 lo.n c/\fp=ob w lo (.ar t q 0):=by
   rcases h1 with⟨rfl,rfl,rfl⟩|h1
   .exact ⟨⟨0,0,0,0,t,none⟩,⟨rfl,rfl,e.2.1,e.2.2,fun r e=>by cases e⟩,rfl,rfl⟩
   .exact h1
  obtain⟨lo,k1,k2,rfl⟩:=key;exact⟨rfl,rfl,_,_,ul.one hI hnx k1.z hf (by simp),⟨lo,gQ _ _ _,k2⟩,bh _⟩
 |rw t=>
  rintro b l bH rest' s s' v φ H c fp hm ⟨q,rfl,h1⟩ hI hn hf;cases b<;>first|(cases hm;done)|skip
  obtain⟨e,h2⟩:=aN hm;obtain⟨rfl,e2⟩:=aq (af h2);obtain⟨rfl,rfl⟩:=aq e2;have hnx:=hn s.next (aw _) (bh _);simp only[ax,H4,fM]at e
  have key:∃lo,RO S w .z lo (.rw t q none)/\E6 lo 0 lo.n c/\fp=ob w lo (.rw t q none):=by
   rcases h1 with⟨rfl,rfl,rfl⟩|h1
   .exact ⟨⟨0,0,0,0,.sl t,none⟩,⟨rfl,rfl,e.2.1,e.2.2,fun r e=>by cases e⟩,rfl,rfl⟩
   .exact h1
  obtain⟨lo,k1,k2,rfl⟩:=key;exact⟨rfl,rfl,_,_,ul.one hI hnx k1.z hf (by simp),⟨lo,gQ _ _ _,k2⟩,bh _⟩
 |mp kT vT=>
  rintro b l bH rest' s s' v φ H c fp hm ⟨m,lo,rfl,k1,rfl,rfl⟩ hI hn hf;cases b<;>first|(cases hm;done)|skip
  obtain⟨e,h2⟩:=aN hm;obtain⟨rfl,e2⟩:=aq (af h2);obtain⟨rfl,rfl⟩:=aq e2;have hnx:=hn s.next (aw _) (bh _);exact⟨rfl,rfl,_,_,ul.one (o:=.mp kT vT m) (lo:=lo) hI hnx k1.z hf (by simp),⟨lo,gQ _ _ _,rfl⟩,bh _⟩
 |pb t sh ih=>
  rintro b l bH rest' s s' v φ H c fp hm ⟨m0,bb,cr,f,rfl,rfl,rfl,k1,k2⟩ hI hn hf;cases b<;>first|(cases hm;done)|skip
  change (match N6 (QM sh) (pkV m0)with|some m=>(match IW sh false m {s with next:=s.next+1}with|some (w,[],s')=>bif fg w false t then some (V.op s.next t [],bH,j8 s' s.next (some (.bx t w)))else none|_=>none)|none=>none)=_ at hm;split at hm<;>first|(cases hm;done)|skip
  rename_i m2 hm2;obtain rfl:=adC k2.len hm2;split at hm<;>first|(cases hm;done)|skip
  rename_i w1 s1 h1;obtain⟨e,h2⟩:=aN hm;obtain⟨rfl,e2⟩:=aq (af h2);obtain⟨rfl,rfl⟩:=aq e2;have hnb:=hf.2 bb (by simp);obtain⟨n1,n2⟩:=gD.1 hf.1;obtain⟨_,_,u,φ1,hL,hc,hok⟩:=ih (bH:=[]) (s:={s with next:=s.next+1}) (s':=s1) (v:=w1) (rest':=[]) (by rw[bO];exact h1) k2 hI (fun j a b=>hn j (by simp only at a;omega) b) ⟨n2,fun b hb=>hf.2 b (by simp[hb])⟩;have hle:=hL.le;have hlt:s.next<s1.next:=hle;have hnx:φ1 s.next=none:=by cases e:φ1 s.next with|none=>rfl|some m=>have:=(hL.new _ m e (hn s.next (aw _) hlt)).1;simp only at this;omega
  have hre:=pY (φ:=φ1) ⟨bb,0,0,0,t,none⟩ hnx;have hheap:s1.heap=u++s.heap:=hL.heap
  have hI2:Inv S K w0 (ext φ1 s.next ⟨bb,0,0,0,t,none⟩) (up (up H u) [(s.next,some (.bx t w1))]) w:=by
   refine hL.inv.lay hre (gQ _ _ _) ⟨rfl,e,cr,k1,hc.mono (iW.refl _ _) hre⟩ fun b hb=>?_;obtain rfl:b=bb:=by simpa[ob]using hb
   refine⟨hnb.1,hnb.2.1,hnb.2.2.1,fun j a m _ q1 q2 q3=>?_⟩;rcases hL.cQ j a m b q1 q2 q3 with q|⟨q,q'⟩
   .exact n1 q
   .exact hnb.2.2.2 j a m q q' q3
  have gj:D_ s1.next s1.heap ((s.next,some (.bx t w1))::s1.heap):=(mA.cons (u:=[]) (fun _ h=>.inr (.inl (by cases h;rfl))) mA.nil).gj;refine⟨rfl,rfl,(s.next,some (.bx t w1))::u,_,⟨by simp only[j8];omega,?_,hL.K_.trans hre,fun i l a b=>?_,fun p hp=>?_,by rw[<-pV,mj];exact hI2,fun j a m b q1 q2 q3=>?_,fun p hp t' c e=>?_⟩,⟨_,gQ _ _ _,rfl,by cases t<;>trivial,by cases t<;>rfl⟩,hlt⟩
  .have:=hL.eq;rw[this];rfl
  .simp only[ext]at a;split at a
   .rename_i e;simp only[j8];omega
   .have:=hL.new i l a b;simp only at this;simp only[j8];omega
  .rcases aO.1 hp with rfl|hp
   .exact ⟨aw _,hlt⟩
   .have:=hL.E2 p hp;simp only at this;simp only[j8];omega
  .rw [<-pV,mj,cx]at q1;simp only[ext]at q2;by_cases e:s.next=j
   .rw [if_pos e]at q1;rw[if_pos e.symm]at q2
    grind [ob,aB]
   .rw [if_neg e]at q1;rw[if_neg (fun h=>e h.symm)]at q2;exact(hL.cQ j a m b q1 q2 q3).imp (fun h=>by simp[h]) id
  .have e1:(s.next,some (O.bx t w1))::u++s.heap=(s.next,some (O.bx t w1))::s1.heap:=by rw[hheap];rfl
   rw[e1];rcases aO.1 hp with rfl|hp
   .cases e;exact eA (aw _) gj hok
   .have:=hL.bx p hp t' c e;simp only[<-hheap]at this;exact eA (aw _) gj this
 |nl k=>
  rintro b l bH rest' s s' v φ H c fp hm ⟨rfl,rfl,rfl⟩ hI hn hf;cases b<;>first|(cases hm;done)|skip
  obtain⟨rfl,e2⟩:=aq (af hm);obtain⟨rfl,rfl⟩:=aq e2;exact⟨rfl,rfl,[],φ,ul.none hI (cA _) rfl,rfl,trivial⟩
 |st sh ih=>
  intro b l bH rest' s s' v φ H c fp hm h1 hI hn hf;cases b<;>first|(cases hm;done)|skip
  change (match IW sh true (l++bH) s with|some (w,l,s)=>some (V.rc w,l,s)|none=>none)=_ at hm;split at hm<;>first|(cases hm;done)|skip
  rename_i w1 l1 s1 h2;obtain⟨rfl,e2⟩:=aq (af hm);obtain⟨rfl,rfl⟩:=aq e2;obtain⟨q1,_,u,φ1,hL,hc,hok⟩:=ih h2 h1 hI hn hf;exact⟨q1,rfl,u,φ1,hL,hc,hok⟩
 |pr a sh iha ihb=>
  rintro b l bH rest' s s' v φ H c fp hm ⟨l1,l2,c1,c2,f1,f2,rfl,rfl,rfl,h1,h2⟩ hI hn hf;cases b<;>first|(cases hm;done)|skip
  change (match IW a false (l1++l2++bH) s with
   |some (x,l,s)=>(match IW sh true l s with|some (r,l,s)=>some (V.co x r,l,s)|none=>none)
   |none=>none)=_ at hm
  rw[bm]at hm;split at hm<;>first|(cases hm;done)|skip
  rename_i x1 m1 s1 h3;split at hm<;>first|(cases hm;done)|skip
  rename_i x2 m2 s2 h4;obtain⟨rfl,e2⟩:=aq (af hm);obtain⟨rfl,rfl⟩:=aq e2;have hle2:s1.next<=s2.next:=RQ h4;obtain⟨rfl,_,u1,φ1,hL1,hc1,hok1⟩:=iha h3 h1 hI (fun j a b=>hn j a (by omega)) hf.left;have hle1:=hL1.le
  obtain⟨rfl,_,u2,φ2,hL2,hc2,hok2⟩:=ihb h4 h2 hL1.inv (fun j a b=>by
   cases e:φ1 j with
   |none=>rfl
   |some m=>have:=hL1.new j m e (hn j (by omega) b);omega) (hL1.V8 hf)
  exact⟨rfl,rfl,u2++u1,φ2,hL1.BC hL2,⟨c1,c2,rfl,hc1.mono (iW.refl _ _) hL2.K_,hc2⟩,eA hL2.le hL2.gj hok1,hok2⟩
 |ni=>
  rintro b l bH rest' s s' v φ H c fp hm ⟨rfl,rfl,rfl⟩ hI hn hf;cases b<;>first|(cases hm;done)|skip
  obtain⟨rfl,e2⟩:=aq (af hm);obtain⟨rfl,rfl⟩:=aq e2;exact⟨rfl,rfl,[],φ,ul.none hI (aw _) rfl,rfl,trivial⟩
 |_=>intro b l bH rest' s s' v φ H c fp hm;cases b<;>cases hm
end
theorem DX.iT{n n':Nat}{h:H2}{u:xm}(hS:DX n h)(hle:n<=n')(hu:mA n h u)(hlt:∀p∈u,LtO n' p)(hbx:∀p∈u,∀t c,p.2=some (.bx t c)->fG n' (u++h) c):DX n' (u++h):=by
 constructor
 .intro id;rw[oz];simp only[up];split
  .rename_i x hx;rcases hlt _ (nE.1 _ hx)with q|q
   .exact q.2
   .have q:x=none:=q;rw[q];trivial
  .exact (hS.ln id).mono hle
 .intro id o ho;rw[oz]at ho;simp only[up]at ho;split at ho
  .rename_i x hx;subst ho;rcases hlt _ (nE.1 _ hx)with q|q
   .exact q.1
   .cases q
  .have:=hS.lt id o ho;omega
 .intro id t c ho;rw[oz]at ho;simp only[up]at ho;split at ho
  .rename_i x hx;subst ho;exact hbx _ (nE.1 _ hx) t c rfl
  .exact eA hle hu.gj (hS.bx id t c ho)
theorem mA.BC{n n1:Nat}{h:H2}{u1 u2:xm}(hn:n<=n1)(h1:mA n h u1)(h2:mA n1 (u1++h) u2):mA n h (u2++u1):=fun p hp o' e=>by
 rcases aK.1 hp with hp|hp
 .rcases h2 p hp o' e with q|q|⟨o,q1,q2⟩
  .exact .inl (by omega)
  .exact .inr (.inl q)
  .by_cases hlt:n<=p.1
   .exact .inl hlt
   .rcases h1.gj p.1 o (by omega) q1 with q|⟨o0,q3,q4⟩
    .rw [q2.am3]at q;cases q
    .exact .inr (.inr ⟨o0,q3,q4.trans q2⟩)
 .exact h1 p hp o' e
section
variable{S S' K:Nat->Prop}{w0 w w':World}{φ φ':iq}{H:Hf}{n:Nat}{h:H2}
def NU(S:Nat->Prop)(w:World):List Sh->List V->List Value->List Nat->Prop
 |[],l,[],fp=>l=[]/\fp=[]
 |c::r,l,x::xs,fp=>∃l1 l2 f1 f2,l=l1++l2/\fp=f1++f2/\Lw S w c l1 x f1/\NU S w r l2 xs f2
 |_,_,_,_=>False
def R1l(S:Nat->Prop)(w:World)(φ:iq):List V->List Value->Prop
 |[],[]=>True
 |v::vs,x::xs=>R1 S w φ v x/\R1l S w φ vs xs
 |_,_=>False
theorem Ep.K_(hr:Ren φ φ'):∀{vs:List V}{xs:List Value},Ep S w φ vs xs->Ep S w φ' vs xs:=by
 intro vs;induction vs with
 |nil=>intro xs h;cases xs<;>exact h
 |cons v vs ih=>intro xs h;cases xs with|nil=>exact h.elim|cons x xs=>exact⟨h.1.mono (iW.refl _ _) hr,ih h.2⟩
theorem Cr.of{f:List Nat}(hf:Cr S K w φ H f){g:List Nat}(hn:g.Nodup)(hs:∀b∈g,b∈f):Cr S K w φ H g:=⟨hn,fun b hb=>hf.2 b (hs b hb)⟩
theorem TA:∀{rs:List Sh}{l bH:List V}{s s':S2}{xs:List V},JY rs l s=some (xs,bH,s')->s.next<=s'.next:=by
 intro rs;induction rs with
 |nil=>intro l bH s s' xs h;cases h;exact aw _
 |cons c r ih=>
  intro l bH s s' xs h;simp only[JY]at h;split at h<;>first|(cases h;done)|skip
  rename_i h1;split at h<;>first|(cases h;done)|skip
  rename_i h2;cases h;exact bg (RQ h1) (ih h2)
theorem ach:∀{rs:List Sh}{l bH rest':List V}{s s':S2}{xs:List V}{ys:List Value}{φ:iq}{H:Hf}{fp:List Nat},JY rs (l++bH) s=some (xs,rest',s')->NU S w rs l ys fp->Inv S K w0 φ H w->(∀j,s.next<=j->j<s'.next->φ j=none)->Cr S K w φ H fp->
  ∃u φ',ul S K w0 w φ H s s' fp u φ'/\R1l S w φ' xs ys/\∀v∈xs,fG s'.next s'.heap v:=by
 intro rs;induction rs with
 |nil=>intro l bH rest' s s' xs ys φ H fp hm hr hI hn hf;cases ys with|cons y ys=>exact hr.elim|nil=>obtain⟨rfl,rfl⟩:=hr;cases hm;exact⟨[],φ,ul.none hI (aw _) rfl,trivial,by simp⟩
 |cons c r ih=>
  intro l bH rest' s s' xs ys φ H fp hm hr hI hn hf;cases ys with
  |nil=>exact hr.elim
  |cons y ys=>
   obtain⟨l1,l2,f1,f2,rfl,rfl,h1,h2⟩:=hr;simp only[JY]at hm;rw[bm]at hm;split at hm<;>first|(cases hm;done)|skip
   rename_i x1 m1 s1 h3;split at hm<;>first|(cases hm;done)|skip
   rename_i xs2 m2 s2 h4;obtain⟨rfl,e2⟩:=aq (af hm);obtain⟨rfl,rfl⟩:=aq e2;have hle2:s1.next<=s2.next:=TA h4;rcases h1 with⟨rfl,_⟩|⟨cs,h1,h5⟩
   .cases h3
   obtain⟨rfl,hag,u1,φ1,hL1,hc1,hok1⟩:=RP h3 h1 hI (fun j a b=>hn j a (by omega)) hf.left;have hle1:=hL1.le
   obtain⟨u2,φ2,hL2,hc2,hok2⟩:=ih h4 h2 hL1.inv (fun j a b=>by
    cases e:φ1 j with
    |none=>rfl
    |some m=>have:=hL1.new j m e (hn j (by omega) b);omega) (hL1.V8 hf)
   refine⟨u2++u1,φ2,hL1.BC hL2,⟨⟨cs,hc1.mono (iW.refl _ _) hL2.K_,?_⟩,hc2⟩,fun v hv=>?_⟩
   .rw [hag];simpa using h5
   .rcases aO.1 hv with rfl|hv
    .exact eA hL2.le hL2.gj hok1
    .exact hok2 v hv
theorem adw:∀{xs:List V}{ys:List Value},R1l S w φ xs ys->RW.RWs S w φ (dK xs) ys:=by
 intro xs;induction xs with
 |nil=>intro ys h;cases ys with|nil=>rfl|cons y ys=>exact h.elim
 |cons x xs ih=>intro ys h;cases ys with|nil=>exact h.elim|cons y ys=>exact⟨y,ys,rfl,h.1,ih h.2⟩
def EL:List Value->Value
 |[v]=>v
 |vs=>.tuple vs.toArray
theorem afv{xs:List V}{ys:List Value}(h:R1l S w φ xs ys):RW S w φ (X2 xs) (EL ys):=by
 match xs,ys,h with|[x],[y],h=>exact h.1.rw|[],[],h=>exact⟨[],rfl,rfl⟩|x::x2::xs,y::y2::ys,h=>exact⟨_,rfl,adw h⟩
structure Bk(S K:Nat->Prop)(w0 w:World)(φ:iq)(H:Hf)(s s1:S2)(ids fp:List Nat)(u:xm)(φ':iq):Prop where
 le:s.next<=s1.next
 eq:s1=⟨s.jl,u++s.heap,s1.next,u.map (·.1)++s.wo,s.gh⟩
 K_:Ren φ φ'
 new:∀i l,φ' i=some l->φ i=none->s.next<=i/\i<s1.next
 QJ:mA s.next s.heap u
 bx:∀p∈u,∀t c,p.2=some (.bx t c)->fG s1.next (u++s.heap) c
 E2:∀i∈ids,∃x,iV u i=some x
 inv:Inv S K w0 φ' (up H u) w
 cQ:∀j a m b,up H u j=some a->φ' j=some m->b∈ob w m a->b∈fp\/(H j=some a/\φ j=some m)
theorem Bk.heap{s s1:S2}{ids fp:List Nat}{u:xm}(h:Bk S K w0 w φ H s s1 ids fp u φ'):s1.heap=u++s.heap:=by rw[h.eq]
theorem Bk.gj{s s1:S2}{ids fp:List Nat}{u:xm}(h:Bk S K w0 w φ H s s1 ids fp u φ'):D_ s.next s.heap s1.heap:=by rw[h.heap];exact h.QJ.gj
theorem Bk.refl{s:S2}(hI:Inv S K w0 φ H w):Bk S K w0 w φ H s s [] [] [] φ:=⟨aw _,rfl,Ren.refl _,(fun i l a b=>by rw[a]at b;cases b),mA.nil,by simp,by simp,hI,fun _ _ _ _ a b _=>.inr ⟨a,b⟩⟩
theorem Bk.BC{s s1 s2:S2}{i1 i2 f1 f2:List Nat}{u1 u2:xm}{φ1 φ2:iq}(h1:Bk S K w0 w φ H s s1 i1 f1 u1 φ1)(h2:Bk S K w0 w φ1 (up H u1) s1 s2 i2 f2 u2 φ2):Bk S K w0 w φ H s s2 (i1++i2) (f1++f2) (u2++u1) φ2:=by
 have l1:=h1.le;have l2:=h2.le;refine⟨by omega,?_,h1.K_.trans h2.K_,fun i l a b=>?_,?_,fun p hp t c e=>?_,fun i hi=>?_,by rw[mj];exact h2.inv,fun j a m b q1 q2 q3=>?_⟩
 .have e1:=h1.eq;have e2:=h2.eq;rw[e2];simp only[S2.mk.injEq,bm,List.map_append];rw[e1];simp
 .cases e:φ1 i with|none=>have:=h2.new i l a e;omega|some m=>have:=h1.new i m e b;omega
 .exact h1.QJ.BC l1 (by rw[<-h1.heap];exact h2.QJ)
 .rw [bm,<-h1.heap,<-h2.heap];rcases aK.1 hp with hp|hp
  .have:=h2.bx p hp t c e;rwa[<-h2.heap]at this
  .have:=h1.bx p hp t c e;rw[<-h1.heap]at this;exact eA l2 h2.gj this
 .rw [zm];cases e:iV u2 i with
  |some x=>exact⟨x,rfl⟩
  |none=>
   rcases aK.1 hi with hi|hi
   .exact h1.E2 i hi
   .obtain ⟨x,hx⟩:=h2.E2 i hi;rw[e]at hx;cases hx
 .rw [mj]at q1;rcases h2.cQ j a m b q1 q2 q3 with h|⟨h,h'⟩
  .exact .inl (eD _ h)
  .rcases h1.cQ j a m b h h' q3 with h|h
   .exact .inl (bM _ h)
   .exact .inr h
theorem Bk.V8{s s':S2}{ids f1 f2:List Nat}{u:xm}(h:Bk S K w0 w φ H s s' ids f1 u φ')(hf:Cr S K w φ H (f1++f2)):Cr S K w φ' (up H u) f2:=by
 obtain⟨h1,h2⟩:=hf;obtain⟨n1,n2,n3⟩:=cm.1 h1;refine⟨n2,fun b hb=>?_⟩;obtain⟨c1,c2,c3,c4⟩:=h2 b (by simp[hb]);refine⟨c1,c2,c3,fun j a m q1 q2 q3=>?_⟩;rcases h.cQ j a m b q1 q2 q3 with q|⟨q,q'⟩
 .exact n3 b q b hb rfl
 .exact c4 j a m q q' q3
theorem ul.bk{s s':S2}{fp:List Nat}{u:xm}(h:ul S K w0 w φ H s s' fp u φ'):Bk S K w0 w φ H s s' [] fp u φ':=⟨h.le,h.eq,h.K_,h.new,h.QJ,h.bx,by simp,h.inv,h.cQ⟩
theorem kI:∀{i:List Nat}{s:S2},kx i s=⟨s.jl,i.map (fun j=>(j,none))++s.heap,s.next,i++s.wo,s.gh⟩:=by intro i;induction i with|nil=>intro s;rfl|cons a i ih=>intro s;simp only[kx,ih,j8];rfl
theorem ra{i:List Nat}{j:Nat}:iV (i.map (fun k=>(k,(none:Option O)))) j=if j∈i then some none else none:=by
 induction i with
 |nil=>rfl
 |cons a i ih=>
  simp only[bN,iV];by_cases e:a=j
  .simp [e]
  .have e':(a==j)=false:=by simpa using e
   have e2:¬j=a:=fun h=>e h.symm;simp[e',ih,e2]
theorem Bk.G7{s:S2}{i:List Nat}(hI:Inv S K w0 φ H w)(hk:∀j∈i,H j=none):Bk S K w0 w φ H s (kx i s) i [] (i.map (fun j=>(j,none))) φ:=by
 have hup:up H (i.map (fun j=>(j,none)))=H:=by
  funext j;simp only[up,ra];by_cases e:j∈i
  .simp [e,hk j e]
  .simp [e]
 refine⟨by rw[kI];exact aw _,by rw[kI];simp[Function.comp_def],Ren.refl _,(fun i l a b=>by rw[a]at b;cases b),fun p hp o' e=>?_,fun p hp t c e=>?_,fun j hj=>⟨none,by rw[ra,if_pos hj]⟩,by rw[hup];exact hI,fun j a m b q1 q2 _=>.inr ⟨by rwa[hup]at q1,q2⟩⟩
 all_goals
  obtain⟨j,_,rfl⟩:=aR.1 hp;cases e
theorem Bk.put{s:S2}{id:Nat}{o:O}{lo:rJ}(hI:Inv S K w0 φ H w)(hl:φ id=some lo)(hro:RO S w φ lo o)(hf:Cr S K w φ H (ob w lo o))(gj:isB o=true\/∃o0,fO s.heap id=some o0/\If o0 o)
  (hbx:∀t c,o=.bx t c->fG s.next ((id,some o)::s.heap) c):Bk S K w0 w φ H s (j8 s id (some o)) [id] (ob w lo o) [(id,some o)] φ:=by
 refine⟨aw _,rfl,Ren.refl _,(fun i l a b=>by rw[a]at b;cases b),mA.cons (fun o' e=>.inr (by cases e;exact gj)) mA.nil,fun p hp t c e=>?_,fun i hi=>?_,hI.lay (Ren.refl _) hl hro fun b hb=>?_,fun j a m b q1 q2 q3=>?_⟩
 .obtain rfl:=aB.1 hp;exact hbx t c (af e)
 .obtain rfl:=aB.1 hi;exact⟨some o,by simp[iV]⟩
 .obtain ⟨c1,c2,c3,c4⟩:=hf.2 b hb;exact⟨c1,c2,c3,fun j a m _ h1 h2=>c4 j a m h1 h2⟩
 .rw [cx]at q1;by_cases e:id=j
  .subst e;rw[if_pos rfl]at q1;cases q1;obtain rfl:=af (hl.symm.trans q2);exact .inl q3
  .rw [if_neg e]at q1;exact .inr ⟨q1,q2⟩
end
end Go.Ev
