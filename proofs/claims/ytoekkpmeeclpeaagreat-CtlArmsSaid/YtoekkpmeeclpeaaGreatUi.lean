/- Operations from the evaluator's code: stores into slices. Conditions: the relation of XPa. -/
import Derived.Test.YtoekkpmeeclpeaaGreatPz
open Array renaming getD_eq_getD_getElem?->iP,length_toList->eY,range->pd
open Bool renaming and_eq_true->aw
open Go renaming Call->oy
open List renaming append_assoc->aQ,cons_append->d8,flatten_cons->jW,length->eK,length_append->aA,length_take->bV,map_append->eS,map_cons->a_,mem_append->aF,mem_append_left->bw,mem_append_right->dL,mem_cons->aI,mem_cons_self->aG,mem_flatMap->cx,mem_map->aL,mem_singleton->az,nodup_append->bD,nodup_cons->eR,nodup_nil->ie,not_mem_nil->aW,range->aK,replicate->ay,replicate_succ->eW,singleton_append->mc
open List.cons renaming inj->aB
open Nat renaming add_mul->fW,blt_eq->eA,eq_zero_or_pos->gR,le_add_right->bN,le_refl->aq,le_succ->aO,le_trans->bg,lt_succ_self->aM,mul_le_mul_right->ct,succ_mul->fj,succ_pos->lw,zero_le->cp
open Option renaming map_eq_some_iff->cg
open Option.some renaming inj->ac
open Prod.mk renaming inj->ap
open Sigma.mk renaming inj->fN
namespace Go.Ev
structure xI(n:Nat)(h:H2):Prop where
 ln:∀id,AT n (fO h id)
 lt:∀id o,fO h id=some o->id<n
 bx:∀id t c,fO h id=some (.bx t c)->dZ n h c
section
variable{P:Program}{o:Oper}{vs:List V}{s:S2}{β:Type}{k:V->S2->List Nat->Option β}{r:β}{d:Option Nat}{as args:List Operand}{g:Option (Nat×Bool)}{t0:Ty}{fi:List Nat}{t el:TypeId}{sz n:Nat}{x y:Operand}{h:H2}
theorem Q0{i:Nat}{o':O}(hr:yI h i=some (some o')):Sj o'=true\/∃o,fO h i=some o/\BK o o':=by
 unfold yI at hr;split at hr
 .cases hr
 .obtain ⟨o2,ho2,e⟩:=cg.1 hr;obtain rfl:=ac e;unfold N1 at ho2;split at ho2
  .rename_i ho;obtain rfl:=ac ho2;exact .inr ⟨_,ho,R7.refl _ _ _⟩
  .rename_i ho;obtain rfl:=ac ho2;exact .inr ⟨_,ho,R7.refl _ _ _⟩
  .obtain rfl:=ac ho2;exact .inl rfl
  .have:=(aC ho2).2;split at this<;>first|(cases this;done)|skip
   split at this<;>first|(cases this;done)|skip
   obtain rfl:=ac this;exact .inl rfl
  .cases ho2
theorem Uh(hs:xI n h){i:Nat}{o':Option O}(hr:yI h i=some o'):i<n/\∀t c,o'≠some (.bx t c):=by
 unfold yI at hr;split at hr
 .rename_i ho;cases hr;exact⟨hs.lt _ _ ho,by simp⟩
 .obtain ⟨o2,ho2,e⟩:=cg.1 hr;obtain rfl:=e;unfold N1 at ho2;split at ho2
  .rename_i ho;obtain rfl:=ac ho2;exact⟨hs.lt _ _ ho,by simp⟩
  .rename_i ho;obtain rfl:=ac ho2;exact⟨hs.lt _ _ ho,by simp⟩
  .rename_i ho;obtain rfl:=ac ho2;exact⟨hs.lt _ _ ho,by simp⟩
  .rename_i ho;have:=(aC ho2).2;split at this<;>first|(cases this;done)|skip
   split at this<;>first|(cases this;done)|skip
   obtain rfl:=ac this;exact⟨hs.lt _ _ ho,by simp⟩
  .cases ho2
theorem Ks{i:Nat}{o':Option O}(hr:yI h i=some o'):AT n o':=by
 unfold yI at hr;split at hr
 .cases hr;trivial
 .obtain ⟨o2,ho2,rfl⟩:=cg.1 hr;unfold N1 at ho2;split at ho2
  .cases ho2;trivial
  .cases ho2;trivial
  .cases ho2;trivial
  .have:=(aC ho2).2;split at this<;>first|(cases this;done)|skip
   split at this<;>cases this;trivial
  .cases ho2
theorem Dv{u:ri}(hs:xI n h)(hu:∀p∈u,yI h p.1=some p.2):jS n h u/\∀p∈u,p.1<n/\∀t c,p.2≠some (.bx t c):=⟨fun p hp o' e=>.inr (Q0 (e▸hu p hp)),fun p hp=>Uh hs (hu p hp)⟩
theorem QZ{S:Nat->Prop}{w:World}{φ:fM}{v w1:V}{a:List Nat}{xv:Value}(hf:tD h v=some (w1,a))(hx:RW S w φ v xv):R1 S w φ v xv:=by cases v<;>first|exact hx|cases hf
theorem Pc{id m:Nat}{u:Ty}{p:rI}{wv:V}{l:Sl (El u)}{ver:Nat}(ho:o.op=.store t x y)(hs:dG P t=some (EP wv))(hS:xI s.next s.heap)(hok:∀v∈[V.ep id m u p,wv],dZ s.next s.heap v)(hal:oN s.heap wv=true)
  {w1:V} {a:List Nat} {q:Ty} {y1:El q} {c:V} {y2:El u} {s1:S2} (hv:fO s.heap id=some (.ar u l ver)) (h1:tD s.heap wv=some (w1,a)) (h2:zb u p=some q) (h3:tF q w1=some y1) (h4:pY (.x u (gt l.l m)) p (.x q y1)=some c) (h5:pI u c=some y2)
  (h6:uv s.heap a s=some s1) (h7:id∉a) (hk:k (.tp .ni) (g_ s1 id (some (.ar u (.mk (l.l.set m y2)) (ver+1)))) (id::a)=some r):PR P o [x,y] [.ep id m u p,wv] s k r:=by
 obtain⟨uf,rfl,e1,e2⟩:=yJ h6;obtain⟨g1,g2⟩:=Dv hS e2;have hid:=hok (.ep id m u p) aG;have hnil:l.nw=false:=hid.2 _ hv;refine⟨.tp .ni,(id,some (.ar u (.mk (l.l.set m y2)) (ver+1)))::uf,s.next,id::a,?_,aq _,jS.cons (fun o' e=>.inr (.inr ⟨_,hv,?_⟩)) g1,trivial,fun p hp t c e=>?_,fun p hp=>?_,fun ρ S K w0 w φ H _ hI _ har hl hn=>?_⟩
 .rw [<-hk];simp only[Bm,g_,a_,e1,d8]
 .cases e;cases l with|nil=>cases hnil|mk r=>exact⟨aO _,rfl,by simp[kx,Sl.l],fun e=>absurd e (by omega)⟩
 .rcases aI.1 hp with rfl|hp
  .cases e
  .exact absurd e ((g2 p hp).2 t c)
 .rcases aI.1 hp with rfl|hp
  .exact .inl ⟨hid.1,trivial⟩
  .exact .inl ⟨(g2 p hp).1,Ks (e2 p hp)⟩
 .have hF:=hI.Ku e1 e2 fun i hi=>hl i (by simp[hi]);have fe:gC S w (SF S w φ H a) w:=SF.Jl a;have hr:=QZ h1 har.2.1;obtain⟨c1,c2⟩:=hr.cells;have hc:=zV hI fe h1 c1 (fun i hi=>hl i (by simp[hi])) hal (hok wv (by simp)) fun b hb=>hb
  have hH:up H uf id=some (.ar u l ver):=by
   have:gB uf id=none:=by cases e:gB uf id with|none=>rfl|some q=>exact absurd (e1▸aL.2 ⟨_,lg.1 q e,rfl⟩) h7
   simp only[up,this];exact(hl id (by simp)).trans hv
  obtain⟨w',q1,q2,q3⟩:=HR ho (by rw[hs,c1.len]) hF (har.1.mono fe (Ren.refl _)) rfl rfl c2 (xg h3 hc) hH h2 h4 h5;refine⟨.skip,undef,w',q1,.inr ⟨rfl,rfl⟩,gO.set (fe.trans q2) ?_⟩;rw[<-jA]at q3;exact q3
theorem O_{id id2 m ver:Nat}{u:Ty}{v:Sl (Sl (El u))}{q:Sl (El u)}{ln:Option (Nat×Nat)}(ho:o.op=.store t x y)(hs:dG P t=some 1)(hok:∀v∈[V.ep id m (.sl u) [],.so id2],dZ s.next s.heap v)
  (hv:fO s.heap id=some (.rw u v ln)) (h2:fO s.heap id2=some (.ar u q ver)) (hne:id2≠id) (hb:Pm ln m=true)
  (hk:k (.tp .ni) (g_ (g_ s id2 none) id (some (.rw u (.mk (v.l.set m q)) none))) [id,id2]=some r):PR P o [x,y] [.ep id m (.sl u) [],.so id2] s k r:=by
 have hid:=hok (.ep id m (.sl u) []) aG;have hnil:v.nw=false:=hid.2 _ hv;refine⟨.tp .ni,[(id,some (.rw u (.mk (v.l.set m q)) none)),(id2,none)],s.next,[id,id2],hk,aq _,jS.cons (fun o' e=>.inr (.inr ⟨_,hv,?_⟩)) (jS.cons (fun o' e=>by cases e) jS.nil),trivial,fun p hp t c e=>?_,fun p hp=>?_,fun ρ S K w0 w φ H _ hI _ har hl hn=>?_⟩
 .cases e;cases v with|nil=>cases hnil|mk r=>exact⟨rfl,by simp[kx,Sl.l]⟩
 .simp only[aI,aW,or_false]at hp;rcases hp with rfl|rfl<;>cases e
 .simp only[aI,aW,or_false]at hp;rcases hp with rfl|rfl
  .exact .inl ⟨hid.1,trivial⟩
  .exact .inr rfl
 .exact HP ho hs hI har.1 har.2.1 ((hl id (by simp)).trans hv) ((hl id2 (by simp)).trans h2) hne hb
theorem Pb{id m:Nat}{u:Ty}{p:rI}{wv:V}(ho:o.op=.store t x y)(hs:dG P t=some n)(hS:xI s.next s.heap)(hok:∀v∈[V.ep id m u p,wv],dZ s.next s.heap v)(hal:oN s.heap wv=true)
  (h:part ⟨⟨d,.store n,as,g⟩,t0,fi⟩ [.ep id m u p,wv] s k=some r):PR P o [x,y] [.ep id m u p,wv] s k r:=by
 obtain⟨e,h1⟩:=aC (show(bif(EP wv==n)then Jw id m u p wv s (fun s l=>k (.tp .ni) s l)else none)=some r from h);obtain rfl:=eq_of_beq e;unfold Jw at h1;split at h1<;>first|(cases h1;done)|skip
 .rename_i u1 v ln hv;split at h1<;>first|(cases h1;done)|skip
  rename_i id2;split at h1<;>first|(cases h1;done)|skip
  rename_i u2 q ver h2;split at h1<;>first|(cases h1;done)|skip
  rename_i q' hq;obtain⟨e5,e6⟩:=iu hq;cases e5;cases e6;obtain⟨e7,h3⟩:=aC h1;simp only[aw,decide_eq_true_eq,Bool.not_eq_true',beq_eq_false_iff_ne,ne_eq]at e7;obtain⟨⟨rfl,e8⟩,e9⟩:=e7;exact O_ ho hs hok hv h2 e8 e9 h3
 .rename_i u1 l ver hv;split at h1<;>first|(cases h1;done)|skip
  rename_i w1 a hw;obtain⟨e1,h3⟩:=aC h1;obtain rfl:=of_decide_eq_true e1;clear h1;split at h3<;>first|(cases h3;done)|skip
  rename_i q hq;split at h3<;>first|(cases h3;done)|skip
  rename_i y1 hy;split at h3<;>first|(cases h3;done)|skip
  rename_i c hc;split at h3<;>first|(cases h3;done)|skip
  rename_i y2 hy2;split at h3<;>first|(cases h3;done)|skip
  rename_i s1 hs1;obtain⟨e2,h4⟩:=aC h3;exact Pc ho hs hS hok hal hv hw hq hy hc hy2 hs1 (by simpa using e2) h4
end
section
variable{P:Program}{o:Oper}{vs:List V}{s:S2}{β:Type}{k:V->S2->List Nat->Option β}{r:β}{d:Option Nat}{as args:List Operand}{g:Option (Nat×Bool)}{t0:Ty}{fi:List Nat}{t el:TypeId}{sz n:Nat}{x y:Operand}{h:H2}
theorem JS(ho:o.op=.store t x y)(hs:dG P t=some n)(hS:xI s.next s.heap)(hok:∀v∈vs,dZ s.next s.heap v)(hal:∀v∈vs,oN s.heap v=true)
  (h:part ⟨⟨d,.store n,as,g⟩,t0,fi⟩ vs s k=some r):PR P o [x,y] vs s k r:=by
 rcases vs with _|⟨a,_|⟨b,_|⟨c,vr⟩⟩⟩
 case cons.cons.nil=>
  cases a<;>first|(cases h;done)|skip
  case op=>exact Pa ho hs hok hS.bx h
  case ep=>exact Pb ho hs hS hok (hal _ (by simp)) h
 case cons.cons.cons=>cases a<;>cases h
 case cons.nil=>cases a<;>cases h
 all_goals cases h
theorem Inv.ju{S K:Nat->Prop}{w0 w:World}{φ:fM}{H:Hf}(hI:Inv S K w0 φ H w){id:Nat}{o o':O}(ho:H id=some o)(hro:∀l,RO S w φ l o->RO S w φ l o')(hob:∀l,ob w l o'=ob w l o):Inv S K w0 φ (up H [(id,some o')]) w:=by
 refine hI.gM (fun i=>i=id) (gC.refl _ _) (Ren.refl _) hI.Cg hI.sk hI.sq (fun i a hi ha=>?_) (fun i a m hi ha hm b hb=>⟨rfl,?_⟩) fun i a hi ha=>?_
 .rw [bC,if_neg (fun e=>hi e.symm)]at ha;exact ha
 .obtain ⟨m2,b1,_,b4⟩:=hI.lS i a ha;obtain rfl:=ac (hm.symm.trans b1);exact(b4 b hb).1
 .subst hi;rw[bC,if_pos rfl]at ha;obtain rfl:=ac ha;obtain⟨m2,b1,b2,b4⟩:=hI.lS i o ho;refine⟨m2,b1,hro _ b2,fun b hb=>?_⟩;rw[hob]at hb;obtain⟨c1,c2,c3⟩:=b4 b hb;refine⟨c1,c2,c3,fun j a lm hj ha hlm hbm=>?_,fun j a lm hj hne=>absurd hj hne⟩;rw[bC,if_neg (fun e=>hj e.symm)]at ha;exact hI.iY i j _ a m2 lm ho ha b1 hlm (fun e=>hj e.symm) b hb hbm
structure Sd(P:Program)(o:Oper)(d x:Operand)(el:TypeId)(m:Nat):Prop where
 op:∃c dt xt,o.op=.call c/\c.callee=.builtin .copy/\c.args= #[d,x]/\c.argTypes= #[dt,xt]/\P.underlying dt=some (.slice el)
 sz:dG P el=some (m+1)
theorem DL{α:Type}{l x:List α}{lo n:Nat}(h:lo+n<=l.length):(B_ l lo n x).length=l.length:=xZ _ _ _ (by simp[bV];omega)
def DZ(s:S2)(a:V)(id lo len:Nat){u:Ty}(w0:Sl (El u)):Prop:=
 (w0.nw=true/\len=0\/∃q,w0=.mk q/\lo+len<=q.length)/\
 ∀(S:Nat->Prop)(w:World)(φ:fM)(av:Value),uE φ s.heap->RW S w φ a av->∃l1,φ id=some l1/\(w0.nw=true->av=.slice none 0 0)/\∀q,w0=.mk q->yH l1 lo (some len) [av]
theorem DZ.so{id ver:Nat}{u:Ty}{w0:Sl (El u)}(hv:fO s.heap id=some (.ar u w0 ver)):DZ s (.so id) id 0 w0.l.length w0:=by
 constructor
 .cases w0 with|nil=>exact .inl ⟨rfl,rfl⟩|mk q=>exact .inr ⟨q,rfl,by simp[Sl.l]⟩
 .intro S w φ av hsh hx;obtain⟨l1,k1,k2⟩:=R1.fT (v:=.so id) hx;have e:=(hsh id l1 _ k1 hv).2;rw[e]at k2;refine⟨l1,k1,fun h=>?_,fun q h=>?_⟩
  .cases w0 with|nil=>exact(aB k2).1|mk q=>cases h
  .subst h;exact k2
theorem DZ.sb{id ver lo:Nat}{u tt:Ty}{w0:Sl (El u)}{v:Sl (El tt)}(hok:dZ s.next s.heap (.sb id ver lo tt v))(hv:fO s.heap id=some (.ar u w0 ver)):DZ s (.sb id ver lo tt v) id lo v.l.length w0:=by
 rcases(hok.2.2 u w0 ver (.inl hv)).2 rfl with⟨h1,rfl⟩|⟨q,m,h1,rfl,h3⟩
 .refine ⟨.inl ⟨h1,rfl⟩,fun S w φ av hsh hx=>?_⟩;obtain⟨l1,k1,_,_,k4⟩:=R1.fT (v:=.sb id ver lo tt Sl.nil) hx;exact⟨l1,k1,(fun _=>(aB k4).1),(fun q e=>by rw[e]at h1;cases h1)⟩
 .obtain ⟨rfl,e⟩:=fN h1;obtain rfl:=eq_of_heq e;refine⟨.inr ⟨q,rfl,by simp[Sl.l];omega⟩,fun S w φ av hsh hx=>?_⟩;obtain⟨l1,k1,_,_,k4⟩:=R1.fT (v:=.sb id ver lo u (.mk ((q.drop lo).take m))) hx;exact⟨l1,k1,(fun e=>by cases e),(fun q' e=>by cases e;exact k4)⟩
theorem IV{a xv:V}{id lo ver len m0:Nat}{u tx:Ty}{w0 m:Sl (El u)}{ids:List Nat}(hT:Sd P o x y el m0)(hv:fO s.heap id=some (.ar u w0 ver))(hid:id<s.next)(hx:Sg tx s.heap xv=some ⟨u,m,ids⟩)(hal:oN s.heap xv=true)(hok:dZ s.next s.heap xv)
  (hsz:df u=m0+1) (hp:DZ s a id lo len w0) (hk:k (.x (.i .i64) ((min m.l.length len:Nat):Int)) (g_ s id (some (.ar u (w0.to (B_ w0.l lo len m.l)) (ver+1)))) (id::ids)=some r):PR P o [x,y] [a,xv] s k r:=by
 obtain⟨hlen,hpart⟩:=hp;refine⟨_,[(id,some (.ar u (w0.to (B_ w0.l lo len m.l)) (ver+1)))],s.next,id::ids,hk,aq _,jS.cons (fun o' e=>.inr (.inr ⟨_,hv,?_⟩)) jS.nil,trivial,fun p hp t c e=>?_,fun p hp=>?_,fun ρ S K w0' w φ H _ hI hsh har hl hn=>?_⟩
 .cases e;refine⟨aO _,rfl,?_,fun e=>absurd e (by omega)⟩;rcases hlen with⟨h1,_⟩|⟨q,rfl,h2⟩
  .cases w0 with|nil=>rfl|mk q=>cases h1
  .change some q.length=some (B_ q lo len m.l).length;rw[DL h2]
 .obtain rfl:=az.1 hp;cases e
 .obtain rfl:=az.1 hp;exact .inl ⟨hid,trivial⟩
 .obtain ⟨⟨c,dt,xt,h1,h2,h3,h4,h5⟩,h6⟩:=hT;obtain⟨cs,e1,e2⟩:=xw (P:=P) hI har.2.1 hx (fun i hi=>hl i (by simp[hi])) hal hok;obtain⟨l1,k1,k2,k3⟩:=hpart S w φ _ hsh har.1;have hH:=(hl id (by simp)).trans hv;rw[hsz]at e2;rcases hlen with⟨h7,rfl⟩|⟨q,rfl,h8⟩
  .have run:=HY h1 h2 h3 h4 h5 h6 (k2 h7) e2;rw[Nat.min_zero];refine⟨.value _,_,w,run,.inl rfl,gO.uu (gC.refl _ _) (R1.wC (v:=.x (.i .i64) _) rfl rfl).rw (hI.ju hH (fun l hr=>?_) fun l=>?_)⟩
   .cases w0 with|nil=>exact⟨hr.1,hr.2.1,hr.2.2.1,hr.2.2.2.1,fun r e=>by cases e⟩|mk q=>cases h7
   .cases w0 with|nil=>rfl|mk q=>cases h7
  .exact Tg h1 h2 h3 h4 h5 h6 hI hH k1 (k3 q rfl) h8 hsz e1 e2
theorem Rs{xv:V}{m0:Nat}{u tx:Ty}{m:Sl (El u)}{ids:List Nat}(hT:Sd P o x y el m0)(hx:Sg tx s.heap xv=some ⟨u,m,ids⟩)(hal:oN s.heap xv=true)(hok:dZ s.next s.heap xv)
  (hsz:df u=m0+1) (hk:k (.x (.i .i64) (0:Int)) s ids=some r):PR P o [x,y] [.nl 0,xv] s k r:=by
 refine⟨_,[],s.next,ids,hk,aq _,jS.nil,trivial,fun p hp t c e=>by simp at hp,fun p hp=>by simp at hp,fun ρ S K w0' w φ H _ hI hsh har hl hn=>?_⟩;obtain⟨⟨c,dt,xt,h1,h2,h3,h4,h5⟩,h6⟩:=hT;obtain⟨cs,e1,e2⟩:=xw (P:=P) hI har.2.1 hx hl hal hok;rw[hsz]at e2;exact fL.pure hI (HY h1 h2 h3 h4 h5 h6 (aB (R1.fT (v:=.nl 0) har.1)).1 e2) (R1.wC (v:=.x (.i .i64) _) rfl rfl).rw
theorem tf{a a2:Ty}{q:El (.sl a)}{q':El (.sl a2)}(h:dR (.sl a) (.sl a2) q=some q'):∃e:a=a2,e▸q=q':=by obtain⟨e,h⟩:=iu h;cases e;exact⟨rfl,h⟩
theorem WH{id ver lo:Nat}{tt u:Ty}{v:Sl (El tt)}{w0:Sl (El u)}{ver':Nat}(hal:oN s.heap (.sb id ver lo tt v)=true)(hv:fO s.heap id=some (.ar u w0 ver')):ver'=ver:=by simp only[oN,hv,aw,beq_iff_eq]at hal;exact hal.2
theorem Ng{m0:Nat}(hT:Sd P o x y el m0)(hS:xI s.next s.heap)(hok:∀v∈vs,dZ s.next s.heap v)(hal:∀v∈vs,oN s.heap v=true)
  (h:part ⟨⟨d,.copy (m0+1),as,g⟩,t0,fi⟩ vs s k=some r):PR P o [x,y] vs s k r:=by
 rcases vs with _|⟨a,_|⟨b,_|⟨c,vr⟩⟩⟩
 case cons.cons.nil=>
  change (match Sg t0 s.heap b with|some ⟨t,m,ids⟩=>_|none=>none)=_ at h;split at h<;>first|(cases h;done)|skip
  rename_i u m ids hx;have e:=(aC h).1
  replace h:=(aC h).2
  have hsz:=eq_of_beq e;have hb:b∈[a,b]:=by simp
  split at h<;>first|(cases h;done)|skip
  .exact Rs hT hx (hal _ hb) (hok _ hb) hsz h
  .rename_i id;split at h<;>first|(cases h;done)|skip
   rename_i u2 v ver hv;split at h<;>first|(cases h;done)|skip
   rename_i m' hm;obtain⟨rfl,rfl⟩:=tf hm;exact IV hT hv (hok (.so id) aG) hx (hal _ hb) (hok _ hb) hsz (DZ.so hv) h
  .rename_i id ver lo tt v;split at h<;>first|(cases h;done)|skip
   rename_i u2 w0 ver' hv;split at h<;>first|(cases h;done)|skip
   rename_i m' hm;obtain⟨rfl,rfl⟩:=tf hm;obtain⟨e2,h3⟩:=aC h;obtain rfl:=eq_of_beq e2;exact IV hT hv (hok (.sb id _ lo tt v) aG).1 hx (hal _ hb) (hok _ hb) hsz (DZ.sb (hok _ aG) hv) h3
 all_goals cases h
theorem JZ{c:oy}{dt:TypeId}{m0:Nat}{z:List Value}(ho:o.op=.call c)(hcal:c.callee=.builtin .clear)(hargs:c.args= #[x])(hts:c.argTypes= #[dt])(hud:P.underlying dt=some (.slice el))(hz:gQ P el=some z)(hzl:z.length=m0+1)(hok:∀v∈vs,dZ s.next s.heap v)
  (h:part ⟨⟨d,.clear z,as,g⟩,t0,fi⟩ vs s k=some r):PR P o [x] vs s k r:=by
 rcases vs with _|⟨a,_|⟨b,vr⟩⟩
 case cons.nil=>
  change (match a with|.sb id ver lo _ v=>_|_=>none)=_ at h;split at h<;>first|(cases h;done)|skip
  rename_i id ver lo tt v;split at h<;>first|(cases h;done)|skip
  rename_i u w0 ver' hv;obtain⟨e,h⟩:=aC h;simp only[aw,beq_iff_eq,Bv]at e;obtain⟨⟨rfl,e2⟩,e3,_⟩:=e;obtain⟨w1,hw,h⟩:=tn h;obtain⟨hlen,hpart⟩:=DZ.sb (hok _ aG) hv;cases w0 with
  |nil=>cases hw
  |mk q=>
   obtain rfl:=ac hw;rcases hlen with⟨h1,_⟩|⟨q',e',h2⟩
   .cases h1
   cases e';refine⟨_,[(id,some (.ar u (.mk (B_ q lo v.l.length (ay v.l.length (pV u)))) (ver'+1)))],s.next,[id],h,aq _,jS.cons (fun o' e=>.inr (.inr ⟨_,hv,?_⟩)) jS.nil,trivial,fun p hp t c e=>?_,fun p hp=>?_,fun ρ S K w0' w φ H _ hI hsh har hl hn=>?_⟩
   .cases e;exact⟨aO _,rfl,by simp[kx,DL h2],fun e=>absurd e (by omega)⟩
   .obtain rfl:=az.1 hp;cases e
   .obtain rfl:=az.1 hp;exact .inl ⟨(hok (.sb id ver' lo tt v) aG).1,trivial⟩
   .obtain ⟨l1,k1,_,k3⟩:=hpart S w φ _ hsh har.1;exact P7 ho hcal hargs hts hud hz hzl hI ((hl id (by simp)).trans hv) k1 (k3 q rfl) h2 e3 (vf e2)
 all_goals cases h
theorem Fu{α:Type}{wd:Bool}(hwd:wd=true->yi P el=true){t:Ty}{l m:List α}(h:Gr wd t l=some m):l=m/\KX P el l.length:=by obtain⟨h1,h2⟩:=Og h;exact⟨h1,h2.imp id fun h=>⟨hwd h.1,h.2⟩⟩
theorem I9{a xv:V}{m0:Nat}{u tx:Ty}{m:Sl (El u)}{ids:List Nat}{z:List Value}(hT:Jj P o x y el m0 z)(hx:Sg tx s.heap xv=some ⟨u,m,ids⟩)(hal:oN s.heap xv=true)(hok:dZ s.next s.heap xv)(hsz:df u=m0+1)(hd:kS u=true)
  (ha:∀(S:Nat->Prop)(w:World)(φ:fM)(av:Value),RW S w φ a av->av=.slice none 0 0) {wd:Bool} (hwd:wd=true->yi P el=true) (h:(Gr wd u ([]++m.l)).bind (fun r=>k (.so s.next) (oH s (.ar u (Bi Sl.nil m.l r) 0)) ids)=some r):PR P o [x,y] [a,xv] s k r:=by
 obtain⟨rr,h1,hk⟩:=tn h;obtain⟨rfl,hle⟩:=Fu hwd h1;refine PR.new hk (aM _) (fun t c e=>by cases e) fun ρ S K w0 w φ H _ hI _ har hl hn=>?_;obtain⟨cs,e1,e2⟩:=xw (P:=P) hI har.2.1 hx hl hal hok;rw[hsz]at e2;obtain⟨val,w',q1,q2⟩:=Mt hT hI hn hd hsz (ha S w φ _ har.1) e1 e2 (by simpa using hle);exact⟨.value val,val,w',q1,.inl rfl,q2⟩
theorem I8{a xv:V}{id lo ver m0:Nat}{u u2 tx:Ty}{w0:Sl (El u2)}{v m:Sl (El u)}{ids:List Nat}{z:List Value}(hT:Jj P o x y el m0 z)(hv:fO s.heap id=some (.ar u2 w0 ver))(hx:Sg tx s.heap xv=some ⟨u,m,ids⟩)(hal:oN s.heap xv=true)(hok:dZ s.next s.heap xv)
  (hsz:df u=m0+1) (hd:kS u=true) (hp:DZ s a id lo v.l.length w0) (hc:IS u2 u w0 lo v) {wd:Bool} (hwd:wd=true->yi P el=true) (h:(Gr wd u (v.l++m.l)).bind (fun r=>k (.so s.next) (oH (g_ s id none) (.ar u (Bi v m.l r) 0)) (id::ids))=some r):PR P o [x,y] [a,xv] s k r:=by
 obtain⟨rr,h1,hk⟩:=tn h;obtain⟨rfl,hle⟩:=Fu hwd h1;obtain⟨hlen,hpart⟩:=hp;refine⟨.so s.next,[(s.next,some (.ar u (Bi v m.l (v.l++m.l)) 0)),(id,none)],s.next+1,id::ids,hk,aO _,jS.cons (fun _ _=>.inl (aq _)) (jS.cons (fun o' e=>by cases e) jS.nil),aM _,fun p hp t c e=>?_,fun p hp=>?_,fun ρ S K w0' w φ H _ hI hsh har hl hn=>?_⟩
 .simp only[aI,aW,or_false]at hp;rcases hp with rfl|rfl<;>cases e
 .simp only[aI,aW,or_false]at hp;rcases hp with rfl|rfl
  .exact .inl ⟨aM _,trivial⟩
  .exact .inr rfl
 .obtain ⟨cs,e1,e2⟩:=xw (P:=P) hI har.2.1 hx (fun i hi=>hl i (by simp[hi])) hal hok;obtain⟨l1,k1,k2,k3⟩:=hpart S w φ _ hsh har.1;have hH:=(hl id (by simp)).trans hv;have hnx:=hn _ (aq _) (aM _);rw[hsz]at e2;rcases hc with⟨h7,rfl⟩|⟨q,mm,h7,rfl,h8⟩
  .have hkill:Inv S K w0' φ (up H [(id,none)]) w:=hI.BZ fun i a ha=>by
    rw[bC]at ha;split at ha
    .cases ha
    .exact ha
   obtain⟨val,w',q1,q2⟩:=Mt hT hkill hnx hd hsz (k2 h7) e1 e2 (by simpa[Sl.l]using hle);exact⟨.value val,val,w',q1,.inl rfl,q2.after⟩
  .obtain ⟨rfl,e⟩:=fN h7;obtain rfl:=eq_of_heq e;have hll:(Sl.mk ((q.drop lo).take mm):Sl _).l=(q.drop lo).take mm:=rfl;have hlm:((q.drop lo).take mm).length=mm:=by simp;omega
   rw[hll]at hle k3;obtain⟨val,w',q1,q2⟩:=U7 (sv:=.nil) hT hI hnx hH k1 (k3 q rfl) (by rw[hlm]) (by omega) hsz e1 e2 (by simpa using hle);refine⟨.value val,val,w',q1,.inl rfl,?_⟩;rw[hll];unfold Bi;split<;>exact q2
theorem HG{m0:Nat}{z:List Value}(hT:Jj P o x y el m0 z){wd:Bool}(hwd:wd=true->yi P el=true)(hok:∀v∈vs,dZ s.next s.heap v)(hal:∀v∈vs,oN s.heap v=true)
  (h:part ⟨⟨d,.append (m0+1) wd,as,g⟩,t0,fi⟩ vs s k=some r):PR P o [x,y] vs s k r:=by
 rcases vs with _|⟨a,_|⟨b,_|⟨c,vr⟩⟩⟩
 case cons.cons.nil=>
  change (match Sg t0 s.heap b with|some ⟨t,m,ids⟩=>_|none=>none)=_ at h;split at h<;>first|(cases h;done)|skip
  rename_i u m ids hx;have e:=(aC h).1
  replace h:=(aC h).2
  simp only[aw,beq_iff_eq,Bv]at e;obtain⟨hsz,hd,_⟩:=e;have hb:b∈[a,b]:=by simp
  split at h<;>first|(cases h;done)|skip
  .exact I9 hT hx (hal _ hb) (hok _ hb) hsz hd (fun S w φ av hr=>(aB (R1.fT (v:=.nl 0) hr)).1) hwd h
  .rename_i tv v;obtain⟨e2,h⟩:=aC h;refine I9 hT hx (hal _ hb) (hok _ hb) hsz hd (fun S w φ av hr=>?_) hwd h;cases v with|nil=>exact(aB (R1.fT (v:=.x (.sl tv) Sl.nil) hr)).1|mk q=>cases e2
  .rename_i id;split at h<;>first|(cases h;done)|skip
   rename_i u2 v ver hv;split at h<;>first|(cases h;done)|skip
   rename_i m' hm;obtain⟨rfl,rfl⟩:=tf hm;exact I8 hT hv hx (hal _ hb) (hok _ hb) hsz hd (DZ.so hv) (IR v) hwd h
  .rename_i id ver lo tt v;split at h<;>first|(cases h;done)|skip
   rename_i u2 w0 ver' m' hv hm;obtain⟨rfl,rfl⟩:=tf hm;obtain⟨e2,h3⟩:=aC h;have hk1:=hok _ (aG (a:=V.sb id ver lo u v));obtain rfl:=WH (hal _ (aG (a:=V.sb id ver lo u v))) hv;exact I8 hT hv hx (hal _ hb) (hok _ hb) hsz hd (DZ.sb hk1 hv) ((hk1.2.2 _ _ _ (.inl hv)).2 rfl) hwd h3
 all_goals cases h
end
section
variable{P:Program}{o:Oper}{vs:List V}{s:S2}{β:Type}{k:V->S2->List Nat->Option β}{r:β}{d:Option Nat}{as args:List Operand}{g:Option (Nat×Bool)}{t0:Ty}{fi:List Nat}{t el:TypeId}{sz n:Nat}{x y:Operand}{h:H2}
theorem M3{S S' K:Nat->Prop}{w0 w:World}{φ:fM}{H:Hf}{ρ:Operand->Value}{t:Ty}{len N:Nat}{zc:List Value}(hI:Inv S K w0 φ H w)(hs:gC S w S' w)(hz:RT S' w t (pV t) zc):
  ∀{parts:List (Nat×Operand)}{ws:List V}{m:Nat}{l:List (El t)}{a:List Nat}{pW:List Value}{bz:Array Value},CR h t len m (parts.map (·.1)) ws=some (l,a)->Ar S w φ ρ (parts.map (·.2)) ws->(∀v∈ws,oN h v=true)->(∀v∈ws,dZ N h v)->(∀i∈a,H i=fO h i)->
   (∀b,SF S w φ H a b->S' b)->bz.toList=pW++(ay (len-m) zc).flatten->pW.length=m*df t->m<=len->
   ∃arr' e,Instr.fill (fun i=>some (i*df t,df t)) bz (parts.map fun p=>(p.1,ρ p.2))=some arr'/\arr'.toList=pW++e/\lC (RT S' w t) l e:=by
 intro parts;induction parts with
 |nil=>intro ws m l a pW bz h hr _ _ _ _ ha _ _;cases ws with|cons v ws=>exact hr.elim|nil=>obtain⟨rfl,rfl⟩:=ap (ac h);exact⟨bz,_,rfl,ha,Ai hz _⟩
 |cons p parts ih=>
  intro ws m l a pW bz hr har hal hok ha hS harr hpre hm;cases ws with
  |nil=>exact har.elim
  |cons v ws=>
   obtain⟨i,op⟩:=p;simp only[a_,CR]at hr;split at hr<;>first|(cases hr;done)|skip
   rename_i w1 a1 h1;split at hr<;>first|(cases hr;done)|skip
   rename_i y1 hy;obtain⟨e,h2⟩:=aC hr;simp only[aw,Nat.ble_eq,eA]at e;obtain⟨e1,e2⟩:=e;split at h2<;>first|(cases h2;done)|skip
   rename_i l1 b1 h3;obtain⟨rfl,rfl⟩:=ap (ac h2);obtain⟨c1,c2⟩:=(QZ h1 har.1).cells;have hc:=xg hy (zV hI hs h1 c1 (fun j hj=>ha j (by simp[hj])) (hal v (by simp)) (hok v (by simp)) fun b hb=>hS b ((SF.sub (by simp_all)).sub b hb));have hl:=hc.len;have hzl:=hz.len;have hrep:∀q,(ay q zc).flatten.length=q*df t:=fun q=>by simp[hzl]
   have hsplit:(ay (len-m) zc).flatten=(ay (i-m) zc).flatten++(zc++(ay (len-(i+1)) zc).flatten):=by rw[<-jW,<-eW,<-List.flatten_append,List.replicate_append_replicate];congr 2;omega
   have hoff:(pW++(ay (i-m) zc).flatten).length=i*df t:=by rw[aA,hpre,hrep,<-fW];congr 1;omega
   have hsz:bz.size=len*df t:=by have:=congrArg eK harr;rw[aA,hpre,hrep,<-fW,eY]at this;rw[this];congr 1;omega
   have hfit:i*df t+df t<=len*df t:=by rw[<-fj];exact ct _ e2
   have hcs:(ρ op).cells.size=df t:=by simpa using hl
   have hput:=Gx (ρ op).cells bz (i*df t) (by omega);have hnew:iF bz.toList (i*df t) (ρ op).cells.toList=(pW++(ay (i-m) zc).flatten++(ρ op).cells.toList)++(ay (len-(i+1)) zc).flatten:=by rw[harr,hsplit,<-aQ,<-hoff,<-aQ,ym (by rw[hl,hzl])]
   rw[hnew]at hput
   obtain⟨arr',e',q1,q2,q3⟩:=ih h3 har.2 (fun v hv=>hal v (by simp[hv])) (fun v hv=>hok v (by simp[hv])) (fun j hj=>ha j (by simp[hj])) (fun b hb=>hS b ((SF.sub (by simp_all)).sub b hb)) hput
    (by rw[aA,hoff,hl,fj]) (by omega)
   refine⟨arr',(ay (i-m) zc).flatten++((ρ op).cells.toList++e'),?_,by rw[q2];simp,?_⟩
   .simp only[a_,Instr.fill];rw[if_neg (by simp;omega)];exact q1
   .exact ki.2 ⟨_,_,rfl,Ai hz _,_,_,rfl,hc,q3⟩
theorem M4{t:Ty}{len:Nat}:∀{is:List Nat}{ws:List V}{m:Nat}{l:List (El t)}{a:List Nat},CR h t len m is ws=some (l,a)->m<=len->l.length=len-m:=by
 intro is;induction is with
 |nil=>
  intro ws m l a hr hm;cases ws<;>first|(cases hr;done)|skip
  obtain⟨rfl,rfl⟩:=ap (ac hr);simp
 |cons i is ih=>
  intro ws m l a hr hm;cases ws with
  |nil=>cases hr
  |cons v ws=>
   simp only[CR]at hr;split at hr<;>first|(cases hr;done)|skip
   split at hr<;>first|(cases hr;done)|skip
   obtain⟨e,h2⟩:=aC hr;simp only[aw,Nat.ble_eq,eA]at e;split at h2<;>first|(cases h2;done)|skip
   rename_i l1 b1 h3;obtain⟨rfl,rfl⟩:=ap (ac h2);have:=ih h3 (by omega);simp[this];omega
theorem BW{len m:Nat}{parts:Array (Nat×Operand)}{z:List Value}(ho:o.op=.buildSlice t len parts)(hu:P.underlying t=some (.slice el))(hsz:dG P el=some (m+1))(hz:gQ P el=some z)(hlim:len*(m+1)<=4096)(hzl:z.length=m+1)
  (hS:xI s.next s.heap) (hok:∀v∈vs,dZ s.next s.heap v) (hal:∀v∈vs,oN s.heap v=true)
  (h:part ⟨⟨d,.buildSlice (m+1) len ((aK (len*(m+1))).map fun i=>z.getD (i %(m+1)) undef) (parts.toList.map (·.1)),as,g⟩,t0,fi⟩ vs s k=some r):PR P o (parts.toList.map (·.2)) vs s k r:=by
 obtain⟨e,h2⟩:=aC (show(bif(df t0==m+1)&&tq ((ay len (xo t0)).flatten) ((aK (len*(m+1))).map fun i=>z.getD (i %(m+1)) undef)&&Bv t0 then
  (match CR s.heap t0 len 0 (parts.toList.map (·.1)) vs with
  |some (l,a)=>(match uv s.heap a s with|some s'=>k (.so s.next) (oH s' (.ar t0 (.mk l) 0)) a|none=>none)
  |none=>none)else none)=some r from h)
 simp only[aw,beq_iff_eq,Bv,eA]at e;obtain⟨⟨e1,e2⟩,e3,e4⟩:=e;split at h2<;>first|(cases h2;done)|skip
 rename_i l a hl;split at h2<;>first|(cases h2;done)|skip
 rename_i s' hs';obtain⟨uf,rfl,f1,f2⟩:=yJ hs';obtain⟨g1,g2⟩:=Dv hS f2;refine⟨.so s.next,(s.next,some (.ar t0 (.mk l) 0))::uf,s.next+1,a,?_,aO _,jS.cons (fun _ _=>.inl (aq _)) g1,aM _,fun p hp t c e=>?_,fun p hp=>?_,fun ρ S K w0 w φ H _ hI _ har hla hn=>?_⟩
 .rw [<-h2];simp only[Bm,oH,a_,d8]
 .rcases aI.1 hp with rfl|hp
  .cases e
  .exact absurd e ((g2 p hp).2 t c)
 .rcases aI.1 hp with rfl|hp
  .exact .inl ⟨aM _,trivial⟩
  .exact .inl ⟨by have:=(g2 p hp).1;omega,Ks (f2 p hp)⟩
 .have hF:=hI.Ku f1 f2 hla;have fe:gC S w (SF S w φ H a) w:=SF.Jl a;have hnx:=hn _ (aq _) (aM _);obtain⟨zv,hzr,hzv,_⟩:=sH hz w
  have hzz:z=xo t0\/len=0:=by
   rcases gR len with h0|h0
   .exact .inr h0
   .have:=vf e2;rw[xn hzl (lw _)]at this;obtain⟨q,rfl⟩:∃q,len=q+1:=⟨len-1,by omega⟩
    rw[eW,eW,jW,jW]at this;have hzt:(xo t0).length=m+1:=by rw[<-e1];exact(RT.ze (S:=S) (w:=w) e3).len
    exact .inl (List.append_inj this (by rw[hzt,hzl])).1.symm
  have hzero:∃zc:Array Value,(len*(m+1)=0->zc= #[])/\(¬len*(m+1)=0->zc=zv.cells)/\((pd (len*(m+1))).map (fun i=>zc[i %zc.size]!)).toList=[]++(ay (len-0) (xo t0)).flatten:=by
   by_cases hc:len*(m+1)=0
   .have hl0:len=0:=(Nat.mul_eq_zero.1 hc).resolve_right (by omega);subst hl0;exact⟨#[],fun _=>rfl,fun h=>absurd hc h,by simp⟩
   .refine ⟨zv.cells,fun h=>absurd h hc,fun _=>rfl,?_⟩;rw[yU hzv hzl (lw _),xn hzl (lw _),hzz.resolve_right (fun e=>hc (by simp[e]))];simp
  obtain⟨zc,hzc,hzc1,hzc2⟩:=hzero;obtain⟨arr',e',q1,q2,q3⟩:=M3 hI fe (RT.ze e3) hl har hal hok hla (fun b hb=>hb) hzc2 (by simp) (cp _);have hlen:=M4 hl (cp _);rw[Nat.sub_zero]at hlen;have hel:e'.length=len*df t0:=by rw[lC.len (fun _ _ _ h=>RT.len h) q3,hlen]
  have hD:=gO.bz (K:=K) (w0:=w0) (bz:=arr') hF hnx el e3 e4 q3 (e:=[]) (by simpa using q2) (cap:=len) (by omega) (by have:=congrArg eK q2;simp[hel]at this;omega);rw[hlen]at hD;rw[e1]at q1;have q1':Instr.fill (fun i=>some (i*(m+1),m+1)) ((pd (len*(m+1))).map (fun i=>zc[i %zc.size]!)) (parts.map fun p=>(p.1,ρ p.2)).toList=some arr':=by rw[<-q1];simp
  have hlim':¬len*(m+1)>2^24:=by omega
  refine⟨.value _,.slice (some ⟨w.heap.size,0,none⟩) len len,{w with heap:=w.heap.push (.cells arr' el)},?_,.inl rfl,?_⟩
  rotate_left
  .obtain ⟨a1,S',φ',a2,a3,a4,a5,a6⟩:=hD;exact⟨a1,S',φ',fe.trans a2,a3,a4,a5,by rw[<-mc,jA];exact a6⟩
  .simp only[execOp,ho,Sem.run_bind,Instr.buildSlice,bT hu,Result.andThen_ok,j8 hsz,if_neg hlim'];by_cases hc:len*(m+1)=0
   .rw [hzc hc]at q1';simp only[if_pos hc,Sem.run_bind,Sem.run_pure,Result.andThen_ok,q1',newRow,run_newObj]
   .rw [hzc1 hc]at q1';simp only[if_neg hc,Sem.run_bind,hzr,Sem.run_pure,Result.andThen_ok,q1',newRow,run_newObj]
theorem Xq{v:V}{t:Ty}{S:Nat->Prop}{w:World}{φ:fM}{y:Value}(h:dF v false t=true)(hx:RW S w φ v y):R1 S w φ v y:=by cases v<;>first|exact hx|(simp[dF]at h)
theorem Mm{S:Nat->Prop}{w:World}{φ:fM}{ρ:Operand->Value}{t:Ty}{v:V}{m:Nat}{op:Operand}{pW post:List Value}{bz:Array Value}{bh:List (Nat×Value)}(hf:dF v false t=true)(hr:RW S w φ v (ρ op))(harr:bz.toList=pW++post)(hpre:pW.length=m*df t)(hpost:df t<=post.length):
  ∃arr1,RC S w φ v (ρ op).cells.toList/\arr1.toList=(pW++(ρ op).cells.toList)++post.drop (df t)/\(ρ op).cells.toList.length=df t/\Instr.fill (fun i=>some (i*df t,df t)) bz ((m,ρ op)::bh)=Instr.fill (fun i=>some (i*df t,df t)) arr1 bh:=by
 obtain⟨hc,_⟩:=(Xq hf hr).cells;have hl:(ρ op).cells.toList.length=df t:=hc.len.trans (uZ v false t hf);have hcs:(ρ op).cells.size=df t:=by simpa using hl
 have hsz:bz.size=pW.length+post.length:=by rw[<-eY,harr,aA]
 have hput:=Gx (ρ op).cells bz (m*df t) (by omega)
 have hsp:iF bz.toList (m*df t) (ρ op).cells.toList=(pW++(ρ op).cells.toList)++post.drop (df t):=by
  rw[harr,<-hpre]
  conv=>lhs;rw[<-List.take_append_drop (df t) post,<-aQ]
  exact ym (by rw[hl,bV,Nat.min_eq_left hpost])
 rw[hsp]at hput;refine⟨_,hc,hput,hl,?_⟩;simp only[Instr.fill];rw[if_neg (by simp;omega)]
theorem RH{S:Nat->Prop}{w:World}{φ:fM}{ρ:Operand->Value}{t:Ty}(ht:GN t=1):∀{n:Nat}{parts:List (Nat×Operand)}{vs:List V}{m:Nat}{pW post:List Value}{bz:Array Value},dF (eO vs) true (Jo t n)=true->parts.map (·.1)=(List.range' m (n+1))->
  Ar S w φ ρ (parts.map (·.2)) vs->bz.toList=pW++post->pW.length=m*df t->post.length=(n+1)*df t->∃arr' c,Instr.fill (fun i=>some (i*df t,df t)) bz (parts.map fun p=>(p.1,ρ p.2))=some arr'/\arr'.toList=pW++c/\RC S w φ (eO vs) c:=by
 intro n;induction n with
 |zero=>
  intro parts vs m pW post bz hf hp har harr hpre hpost
  match parts,vs,hp,har with
  |[(i,op)],[v],hp,har=>
   obtain rfl:i=m:=by simpa using hp
   have hf1:dF v false t=true:=by have:dF (.co v .ni) true t=true:=hf;cases t<;>first|exact this|(simp[GN]at ht;rename_i a a2;cases a2<;>simp[GN]at ht)
   obtain⟨arr1,a1,a2,a3,a4⟩:=Mm (bh:=[]) hf1 har.1 harr hpre (by omega);refine⟨arr1,(ρ op).cells.toList,by rw[a_,List.map_nil,a4];rfl,?_,_,[],by simp,a1,rfl⟩;rw[a2,List.drop_eq_nil_of_le (by omega),List.append_nil]
  |[],_,hp,_=>simp at hp
  |(_::_::_),_,hp,_=>simp at hp
 |succ n ih=>
  intro parts vs m pW post bz hf hp har harr hpre hpost
  match parts,vs,hp,har with
  |(i,op)::parts,v::vs,hp,har=>
   rw[List.range'_succ]at hp;obtain⟨rfl,hp2⟩:i=m/\parts.map (·.1)=List.range' (m+1) (n+1):=by simpa using hp
   have hf2:(dF v false t&&dF (eO vs) true (Jo t n))=true:=by cases hvs:eO vs<;>(rw[show eO (v::vs)=.co v (eO vs)from rfl,hvs]at hf;exact hf)
   simp only[aw]at hf2;have hge:df t<=post.length:=by rw[hpost,fj];omega
   obtain⟨arr1,a1,a2,a3,a4⟩:=Mm (bh:=parts.map fun p=>(p.1,ρ p.2)) hf2.1 har.1 harr hpre hge;obtain⟨arr',c,b1,b2,b3⟩:=ih hf2.2 hp2 har.2 a2 (by rw[aA,hpre,a3,fj]) (by rw[List.length_drop,hpost,fj (n+1)];omega);exact⟨arr',(ρ op).cells.toList++c,by rw[a_,a4,b1],by rw[b2,aQ],_,_,rfl,a1,b3⟩
  |[],_,hp,_=>simp at hp
theorem XH{t:Ty}:∀{n},GN (Jo t n)=n+1->GN t=1:=by
 have key:∀n,GN (Jo t n)=n+GN t:=by intro n;induction n with|zero=>simp[Jo]|succ n ih=>simp only[Jo,GN,ih];omega
 intro n h;rw[key]at h;omega
theorem Nh{len m:Nat}{parts:Array (Nat×Operand)}{z zs:List Value}(ho:o.op=.buildSlice t len parts)(hu:P.underlying t=some (.slice el))(hsz:dG P el=some (m+1))(hz:gQ P el=some z)(hlim:len*(m+1)<=4096)(hzl:z.length=m+1)
  (hok:∀v∈vs,dZ s.next s.heap v) (h:part ⟨⟨d,.XO (m+1) len zs (parts.toList.map (·.1)),as,g⟩,t0,fi⟩ vs s k=some r):PR P o (parts.toList.map (·.2)) vs s k r:=by
 cases len with
 |zero=>cases h
 |succ n=>
  obtain⟨e,h2⟩:=aC (show(bif(df t0==m+1)&&decide (parts.toList.map (·.1)=aK (n+1))&&dF (.rc (eO vs)) false (.st (Jo t0 n))&&Nat.beq (GN (Jo t0 n)) (n+1)&&Nat.blt 0 (m+1)then k (.vs s.next (.st (Jo t0 n))) (oH s (.bx (.st (Jo t0 n)) (.rc (eO vs)))) []else none)=some r from h);simp only[aw,beq_iff_eq,decide_eq_true_eq]at e;obtain⟨⟨⟨⟨e1,e2⟩,e3⟩,e4⟩,_⟩:=e;have e4:=Nat.eq_of_beq_eq_true e4;refine PR.new h2 (aM _) (fun t c e=>?_) fun ρ S K w0 w φ H _ hI _ har _ hn=>?_
  .cases e;exact F3 fun v hv=>dQ (aO _) (LU _) (hok v hv)
  .obtain ⟨zv,hzr,hzv,_⟩:=sH hz w;have hc:¬(n+1)*(m+1)=0:=by simp
   have hlim':¬(n+1)*(m+1)>2^24:=by omega
   have hzs:=yU (n:=(n+1)*(m+1)) hzv hzl (lw _);obtain⟨arr',c,q1,q2,q3⟩:=RH (S:=S) (w:=w) (φ:=φ) (ρ:=ρ) (t:=t0) (XH e4) (n:=n) (parts:=parts.toList) (vs:=vs) (m:=0) (pW:=[]) (bz:=(pd ((n+1)*(m+1))).map (fun i=>zv.cells[i %zv.cells.size]!)) e3 (by rw[e2,List.range_eq_range']) har rfl (by simp) (by simp[e1]);rw[e1]at q1;have q1':Instr.fill (fun i=>some (i*(m+1),m+1)) ((pd ((n+1)*(m+1))).map (fun i=>zv.cells[i %zv.cells.size]!)) (parts.map fun p=>(p.1,ρ p.2)).toList=some arr':=by rw[<-q1];simp
   refine⟨.value _,.slice (some ⟨w.heap.size,0,none⟩) (n+1) (n+1),{w with heap:=w.heap.push (.cells arr' el)},?_,.inl rfl,?_⟩
   .simp only[execOp,ho,Sem.run_bind,Instr.buildSlice,bT hu,Result.andThen_ok,j8 hsz,if_neg hlim',if_neg hc,hzr,Sem.run_pure,q1',newRow,run_newObj]
   .refine gO.new hI hn (l:=⟨w.heap.size,0,arr'.size,0,.st (Jo t0 n),none⟩) (fun _ _ _ h=>by cases h;rfl) rfl (fun hs=>⟨rfl,e3,arr',qY w arr' el,?_⟩) rfl (R1.rw (R1.wC ⟨_,fg _ _ _,rfl,by simp only[nfT,e4]⟩ rfl));rw[q2,List.nil_append];exact RC.mono hs (mg _ hn) q3
def Ox(h:H2)(u:ri):Prop:=∃id kT vT m q,fO h id=some (.mp kT vT m)/\u=[(id,some (.mp kT vT (lG m (pV vT) q).1))]
theorem PR.acf{v:V}{x1 x0:O}{id:Nat}{l:List Nat}(he:Ox s.heap [(id,some x1)])(hid:id<s.next)(hv:fO s.heap id=some x0)(hk:k v (g_ s id (some x1)) l=some r)(fe:BK x0 x1)(hok:∀{n h},dZ n h v)
  (hrun:∀(ρ:Operand->Value)(S K:Nat->Prop)(w0 w:World)(φ:fM)(H:Hf),Inv S K w0 φ H w->uE φ s.heap->Ar S w φ ρ args vs->(∀i∈l,H i=fO s.heap i)->fL P o ρ S K w0 w φ H s.next s.next v [(id,some x1)]) (hln:AT s.next (some x1):=by trivial):∃v u n' l,k v (Bm s u n') l=some r/\KV P o args vs s v u n' l/\Ox s.heap u:=by
 refine⟨v,[(id,some x1)],s.next,l,hk,⟨aq _,jS.cons (fun o' e=>.inr (.inr ⟨_,hv,by cases e;exact fe⟩)) jS.nil,hok,fun p hp t c e=>?_,fun p hp=>?_,fun ρ S K w0' w φ H _ hI hsh har hl hn=>hrun ρ S K w0' w φ H hI hsh har hl⟩,he⟩
 .obtain rfl:=az.1 hp;cases e;cases x0<;>exact fe.elim
 .obtain rfl:=az.1 hp;exact .inl ⟨hid,hln⟩
theorem PR.Yg{v:V}{x1 x0:O}{id:Nat}{l:List Nat}(hid:id<s.next)(hv:fO s.heap id=some x0)(hk:k v (g_ s id (some x1)) l=some r)(fe:BK x0 x1)(hok:∀{n h},dZ n h v)
  (hrun:∀(ρ:Operand->Value)(S K:Nat->Prop)(w0 w:World)(φ:fM)(H:Hf),Inv S K w0 φ H w->uE φ s.heap->Ar S w φ ρ args vs->(∀i∈l,H i=fO s.heap i)->fL P o ρ S K w0 w φ H s.next s.next v [(id,some x1)]) (hln:AT s.next (some x1):=by trivial):PR P o args vs s k r:=by
 refine⟨v,[(id,some x1)],s.next,l,hk,aq _,jS.cons (fun o' e=>.inr (.inr ⟨_,hv,by cases e;exact fe⟩)) jS.nil,hok,fun p hp t c e=>?_,fun p hp=>?_,fun ρ S K w0' w φ H _ hI hsh har hl hn=>hrun ρ S K w0' w φ H hI hsh har hl⟩
 .obtain rfl:=az.1 hp;cases e;cases x0<;>exact fe.elim
 .obtain rfl:=az.1 hp;exact .inl ⟨hid,hln⟩
variable{kt et:TypeId}{ka va:Bool}{ks:List Kd}{z:List Value}{m ix:Operand}
theorem Eo(ho:o.op=.mapEntry t m ix)(hu:P.underlying t=some (.map kt et))(hM:Sc P kt et ka ks va z)(hok:∀v∈vs,dZ s.next s.heap v)
  (h:part ⟨⟨d,.mapEntry ka ks va z,as,g⟩,t0,fi⟩ vs s k=some r):∃v u n' l,k v (Bm s u n') l=some r/\KV P o [m,ix] vs s v u n' l/\Ox s.heap u:=by
 rcases vs with _|⟨a,_|⟨b,_|⟨c,vr⟩⟩⟩
 case cons.cons.nil=>
  cases a<;>first|(cases h;done)|skip
  rename_i id;change (match fO s.heap id with|some (.mp kt vt m)=>_|_=>none)=_ at h;split at h<;>first|(cases h;done)|skip
  rename_i kT vT mp hv;split at h<;>first|(cases h;done)|skip
  rename_i q hq;have e:=(aC h).1
  replace h:=(aC h).2
  simp only[aw,beq_iff_eq,decide_eq_true_eq,Bool.or_eq_true]at e;obtain⟨⟨⟨⟨⟨e1,e2⟩,e3⟩,e4⟩,e5⟩,e6⟩:=e;subst e1;subst e2;refine PR.acf ⟨id,kT,vT,mp,q,hv,rfl⟩ (hok (.om id) aG) hv h trivial ⟨trivial,trivial,trivial⟩ fun ρ S K w0 w φ H hI _ har hl=>?_;obtain⟨l1,k1,k2⟩:=R1.fT (v:=.om id) har.1;obtain⟨c,q1,q2,_⟩:=r_ hq har.2.1;exact HT ho hu ⟨hM.ag,hM.ks,e3,q1⟩ hM.ze hM.za (vf e4) e5 hI (aB k2).1 q2 ((hl id (by simp)).trans hv) k1
 case cons.cons.cons=>cases a<;>cases h
 case cons.nil=>cases a<;>cases h
 all_goals cases h
theorem HE{c:oy}{kt2:TypeId}(ho:o.op=.call c)(hcal:c.callee=.builtin .delete)(hargs:c.args= #[m,ix])(hts:c.argTypes= #[t,kt2])(hu:P.underlying t=some (.map kt et))(hM:Sc P kt et ka ks va z)(hok:∀v∈vs,dZ s.next s.heap v)
  (h:part ⟨⟨d,.Kk ka ks,as,g⟩,t0,fi⟩ vs s k=some r):PR P o [m,ix] vs s k r:=by
 rcases vs with _|⟨a,_|⟨b,_|⟨c,vr⟩⟩⟩
 case cons.cons.nil=>
  cases a<;>first|(cases h;done)|skip
  rename_i id;change (match fO s.heap id with|some (.mp kt vt m)=>_|_=>none)=_ at h;split at h<;>first|(cases h;done)|skip
  rename_i kT vT mp hv;split at h<;>first|(cases h;done)|skip
  rename_i q hq;have e:=(aC h).1
  replace h:=(aC h).2
  simp only[aw,beq_iff_eq,decide_eq_true_eq]at e;obtain⟨e1,e3⟩:=e;subst e1;refine PR.Yg (hok (.om id) aG) hv h trivial trivial fun ρ S K w0 w φ H hI _ har hl=>?_;obtain⟨l1,k1,k2⟩:=R1.fT (v:=.om id) har.1;obtain⟨c,q1,q2,_⟩:=r_ hq har.2.1;exact Nn ho hcal hargs hts hu ⟨hM.ag,hM.ks,e3,q1⟩ hI (aB k2).1 q2 ((hl id (by simp)).trans hv) k1
 case cons.cons.cons=>cases a<;>cases h
 case cons.nil=>cases a<;>cases h
 all_goals cases h
theorem HA{xx:Operand}{n:Nat}(ho:o.op=.mapUpdate t m ix xx)(hu:P.underlying t=some (.map kt et))(hM:Sc P kt et ka ks va z)(hok:∀v∈vs,dZ s.next s.heap v)
  (h:part ⟨⟨d,.Kj ka ks va n,as,g⟩,t0,fi⟩ vs s k=some r):PR P o [m,ix,xx] vs s k r:=by
 rcases vs with _|⟨a,_|⟨b,_|⟨c,_|⟨e,vr⟩⟩⟩⟩
 case cons.cons.cons.nil=>
  cases a<;>first|(cases h;done)|skip
  rename_i id;change (match fO s.heap id with|some (.mp kt vt m)=>_|_=>none)=_ at h;split at h<;>first|(cases h;done)|skip
  rename_i kT vT mp hv;split at h<;>first|(cases h;done)|skip
  rename_i q hq;split at h<;>first|(cases h;done)|skip
  rename_i y1 hy;have e:=(aC h).1
  replace h:=(aC h).2
  simp only[aw,beq_iff_eq,decide_eq_true_eq]at e;obtain⟨⟨⟨⟨e1,e2⟩,e3⟩,e4⟩,e5⟩:=e;subst e1;subst e2;refine PR.Yg (hok (.om id) aG) hv h trivial trivial fun ρ S K w0 w φ H hI _ har hl=>?_;obtain⟨l1,k1,k2⟩:=R1.fT (v:=.om id) har.1;obtain⟨c,q1,q2,_⟩:=r_ hq har.2.1;obtain⟨c2,q3,q4,_⟩:=r_ hy har.2.2.1;exact Nm ho hu ⟨hM.ag,hM.ks,e3,q1⟩ hI (aB k2).1 q2 q4 q3 ((hl id (by simp)).trans hv) k1
 case cons.cons.cons.cons=>cases a<;>cases h
 case cons.nil=>cases a<;>cases h
 case cons.cons.nil=>cases a<;>cases h
 all_goals cases h
theorem BV{st xx:Operand}{n:Nat}(ho:o.op=.entryStore t m st xx)(hok:∀v∈vs,dZ s.next s.heap v)
  (h:part ⟨⟨d,.entryStore va n,as,g⟩,t0,fi⟩ vs s k=some r):PR P o [m,st,xx] vs s k r:=by
 rcases vs with _|⟨a,_|⟨b,_|⟨c,_|⟨e,vr⟩⟩⟩⟩
 case cons.cons.cons.nil=>
  cases a<;>first|(cases h;done)|skip
  rename_i id;cases b<;>first|(cases h;done)|skip
  rename_i tb b;cases tb<;>first|(cases h;done)|skip
  rename_i kk;change (match fO s.heap id with|some (.mp kt vt m)=>_|_=>none)=_ at h;split at h<;>first|(cases h;done)|skip
  rename_i kT vT mp hv;split at h<;>first|(cases h;done)|skip
  rename_i y1 hy;have e:=(aC h).1
  replace h:=(aC h).2
  obtain⟨mp',hm,h2⟩:=tn h;refine PR.Yg (hok (.om id) aG) hv h2 trivial trivial fun ρ S K w0 w φ H hI _ har hl=>?_;obtain⟨l1,k1,k2⟩:=R1.fT (v:=.om id) har.1;obtain⟨c2,q3,q4,_⟩:=r_ hy har.2.2.1;exact Er ho hI (aB k2).1 (R1.int har.2.1) q4 q3 ((hl id (by simp)).trans hv) k1 hm
 case cons.cons.cons.cons=>
  cases a<;>first|(cases h;done)|skip
  cases b<;>first|(cases h;done)|skip
  rename_i tb b;cases tb<;>cases h
 case cons.nil=>cases a<;>cases h
 case cons.cons.nil=>
  cases a<;>first|(cases h;done)|skip
  cases b<;>first|(cases h;done)|skip
  rename_i tb b;cases tb<;>cases h
 all_goals cases h
end
section
variable{P:Program}{o:Oper}{vs:List V}{s:S2}{β:Type}{kk:V->S2->List Nat->Option β}{r:β}{d:Option Nat}{as args:List Operand}{g:Option (Nat×Bool)}{t0:Ty}{fi:List Nat}{aR:Cu}{k:Ev.K}
theorem zA{n:Nat}(hn:∀(q:List V),q.length≠n->part ⟨⟨d,k,as,g⟩,t0,fi⟩ q s kk=none)(h:part ⟨⟨d,k,as,g⟩,t0,fi⟩ vs s kk=some r):vs.length=n:=by
 by_cases e:vs.length=n
 .exact e
 .rw [hn vs e]at h;cases h
theorem Di{α:Type}{l:List α}(h:l.length=2):∃x y,l=[x,y]:=by
 match l,h with|[x,y],_=>exact⟨x,y,rfl⟩
theorem Qz{α:Type}{l:List α}(h:l.length=1):∃x,l=[x]:=by
 match l,h with|[x],_=>exact⟨x,rfl⟩
def Fg:Ev.K->Bool
 |.mapEntry _ _ _ _=>true
 |_=>false
def XZ(k:Ev.K)(P:Program)(o:Oper)(args:List Operand)(vs:List V)(s:S2){β:Type}(kk:V->S2->List Nat->Option β)(r:β):Prop:=∃v u n' l,kk v (Bm s u n') l=some r/\KV P o args vs s v u n' l/\(2<=B1 k\/u=[]/\l=[]/\n'=s.next)/\(Fg k=true->Ox s.heap u)
theorem PR.hi(h:PR P o args vs s kk r)(hc:2<=B1 k)(he:Fg k=false:=by rfl):XZ k P o args vs s kk r:=let⟨v,u,n',l,h1,h2⟩:=h;⟨v,u,n',l,h1,h2,.inl hc,fun e=>by rw[he]at e;cases e⟩
theorem D1.lo(h:D1 P o args vs s kk r)(he:Fg k=false:=by rfl):XZ k P o args vs s kk r:=let⟨v,h1,h2⟩:=h;⟨v,[],s.next,[],h1,h2,.inr ⟨rfl,rfl,rfl⟩,fun e=>by rw[he]at e;cases e⟩
theorem FU{b:Builtin}{c:oy}(ho:o.op=.call c)(hcal:c.callee=.builtin b)(hk:jR P b c.args.toList c.argTypes.toList=(k,args))(hS:xI s.next s.heap)(hok:∀v∈vs,dZ s.next s.heap v)(hal:∀v∈vs,oN s.heap v=true)
  (hl:args.length=vs.length) (h:part ⟨⟨d,k,as,g⟩,t0,fi⟩ vs s kk=some r):XZ k P o args vs s kk r:=by
 have fw:(Ev.K.fw,([]:List Operand))=(k,args)->XZ k P o args vs s kk r:=by intro e;obtain⟨rfl,rfl⟩:=ap e;cases h
 have two:∀{k:Ev.K},(∀(q:List V),q.length≠2->part ⟨⟨d,k,as,g⟩,t0,fi⟩ q s kk=none)->part ⟨⟨d,k,as,g⟩,t0,fi⟩ vs s kk=some r->vs.length=2:=fun hn h=>zA hn h;unfold jR at hk;split at hk
 .skip;(repeat' split at hk)<;>(obtain⟨rfl,rfl⟩:=ap hk;cases h)
 .obtain ⟨rfl,rfl⟩:=ap hk;cases h
 .obtain ⟨rfl,rfl⟩:=ap hk;cases h
 .rename_i st xt hts;split at hk
  .rename_i hus hux;split at hk
   .rename_i m z hsz hz;split at hk
    .rename_i hb;obtain⟨rfl,rfl⟩:=ap hk;have h2:vs.length=2:=zA (fun q hq=>by rcases q with _|⟨a,_|⟨b,_|⟨c,q⟩⟩⟩<;>first|rfl|exact absurd rfl hq) h;obtain⟨x,y,hxy⟩:=Di (hl.trans h2);rw[hxy];exact(HG ⟨⟨c,st,xt,_,ho,hcal,uI hxy,uI hts,hus,hux⟩,hsz,hz,hb.2,hb.1⟩ id hok hal h).hi (aq _)
    .exact fw hk
   .exact fw hk
  .skip;(repeat' split at hk)<;>(obtain⟨rfl,rfl⟩:=ap hk;cases h)
  .exact fw hk
 .skip;(repeat' split at hk)<;>(obtain⟨rfl,rfl⟩:=ap hk;cases h)
 .rename_i dt xt hts;split at hk
  .rename_i hud;split at hk
   .rename_i hsz;obtain⟨rfl,rfl⟩:=ap hk;have h2:vs.length=2:=zA (fun q hq=>by rcases q with _|⟨a,_|⟨b,_|⟨c,q⟩⟩⟩<;>first|rfl|exact absurd rfl hq) h;obtain⟨x,y,hxy⟩:=Di (hl.trans h2);rw[hxy];exact(Ng ⟨⟨c,dt,xt,ho,hcal,uI hxy,uI hts,hud⟩,hsz⟩ hS hok hal h).hi (aq _)
   .exact fw hk
  .exact fw hk
 .rename_i mt kt hts;split at hk
  .rename_i hu;split at hk
   .rename_i hm;obtain⟨rfl,rfl⟩:=ap hk;have h2:vs.length=2:=zA (fun q hq=>by rcases q with _|⟨a,_|⟨b,_|⟨c,q⟩⟩⟩<;>first|rfl|exact absurd rfl hq|(cases a<;>rfl)) h;obtain⟨x,y,hxy⟩:=Di (hl.trans h2);rw[hxy];exact(HE ho hcal (uI hxy) (uI hts) hu (xC hm) hok h).hi (aq _)
   .exact fw hk
  .exact fw hk
 .rename_i st hts;split at hk
  .rename_i hu;split at hk
   .rename_i hsz hz;split at hk
    .rename_i hzl;obtain⟨rfl,rfl⟩:=ap hk;have h2:vs.length=1:=zA (fun q hq=>by rcases q with _|⟨a,_|⟨b,q⟩⟩<;>first|rfl|exact absurd rfl hq) h;obtain⟨x,hxy⟩:=Qz (hl.trans h2);rw[hxy];exact(JZ ho hcal (xA hxy) (xA hts) hu hz hzl hok h).hi (aq _)
    .exact fw hk
   .exact fw hk
  .exact fw hk
 .exact fw hk
theorem JT(hk:yg P aR o.op=(k,args))(hp:yG k=false)(hS:xI s.next s.heap)(hok:∀v∈vs,dZ s.next s.heap v)(hal:∀v∈vs,oN s.heap v=true)(hl:args.length=vs.length)
  (h:part ⟨⟨d,k,as,g⟩,t0,fi⟩ vs s kk=some r):XZ k P o args vs s kk r:=by
 have fw:(Ev.K.fw,([]:List Operand))=(k,args)->XZ k P o args vs s kk r:=by intro e;obtain⟨rfl,rfl⟩:=ap e;cases h
 generalize hop:o.op=op at hk;unfold yg at hk;split at hk
 .obtain ⟨rfl,rfl⟩:=ap hk;cases h
 .obtain ⟨rfl,rfl⟩:=ap hk;cases h
 .obtain ⟨rfl,rfl⟩:=ap hk;cases hp
 .split at hk
  .rename_i hz;obtain⟨rfl,rfl⟩:=ap hk;exact(J0 hop hz h).hi (aq _)
  .exact fw hk
 .obtain ⟨rfl,rfl⟩:=ap hk;exact(PY hop hok h).hi (aq _)
 .skip;(repeat' split at hk)<;>(obtain⟨rfl,rfl⟩:=ap hk;cases h)
 .split at hk
  .rename_i hu;split at hk
   .rename_i hsz hz;split at hk
    .rename_i hc;obtain⟨rfl,rfl⟩:=ap hk;exact(Nh hop hu hsz hz hc.1 hc.2.1 hok h).hi (aq _)
    .split at hk
     .rename_i hc;obtain⟨rfl,rfl⟩:=ap hk;exact(BW hop hu hsz hz hc.1 hc.2 hS hok hal h).hi (aq _)
     .exact fw hk
   .exact fw hk
  .exact fw hk
 .split at hk
  .rename_i hag hs;split at hk
   .rename_i hcc;obtain⟨rfl,rfl⟩:=ap hk;obtain⟨_,_,rfl,rfl⟩:=hcc;exact(JX hop hag hs hok h).hi (aq _)
   .obtain ⟨rfl,rfl⟩:=ap hk;cases h
  .exact fw hk
 .split at hk
  .rename_i hs;obtain⟨rfl,rfl⟩:=ap hk;exact(JS hop hs hS hok hal h).hi (aq _)
  .exact fw hk
 .obtain ⟨rfl,rfl⟩:=ap hk;cases h
 .unfold vV at hk
  have cn:∀{kind:Nat}{neg:Bool}{x y:Operand},ou kind neg x y=(k,args)->XZ k P o args vs s kk r:=by
   intro kind neg x y hk;unfold ou at hk
   (repeat' split at hk)<;>(obtain⟨rfl,rfl⟩:=ap hk;cases h)
  split at hk
  .skip;(repeat' split at hk)<;>first|exact cn hk|(obtain⟨rfl,rfl⟩:=ap hk;cases h)
  .skip;(repeat' split at hk)<;>first|exact cn hk|(obtain⟨rfl,rfl⟩:=ap hk;cases h)
  .obtain ⟨rfl,rfl⟩:=ap hk;exact(PZ hop h).lo
 .obtain ⟨rfl,rfl⟩:=ap hk;cases h
 .skip;(repeat' split at hk)<;>(obtain⟨rfl,rfl⟩:=ap hk;cases h)
 .skip;(repeat' split at hk)<;>(obtain⟨rfl,rfl⟩:=ap hk;cases h)
 .split at hk
  .rename_i hu;split at hk
   .rename_i n0 z hs hz;split at hk
    .rename_i hc;split at hk
     .rename_i m hn;obtain⟨rfl,rfl⟩:=ap hk
      have hz1:Dp z=true:=by
       unfold VG at hn;split at hn
       .rename_i hq;exact hq.2
       .cases hn
      exact(JW hop hu hs hz hc.1 hc.2 hz1 h).hi (aq _)
     .obtain ⟨rfl,rfl⟩:=ap hk;exact(C5 hop hu hs hz hc.1 hc.2 h).hi (aq _)
    .exact fw hk
   .exact fw hk
  .exact fw hk
 .split at hk
  .rename_i hu;obtain⟨rfl,rfl⟩:=ap hk;exact(Hz hop hu hl h).lo
  .rename_i hu;split at hk
   .rename_i hs;obtain⟨rfl,rfl⟩:=ap hk;exact(JU hop hu hs hok hal hl h).lo
   .exact fw hk
  .exact fw hk
 .skip;(repeat' split at hk)<;>(obtain⟨rfl,rfl⟩:=ap hk;cases h)
 .skip;(repeat' split at hk)<;>(obtain⟨rfl,rfl⟩:=ap hk;cases h)
 .skip;(repeat' split at hk)<;>(obtain⟨rfl,rfl⟩:=ap hk;cases h)
 .split at hk
  .rename_i hu;split at hk
   .rename_i hs;split at hk
    .obtain ⟨rfl,rfl⟩:=ap hk;cases h
    .obtain ⟨rfl,rfl⟩:=ap hk;exact(C6 hop hu hs hok h).lo
   .exact fw hk
  .rename_i hu;split at hk
   .rename_i hs;obtain⟨rfl,rfl⟩:=ap hk;exact(BU hop hu hs hok h).lo
   .exact fw hk
  .exact fw hk
 .split at hk
  .rename_i hu;obtain⟨rfl,rfl⟩:=ap hk;exact(Ep hop hu h).lo
  .rename_i hu;split at hk
   .rename_i hag hs;obtain⟨rfl,rfl⟩:=ap hk;exact(JY hop hu hag hs h).lo
   .exact fw hk
  .exact fw hk
 .obtain ⟨rfl,rfl⟩:=ap hk;cases h
 .split at hk
  .rename_i kt et hu;split at hk
   .obtain ⟨rfl,rfl⟩:=ap hk;exact(FT (kt:=kt) (et:=et) hop h).hi (aq _)
   .exact fw hk
  .exact fw hk
 .skip;(repeat' split at hk)<;>(obtain⟨rfl,rfl⟩:=ap hk;cases h)
 .split at hk
  .rename_i hu;split at hk
   .rename_i hm;obtain⟨rfl,rfl⟩:=ap hk;obtain⟨v,u,n',l,h1,h2,h3⟩:=Eo hop hu (xC hm) hok h;exact⟨v,u,n',l,h1,h2,.inl (aq _),fun _=>h3⟩
   .exact fw hk
  .exact fw hk
 .split at hk
  .rename_i hu;split at hk
   .rename_i hm;obtain⟨rfl,rfl⟩:=ap hk;exact(HA hop hu (xC hm) hok h).hi (aq _)
   .exact fw hk
  .exact fw hk
 .split at hk
  .rename_i hu;split at hk
   .rename_i hm;obtain⟨rfl,rfl⟩:=ap hk;exact(BV hop hok h).hi (aq _)
   .exact fw hk
  .exact fw hk
 .rename_i c;split at hk
  .rename_i hcal;exact FU hop hcal hk hS hok hal hl h
  .skip;(repeat' split at hk)<;>(obtain⟨rfl,rfl⟩:=ap hk;cases h)
  .obtain ⟨rfl,rfl⟩:=ap hk;cases h
  .exact fw hk
 .exact fw hk
end
abbrev kN:=Nat->Option V
def V7(E:kN)(a:Operand)(v:V):Prop:=v=.gn\/match a,v with|.tmp t,v=>E t=some v|.const c,v=>Yb c=some v|.global g,v=>Uc g=some v|.func f,v=>v=.fn true f .ni
def Ji(E:kN):List Operand->List V->Prop
 |[],[]=>True
 |a::r,v::vs=>V7 E a v/\Ji E r vs
 |_,_=>False
def EK(E:kN)(g:Nat):Option Bool:=match E g with|some (.kb c)=>some c|some (.x .b c)=>some c|_=>none
def lY(E:kN):Option (Nat×Bool)->Option Bool
 |none=>some true
 |some (g,b)=>match E g with|some (.kb c)=>some (c==b)|some (.x .b c)=>some (c==b)|some .no=>some false|_=>none
def nQ(E:kN)(d:Option Nat)(v:V):kN:=fun t=>if d=some t then some v else E t
def gV(S:Nat->Prop)(w:World)(φ:fM)(E:kN)(tmps:Array Value):Prop:=∀t v,E t=some v->RW S w φ v (tmps.getD t undef)
def abV(P:Program)(o:Oper)(a:Act)(S K:Nat->Prop)(w0 w:World)(φ:fM)(H:Hf)(n n':Nat)(v:V)(u:ri):Prop:=∀(next:Act->World->Prop)(Q:Exit->Act->World->Prop),(∀val w',gO S K w0 w φ H n n' v u val w'->next (a.put o.dst val) w')->o.wp P a w next Q
def Sf(P:Program)(o:Oper)(args:List Operand)(vs:List V)(G:H2)(n n':Nat)(v:V)(u:ri)(l:List Nat):Prop:=∀(a:Act)(S K:Nat->Prop)(w0 w:World)(φ:fM)(H:Hf),Inv S K w0 φ H w->uE φ G->Ar S w φ a.eval args vs->(∀i∈l,H i=fO G i)->(∀j,n<=j->j<n'->φ j=none)->abV P o a S K w0 w φ H n n' v u
structure Bj(P:Program)(o:Oper)(args:List Operand)(vs:List V)(h:H2)(n n':Nat)(v:V)(u:ri)(l:List Nat):Prop where
 le:n<=n'
 Jk:jS n h u
 okv:dZ n' (u++h) v
 bx:∀p∈u,∀t c,p.2=some (.bx t c)->dZ n' (u++h) c
 lt:∀p∈u,X1 n' p
 Oo:Sf P o args vs h n n' v u l
section
variable{P:Program}{o:Oper}{vs:List V}{s:S2}{S K:Nat->Prop}{w0 w w':World}{φ φ':fM}{H:Hf}{a:Act}{n n':Nat}{v:V}{u:ri}{l:List Nat}{args:List Operand}{E:kN}{aR:Cu}{nt:Nat}
theorem fL.Xn(h:fL P o a.eval S K w0 w φ H n n' v u):abV P o a S K w0 w φ H n n' v u:=by
 intro next Q hn
 obtain⟨nx,val,w',hr,hx,hd⟩:=h;unfold Oper.wp;rw[hr];rcases hx with rfl|⟨rfl,rfl⟩
 .exact hn _ _ hd
 .exact hn _ _ hd
theorem KV.acj(h:KV P o args vs s v u n' l):Bj P o args vs s.heap s.next n' v u l:=⟨h.1,h.2.1,h.2.2.1,h.2.2.2.1,h.2.2.2.2.1,fun a S K w0 w φ H h1 h2 h3 h4 h5=>(h.2.2.2.2.2 a.eval S K w0 w φ H (fun _=>rfl) h1 h2 h3 h4 h5).Xn⟩
theorem gV.mono{S':Nat->Prop}{t:Array Value}(h:gV S w φ E t)(hs:gC S w S' w')(hr:Ren φ φ'):gV S' w' φ' E t:=fun i v hv=>(h i v hv).mono hs hr
theorem abG{c:Value}{v:V}(h:Yb c=some v):RW S w φ v c:=by
 unfold Yb at h;split at h<;>first|(cases h;done)|(cases h;exact⟨[_],rfl,rfl⟩)|skip
 .cases h;exact⟨[_],⟨_,rfl,.inl rfl⟩,rfl⟩
 .rename_i cs;split at h
  .rename_i hp;cases h;exact⟨cs.toList,⟨rfl,hp⟩,by simp[xF]⟩
  .cases h
theorem V7.rw{x:Operand}(h:V7 E x v)(hE:gV S w φ E a.tmps)(hg:D2 S w):RW S w φ v (a.eval x):=by
 rcases h with rfl|h
 .trivial
 cases x with|tmp t=>exact hE t v h|const c=>exact abG h|global g=>obtain⟨h1,h2,h3,h4,h5⟩:=hg g v h;refine R1.rw ⟨_,h1.mono (gC.refl _ _) (fun i l h=>by cases h),?_⟩;rw[h2];rfl|func f=>obtain rfl:v=.fn true f .ni:=h;exact⟨[.func (.func f) #[] #[]],⟨[],rfl,rfl⟩,rfl⟩
theorem Ji.ar:∀{xs:List Operand}{vs:List V},Ji E xs vs->gV S w φ E a.tmps->D2 S w->Ar S w φ a.eval xs vs:=by
 intro xs;induction xs with
 |nil=>intro vs h _ _;cases vs<;>first|trivial|exact h.elim
 |cons x xs ih=>intro vs h hE hg;cases vs with|nil=>exact h.elim|cons v vs=>exact⟨h.1.rw hE hg,ih h.2 hE hg⟩
theorem Ji.len:∀{xs:List Operand}{vs:List V},Ji E xs vs->xs.length=vs.length:=by
 intro xs;induction xs with
 |nil=>intro vs h;cases vs<;>first|rfl|exact h.elim
 |cons x xs ih=>intro vs h;cases vs with|nil=>exact h.elim|cons v vs=>simp[ih h.2]
theorem S8{a:Act}{d:Nat}{v:Value}(h:d<a.tmps.size)(t:Nat):(a.put (some d) v).tmps.getD t undef=if t=d then v else a.tmps.getD t undef:=by
 simp[Act.put]
 grind
theorem Hs{a:Act}(d:Option Nat)(v:Value):(a.put d v).tmps.size=a.tmps.size:=by cases d<;>simp[Act.put]
theorem CW{a:Act}(d:Option Nat)(v:Value):(a.put d v).defers=a.defers:=by cases d<;>simp[Act.put]
theorem gV.put{S':Nat->Prop}{d:Option Nat}{val:Value}(hE:gV S w φ E a.tmps)(hs:gC S w S' w')(hr:Ren φ φ')(hd:∀x,d=some x->x<a.tmps.size)(hv:RW S' w' φ' v val):gV S' w' φ' (nQ E d v) (a.put d val).tmps:=by
 intro t x hx;unfold nQ at hx;cases d with
 |none=>rw[if_neg (by simp)]at hx;exact(hE t x hx).mono hs hr
 |some d=>
  rw[S8 (hd d rfl)];split at hx
  .rename_i e;cases e;rw[if_pos rfl];cases hx;exact hv
  .rename_i e;rw[if_neg (fun h=>e (by rw[h]))];exact(hE t x hx).mono hs hr
theorem gV.drop{d:Option Nat}(hE:gV S w φ E a.tmps):gV S w φ (nQ E d .no) (a.put d undef).tmps:=by
 intro t x hx;unfold nQ at hx;split at hx
 .rename_i h;subst h;cases hx;simp[Act.put,Array.getElem?_setIfInBounds,if_true];split<;>rfl
 .have:=hE t x hx;cases d with|none=>exact this|some d=>simp_all[Act.put]
theorem Bn(hE:gV S w φ E a.tmps)(hsz:a.tmps.size<1000000000){all:Array Oper}{o:Oper}{b:Bool}(h:lY E (b9 P aR nt all o).guard=some b):Region.wanted o (yielded all a.tmps)=b:=by
 unfold b9 at h;unfold Region.wanted;cases hg:o.guard with
 |none=>rw[hg]at h;simpa[lY]using h
 |some p=>
  obtain⟨j,cZ⟩:=p;rw[hg]at h
  have lit:∀{x:Bool}{v:V},oA v=some (.bool x)->E (((all[j]?).bind (·.dst)).getD 1000000000)=some v->(x==cZ)=b->(yielded all a.tmps j==some cZ)=b:=by
   intro x v hl hx hb;have hv:=rM hl (hE _ _ hx);cases hd:(all[j]?).bind (·.dst)with
   |none=>
    rw[hd]at hv
    grind [iP,Array.getElem?_eq_none,undef]
   |some t=>
    rw[hd]at hv
    have ht:a.tmps[t]?=some (.bool x):=by
     rw[iP]at hv
     grind [undef]
    simp only[yielded,hd,Option.bind_some,ht];rw[<-hb];cases x<;>cases cZ<;>rfl
  have hh:(match E (((all[j]?).bind (·.dst)).getD 1000000000)with|some (.kb c)=>some (c==cZ)|some (.x .b c)=>some (c==cZ)|some .no=>some false|_=>none)=some b:=h
  have key:(yielded all a.tmps j==some cZ)=b:=by
   split at hh
   .rename_i c hx;exact lit (v:=.kb c) rfl hx (ac hh)
   .rename_i c hx;exact lit (v:=.x .b c) rfl hx (ac hh)
   .rename_i hx;have hr:_=undef:=hE _ _ hx;obtain rfl:=ac hh;cases hd:(all[j]?).bind (·.dst)with
    |none=>simp only[yielded,hd];rfl
    |some t=>
     rw[hd]at hr;rw[iP]at hr
     grind [yielded,undef]
   .cases hh
  exact key
end
def V2:Sh->Bool
 |.x t=>iD t
 |.st _=>true
 |_=>false
abbrev fM.z:fM:=fun _=>none
def GF(S:Nat->Prop)(w:World):Sh->List V->List Value->List Nat->Prop
 |.x t,l,c,fp=>fp=[]/\∃y,l=[.x t y]/\RT S w t y c
 |.pt t,l,c,fp=>fp=[]/\∃y b o d,l=[.x t y]/\c=[.pointer (some ⟨b,o,none⟩)]/\S b/\RT S w t y d/\At w b o d
 |.os t,l,c,fp=>∃s:Sl (El t),l=[.x (.sl t) s]/\((s=.nil/\c=[.slice none 0 0]/\fp=[])\/∃lo,RO S w .z lo (.ar t s 0)/\yH lo 0 lo.n c/\fp=ob w lo (.ar t s 0))
 |.rw t,l,c,fp=>∃s:Sl (Sl (El t)),l=[.x (.sl (.sl t)) s]/\((s=.nil/\c=[.slice none 0 0]/\fp=[])\/∃lo,RO S w .z lo (.rw t s none)/\yH lo 0 lo.n c/\fp=ob w lo (.rw t s none))
 |.mp k v,l,c,fp=>∃m lo,l=[.x (.mp k v) m]/\RO S w .z lo (.mp k v m)/\c=[.map (some lo.bP)]/\fp=[lo.bP]
 |.pb _ sh,l,c,fp=>∃b bz f,c=[.pointer (some ⟨b,0,none⟩)]/\fp=b::f/\pi w b bz/\GF S w sh l bz.toList f
 |.st sh,l,c,fp=>GF S w sh l c fp
 |.pr a b,l,c,fp=>∃l1 l2 c1 c2 f1 f2,l=l1++l2/\c=c1++c2/\fp=f1++f2/\GF S w a l1 c1 f1/\GF S w b l2 c2 f2
 |.nl k,l,c,fp=>l=[]/\c=[nlV k]/\fp=[]
 |.fn f sh,l,c,fp=>∃d,c=[.func (.func f) #[] d.toArray]/\GF S w sh l d fp
 |.ni,l,c,fp=>l=[]/\c=[]/\fp=[]
 |.gn,l,_,fp=>l=[]/\fp=[]
def EF(S:Nat->Prop)(w:World)(sh:Sh)(l:List V)(x:Value)(fp:List Nat):Prop:=(sh=.gn/\l=[]/\fp=[])\/∃c,GF S w sh l c fp/\if V2 sh then x=.agg c.toArray else c=[x]
section
variable{S S' K:Nat->Prop}{w0 w w':World}{φ φ':fM}{H:Hf}{n:Nat}{h:H2}
theorem GF.Jl(hs:gC S w S' w):∀{sh:Sh}{l:List V}{c:List Value}{fp:List Nat},GF S w sh l c fp->GF S' w sh l c fp:=by intro sh;induction sh with|x t=>rintro l c fp ⟨h1,y,h2,h3⟩;exact⟨h1,y,h2,h3.mono hs⟩|pt t=>rintro l c fp ⟨h1,y,b,o,d,h2,h3,h4,h5,h6⟩;exact⟨h1,y,b,o,d,h2,h3,hs.sub _ h4,h5.mono hs,h6⟩|os t=>rintro l c fp ⟨s,h1,h2⟩;exact⟨s,h1,h2.imp id fun⟨lo,h3,h4⟩=>⟨lo,h3.mono hs (Ren.refl _) fun _ _=>rfl,h4⟩⟩|rw t=>rintro l c fp ⟨s,h1,h2⟩;exact⟨s,h1,h2.imp id fun⟨lo,h3,h4⟩=>⟨lo,h3.mono hs (Ren.refl _) fun _ _=>rfl,h4⟩⟩|mp k v=>rintro l c fp ⟨m,lo,h1,h2,h3⟩;exact⟨m,lo,h1,h2.mono hs (Ren.refl _) fun _ _=>rfl,h3⟩|pb t c ih=>rintro l c fp ⟨b,bz,f,h1,h2,h3,h4⟩;exact⟨b,bz,f,h1,h2,h3,ih h4⟩|st c ih=>intro l c fp h;exact ih h|pr a b iha ihb=>rintro l c fp ⟨l1,l2,c1,c2,f1,f2,h1,h2,h3,h4,h5⟩;exact⟨l1,l2,c1,c2,f1,f2,h1,h2,h3,iha h4,ihb h5⟩|fn f c ih=>rintro l c fp ⟨d,h1,h2⟩;exact⟨d,h1,ih h2⟩|_=>intro l c fp h;exact h
theorem EF.Jl(hs:gC S w S' w){sh:Sh}{l:List V}{x:Value}{fp:List Nat}(h:EF S w sh l x fp):EF S' w sh l x fp:=h.imp id fun⟨c,h1,h2⟩=>⟨c,h1.Jl hs,h2⟩
theorem Ky{f:Nat->List Nat}:∀{n:Nat},(∀i,i<n->(f i).Nodup)->(∀i j,i<n->j<n->i≠j->∀b∈f i,b∉f j)->((aK n).flatMap f).Nodup:=by intro n;induction n with|zero=>intro _ _;simp|succ n ih=>intro h1 h2;rw[List.range_succ,List.flatMap_append];refine bD.2 ⟨ih (fun i hi=>h1 i (by omega)) fun i j hi hj=>h2 i j (by omega) (by omega),by simpa using h1 n (by omega),fun a ha b hb e=>?_⟩;obtain⟨i,hi,ha⟩:=cx.1 ha;have hi:=List.mem_range.1 hi;exact h2 i n (by omega) (by omega) (by omega) a ha (by rw[e];simpa using hb)
theorem Qj{l:nF}{o:O}(h:RO S w φ l o):(ob w l o).Nodup:=by
 cases o with
 |ar t s v=>cases s<;>simp[ob]
 |rw t s ln=>
  cases s with
  |nil=>simp[ob]
  |mk r=>
   obtain⟨_,_,_,_,h5⟩:=h;obtain⟨bz,_,_,_,_,k,_⟩:=h5 r rfl;simp only[ob,eR];refine⟨fun hm=>?_,?_⟩
   .obtain ⟨i,hi,hb⟩:=cx.1 hm;exact(k i i _ (by simpa using hi) (by simpa using hi) hb).1 rfl
   .refine Ky (fun i _=>?_) fun i j hi hj hne b hb hb2=>(k i j b hi hj hb).2 hne hb2;unfold qk;split
    .simp
    .unfold rN;split<;>simp
 |_=>simp[ob]
def wz(w:World)(φ:fM)(H:Hf)(ids fp:List Nat):Prop:=fp.Nodup/\∀x∈fp,∃i∈ids,∃o lo,H i=some o/\φ i=some lo/\x∈ob w lo o
theorem wz.nil:wz w φ H [] []:=⟨ie,by simp⟩
theorem wz.one{i:Nat}{o:O}{lo:nF}(hI:Inv S K w0 φ H w)(ho:H i=some o)(hl:φ i=some lo):wz w φ H [i] (ob w lo o):=by obtain⟨l2,a1,a2,_⟩:=hI.lS i o ho;obtain rfl:=ac (hl.symm.trans a1);exact⟨Qj a2,fun x hx=>⟨i,by simp,o,lo,ho,hl,hx⟩⟩
theorem wz.append(hI:Inv S K w0 φ H w){a b f g:List Nat}(hn:(a++b).Nodup)(h1:wz w φ H a f)(h2:wz w φ H b g):wz w φ H (a++b) (f++g):=by
 refine⟨bD.2 ⟨h1.1,h2.1,fun x hx y hy e=>?_⟩,fun x hx=>?_⟩
 .subst e;obtain⟨i,hi,o,lo,q1,q2,q3⟩:=h1.2 x hx;obtain⟨j,hj,o',lo',r1,r2,r3⟩:=h2.2 x hy;exact hI.iY i j o o' lo lo' q1 r1 q2 r2 (fun e=>(bD.1 hn).2.2 i hi j hj e) x q3 r3
 .rcases aF.1 hx with hx|hx
  .obtain ⟨i,hi,q⟩:=h1.2 x hx;exact⟨i,by simp[hi],q⟩
  .obtain ⟨i,hi,q⟩:=h2.2 x hx;exact⟨i,by simp[hi],q⟩
theorem Ry{k v k' v':Ty}{m:El (.mp k v)}{m':El (.mp k' v')}(h:dR (.mp k v) (.mp k' v') m=some m'):∃(e:k=k')(e':v=v'),e'▸e▸m=m':=by obtain⟨e,h⟩:=iu h;cases e;exact⟨rfl,rfl,h⟩
theorem Ac{a a2:Ty}{q:El (.sl (.sl a))}{q':El (.sl (.sl a2))}(h:dR (.sl (.sl a)) (.sl (.sl a2)) q=some q'):∃e:a=a2,e▸q=q':=by obtain⟨e,h⟩:=iu h;cases e;exact⟨rfl,h⟩
def Mr(h:H2)(a:Sh)(x:V):Option (List V×List Nat):=match a,x with|.os t,.x (.sl _) v=>TF t v|.os t,.sb id ver _ _ r=>SO h t id ver r|_,_=>ve h a false x
theorem KQ(hI:Inv S K w0 φ H w){id ver lo:Nat}{t tt:Ty}{r:Sl (El tt)}{l:List V}{ids:List Nat}{c:List Value}(ha:SO h t id ver r=some (l,ids))(hr:RC S w φ (.sb id ver lo tt r) c)(hH:∀i∈ids,H i=fO h i)(hok:dZ n h (.sb id ver lo tt r)):
  ∃fp,GF S w (.os t) l c fp/\wz w φ H ids fp:=by
 unfold SO at ha;split at ha<;>first|(cases ha;done)|skip
 rename_i u w1 v ho;obtain⟨e,h2⟩:=aC ha;obtain rfl:=eq_of_beq e;split at h2<;>first|(cases h2;done)|skip
 rename_i s hs;obtain⟨rfl,rfl⟩:=tf hs;obtain⟨rfl,rfl⟩:=ap (ac h2);obtain⟨l1,k1,k2,_,k4⟩:=hr;have hH1:=(hH id (by simp)).trans ho;rcases(hok.2.2 u w1 v (.inl ho)).2 rfl with⟨q1,rfl⟩|⟨q,m,q1,rfl,q3⟩
 .exact ⟨[],⟨Sl.nil,rfl,.inl ⟨rfl,k4,rfl⟩⟩,ie,by simp⟩
 .obtain ⟨rfl,e2⟩:=fN q1;obtain rfl:=eq_of_heq e2;obtain⟨b1,b2,b3,b4,bz,pa,d,qa,c1,c2,c3,c4,e1,e2,c5,c6⟩:=hI.cells hH1 k1;obtain⟨da,d0,db,rfl,r1,r2⟩:=Aj (fun _ _ _ h=>RT.len h) c5 lo m (by omega);obtain⟨addr,cap,rfl,p1,p2,p3,p4⟩:=k4;rw[b1]at p3 p4;refine⟨[l1.bP],⟨_,rfl,.inr ⟨⟨l1.bP,addr,l1.ext,cap,u,some ((q.drop lo).take m).length⟩,⟨rfl,rfl,b3,b4,fun r' e'=>?_⟩,⟨addr,cap,rfl,p1,by simp,by simp,by simpa using p4⟩,rfl⟩⟩,by simpa[ob]using wz.one hI hH1 k1⟩;cases e';have hm:((q.drop lo).take m).length*df u<=cap*df u:=ct _ p1;refine⟨bz,d0,c1,c2,p1,by simp only;omega,r2,?_⟩;rcases gR cap with e|e
  .have hz:((q.drop lo).take m).length=0:=by omega
   obtain rfl:d0=[]:=List.length_eq_zero_iff.1 (by rw[lC.len (fun _ _ _ h=>RT.len h) r2,hz];omega);trivial
  .simp only[p3 e,<-r1];exact rJ c6
theorem U4(hI:Inv S K w0 φ H w)(hbx:∀id t c,fO h id=some (.bx t c)->dZ n h c):∀{sh:Sh}{b:Bool}{v:V}{l:List V}{ids:List Nat}{c:List Value},ve h sh b v=some (l,ids)->RC S w φ v c->(∀i∈ids,H i=fO h i)->dZ n h v->ids.Nodup->∃fp,GF S w sh l c fp/\wz w φ H ids fp:=by
 intro sh;induction sh with
 |os t=>
  intro b v l ids c ha hr hH hok hn;cases b<;>cases v<;>first|(cases ha;done)|skip
  .rename_i k;cases k<;>first|(cases ha;done)|skip
   obtain⟨rfl,rfl⟩:=ap (ac ha);exact⟨[],⟨Sl.nil,rfl,.inl ⟨rfl,hr,rfl⟩⟩,wz.nil⟩
  .rename_i id;change (match fO h id with|some (.ar u s _)=>(match dR (.sl u) (.sl t) s with|some s=>some ([V.x (.sl t) s],[id])|none=>none)|_=>none)=_ at ha;split at ha<;>first|(cases ha;done)|skip
   rename_i u s ver ho;split at ha<;>first|(cases ha;done)|skip
   rename_i s' hs;obtain⟨rfl,rfl⟩:=tf hs;obtain⟨rfl,rfl⟩:=ap (ac ha);obtain⟨l1,k1,k2⟩:=hr;have hH1:=(hH id (by simp)).trans ho;obtain⟨l2,o1,o2,_⟩:=hI.lS id _ hH1;obtain rfl:=ac (k1.symm.trans o1);exact⟨ob w l1 (.ar u s ver),⟨s,rfl,.inr ⟨l1,o2,k2,rfl⟩⟩,wz.one hI hH1 k1⟩
 |rw t=>
  intro b v l ids c ha hr hH hok hn;cases b<;>cases v<;>first|(cases ha;done)|skip
  .rename_i k;cases k<;>first|(cases ha;done)|skip
   obtain⟨rfl,rfl⟩:=ap (ac ha);exact⟨[],⟨Sl.nil,rfl,.inl ⟨rfl,hr,rfl⟩⟩,wz.nil⟩
  .rename_i id;change (match fO h id with|some (.rw u s none)=>(match dR (.sl (.sl u)) (.sl (.sl t)) s with|some s=>some ([V.x (.sl (.sl t)) s],[id])|none=>none)|_=>none)=_ at ha;split at ha<;>first|(cases ha;done)|skip
   rename_i u s ho;split at ha<;>first|(cases ha;done)|skip
   rename_i s' hs;obtain⟨rfl,rfl⟩:=Ac hs;obtain⟨rfl,rfl⟩:=ap (ac ha);obtain⟨l1,k1,k2⟩:=hr;have hH1:=(hH id (by simp)).trans ho;obtain⟨l2,o1,o2,_⟩:=hI.lS id _ hH1;obtain rfl:=ac (k1.symm.trans o1);exact⟨_,⟨s,rfl,.inr ⟨l1,o2,k2,rfl⟩⟩,wz.one hI hH1 k1⟩
 |mp kT vT=>
  intro b v l ids c ha hr hH hok hn;cases b<;>cases v<;>first|(cases ha;done)|skip
  rename_i id;change (match fO h id with|some (.mp k' v' m)=>(match dR (.mp k' v') (.mp kT vT) m with|some m=>some ([V.x (.mp kT vT) m],[id])|none=>none)|_=>none)=_ at ha;split at ha<;>first|(cases ha;done)|skip
  rename_i k' v' m ho;split at ha<;>first|(cases ha;done)|skip
  rename_i m' hs;obtain⟨rfl,rfl,rfl⟩:=Ry hs;obtain⟨rfl,rfl⟩:=ap (ac ha);obtain⟨l1,k1,k2⟩:=hr;have hH1:=(hH id (by simp)).trans ho;obtain⟨l2,o1,o2,_⟩:=hI.lS id _ hH1;obtain rfl:=ac (k1.symm.trans o1);exact⟨_,⟨m,l1,rfl,o2,k2,rfl⟩,by simpa[ob]using wz.one hI hH1 k1⟩
 |pb t c ih=>
  intro b v l ids cc ha hr hH hok hn;cases b<;>cases v<;>first|(cases ha;done)|skip
  rename_i id u p;cases p<;>first|(cases ha;done)|skip
  change (match fO h id with|some (.bx w v)=>bif decide (w=u)&&decide (u=t)then(match ve h c false v with|some (l,i)=>some (l,id::i)|none=>none)else none|_=>none)=_ at ha;split at ha<;>first|(cases ha;done)|skip
  rename_i w1 v1 ho;obtain⟨e,h2⟩:=aC ha;split at h2<;>first|(cases h2;done)|skip
  rename_i l' i' hi;obtain⟨rfl,rfl⟩:=ap (ac h2);obtain⟨l1,k1,k2,k3,k4⟩:=hr;have hH1:=(hH id (by simp)).trans ho;obtain⟨l2,o1,⟨o2,o3,bz,o4,o5⟩,_⟩:=hI.lS id _ hH1;obtain rfl:=ac (k1.symm.trans o1);obtain⟨f,q1,q2⟩:=ih hi o5 (fun j hj=>hH j (by simp[hj])) (hbx _ _ _ ho) (eR.1 hn).2;have e0:wm u []=0:=by cases u<;>rfl
  rw[e0]at k4;refine⟨l1.bP::f,⟨l1.bP,bz,f,k4,rfl,o4,q1⟩,?_⟩;have:=wz.append hI (a:=[id]) (b:=i') hn (wz.one hI hH1 k1) q2;simpa[ob]using this
 |nl k=>
  intro b v l ids c ha hr hH hok hn;cases b<;>cases v<;>first|(cases ha;done)|skip
  obtain⟨e,h2⟩:=aC ha;obtain rfl:=eq_of_beq e;obtain⟨rfl,rfl⟩:=ap (ac h2);exact⟨[],⟨rfl,hr,rfl⟩,wz.nil⟩
 |x t=>
  intro b v l ids c ha hr hH hok hn;cases b<;>first|(cases ha;done)|skip
  change (match tF t v with|some y=>some ([V.x t y],[])|none=>none)=_ at ha;split at ha<;>first|(cases ha;done)|skip
  rename_i y hy;obtain⟨rfl,rfl⟩:=ap (ac ha);exact⟨[],⟨rfl,y,rfl,xg hy hr⟩,wz.nil⟩
 |st sh ih=>
  intro b v l ids c ha hr hH hok hn;cases b<;>cases v<;>first|(cases ha;done)|exact ih ha hr hH hok hn|skip
  rename_i u v;cases u<;>first|(cases ha;done)|skip
  rename_i u;exact ih ha (O0 (t:=u) hr) hH Ly hn
 |pr a sh iha ihb=>
  intro b v l ids c ha hr hH hok hn;cases b<;>cases v<;>first|(cases ha;done)|skip
  rename_i x r;change (match Mr h a x,ve h sh true r with|some (l,i),some (m,j)=>some (l++m,i++j)|_,_=>none)=_ at ha;split at ha<;>first|(cases ha;done)|skip
  rename_i l1 i1 l2 i2 h1 h2;obtain⟨rfl,rfl⟩:=ap (ac ha);obtain⟨d,e,rfl,r1,r2⟩:=hr;obtain⟨g,q3,q4⟩:=ihb h2 r2 (fun j hj=>hH j (by simp[hj])) hok.2 (bD.1 hn).2.1;have hH':∀j∈i1,H j=fO h j:=fun j hj=>hH j (by simp[hj]);have hn1:=(bD.1 hn).1
  have:∃f,GF S w a l1 d f/\wz w φ H i1 f:=by
   unfold Mr at h1;split at h1
   .rename_i t u v;unfold TF at h1;split at h1<;>first|(cases h1;done)|skip
    obtain⟨rfl,rfl⟩:=ap (ac h1);exact⟨[],⟨Sl.nil,rfl,.inl ⟨rfl,r1,rfl⟩⟩,wz.nil⟩
   .exact KQ hI h1 r1 hH' hok.1
   .exact iha h1 r1 hH' hok.1 hn1
  obtain⟨f,q1,q2⟩:=this;exact⟨f++g,⟨l1,l2,d,e,f,g,rfl,rfl,rfl,q1,q3⟩,wz.append hI hn q2 q4⟩
 |ni=>
  intro b v l ids c ha hr hH hok hn;cases b<;>cases v<;>first|(cases ha;done)|skip
  obtain⟨rfl,rfl⟩:=ap (ac ha);exact⟨[],⟨rfl,hr,rfl⟩,wz.nil⟩
 |_=>intro b v l ids c ha;cases b<;>cases v<;>cases ha
end
section
variable{S S' K:Nat->Prop}{w0 w w':World}{φ φ':fM}{H:Hf}{n:Nat}{h:H2}
theorem DU:∀{v:V},I_ v=true->oN h v=true:=by intro v;induction v with|co a r iha ihr=>intro hv;simp only[I_,aw]at hv;simp[oN,iha hv.1,ihr hv.2]|pt t v=>intro hv;exact hv|ni=>intro _;rfl|_=>intro hv;cases hv
theorem U5(hI:Inv S K w0 φ H w)(hbx:∀id t c,fO h id=some (.bx t c)->dZ n h c)(fe:gC S w S' w):∀{sh:Sh}{v:V}{l:List V}{ids:List Nat}{c:List Value},GA h sh v=some (l,ids)->RC S w φ v c->(∀i∈ids,H i=fO h i)->oN h v=true->dZ n h v->(∀b,SF S w φ H ids b->S' b)->GF S' w sh l c []:=by
 intro sh;induction sh with
 |x t=>
  intro v l ids c ha hr hH hal hok hS;change (match tD h v with|some (w,l)=>(match tF t w with|some y=>some ([V.x t y],l)|none=>none)|none=>none)=_ at ha;split at ha<;>first|(cases ha;done)|skip
  rename_i w1 a h1;split at ha<;>first|(cases ha;done)|skip
  rename_i y hy;obtain⟨rfl,rfl⟩:=ap (ac ha);exact⟨rfl,y,rfl,xg hy (zV hI fe h1 hr hH hal hok hS)⟩
 |pt t=>
  intro v l ids c ha hr hH hal hok hS;cases v<;>first|(cases ha;done)|skip
  .rename_i id u p;cases p<;>first|(cases ha;done)|skip
   change (match fO h id with
    |some (.bx w c)=>bif decide (w=u)&&oN h c then(match tD h c with|some (c,l)=>(match tF t c with|some y=>some ([V.x t y],id::l)|none=>none)|none=>none)else none
    |some (.ib w v)=>bif decide (w=u)then(match dR w t v with|some y=>some ([V.x t y],[id])|none=>none)else none
    |_=>none)=_ at ha
   obtain⟨l1,k1,k2,k3,k4⟩:=hr;have e0:wm u []=0:=by cases u<;>rfl
   rw[e0]at k4;split at ha<;>first|(cases ha;done)|skip
   .rename_i w1 c1 ho;obtain⟨e,h2⟩:=aC ha;simp only[aw]at e;split at h2<;>first|(cases h2;done)|skip
    rename_i c2 a h3;split at h2<;>first|(cases h2;done)|skip
    rename_i y hy;obtain⟨rfl,rfl⟩:=ap (ac h2);have hH1:=(hH id (by simp)).trans ho;obtain⟨l2,o1,⟨o2,o3,bz,o4,o5⟩,_⟩:=hI.lS id _ hH1;obtain rfl:=ac (k1.symm.trans o1);have hc:=zV hI fe h3 o5 (fun i hi=>hH i (by simp[hi])) e.2 (hbx _ _ _ ho) fun b hb=>hS b ((SF.sub (by simp_all)).sub b hb);exact⟨rfl,y,_,_,_,rfl,k4,hS _ (SF.bP (by simp) hH1 k1 (by simp[ob])),xg hy hc,(yS o4).2 fun i v hi=>by simpa using hi⟩
   .rename_i w1 v1 ho;obtain⟨e,h2⟩:=aC ha;split at h2<;>first|(cases h2;done)|skip
    rename_i y hy;obtain⟨rfl,rfl⟩:=ap (ac h2);obtain⟨e1,e2⟩:=iu hy;subst e1;subst e2;have hH1:=(hH id (by simp)).trans ho;obtain⟨l2,o1,⟨o2,o3,o4,d,o5,o6⟩,_⟩:=hI.lS id _ hH1;obtain rfl:=ac (k1.symm.trans o1);exact⟨rfl,_,_,_,d,rfl,k4,fe.sub _ o4,o5.mono fe,o6⟩
  .rename_i id m u p;cases p<;>first|(cases ha;done)|skip
   obtain⟨l1,m1,k1,k2,k3,k4,k5,k6⟩:=hr;have e0:wm u []=0:=by cases u<;>rfl
   rw[e0]at k6
   have key:∀{w1:Ty}{s1:Sl (El w1)}{ver:Nat},(fO h id=some (.ar w1 s1 ver)\/fO h id=some (.im w1 s1 ver))->(bif decide (w1=u)then(match dR w1 t (gt s1.l m)with|some y=>some ([V.x t y],[id])|none=>none)else none)=some (l,ids)->GF S' w (.pt t) l c []:=by
    intro w1 s1 ver ho ha;obtain⟨e,h2⟩:=aC ha;obtain rfl:=of_decide_eq_true e;split at h2<;>first|(cases h2;done)|skip
    rename_i y hy;obtain⟨rfl,rfl⟩:=ap (ac h2);obtain⟨e1,e2⟩:=iu hy;subst e1;subst e2;have wu:∀{r:List (El w1)}{d:List Value},m<r.length->lC (RT S w w1) r d->At w l1.bP l1.gN d->SF S w φ H [id] l1.bP->GF S' w (.pt w1) [V.x w1 (gt r m)] c []:=by intro r d hm hr ha hb;obtain⟨a,mm,b,rfl,q1,q2,_⟩:=v6 (fun _ _ _ h=>RT.len h) hm hr;exact⟨rfl,_,_,_,mm,rfl,k6,hS _ hb,q2.mono fe,by have:=rJ ha;rwa[q1]at this⟩
    rcases ho with ho|ho
    .have hH1:=(hH id (by simp)).trans ho;obtain⟨l2,o1,o2,_⟩:=hI.lS id _ hH1;obtain rfl:=ac (k1.symm.trans o1);obtain⟨r,rfl,e2⟩:=m_ (o2.2.1.symm.trans k3);obtain⟨d,d1,d2⟩:=RO.Pn (.inl o2);exact wu (r:=r) (by rw[e2];exact k4) d1 d2 (SF.bP (by simp) hH1 k1 (by simp[ob]))
    .have hH1:=(hH id (by simp)).trans ho;obtain⟨l2,o1,o2,_⟩:=hI.lS id _ hH1;obtain rfl:=ac (k1.symm.trans o1);obtain⟨r,rfl,e2⟩:=m_ (o2.2.1.symm.trans k3);obtain⟨d,d1,d2⟩:=RO.Pn (.inr o2);exact wu (r:=r) (by rw[e2];exact k4) d1 d2 (.inl (o2.2.2.2.2 r rfl).1)
   change (match fO h id with
    |some (.ar w s _)|some (.im w s _)=>bif decide (w=u)then(match dR w t (gt s.l m)with|some y=>some ([V.x t y],[id])|none=>none)else none
    |_=>none)=_ at ha
   split at ha<;>first|(cases ha;done)|skip
   .rename_i ho;exact key (.inl ho) ha
   .rename_i ho;exact key (.inr ho) ha
  .rename_i u v;change (match dR u t v with|some y=>some ([V.x t y],[])|none=>none)=_ at ha;split at ha<;>first|(cases ha;done)|skip
   rename_i y hy;obtain⟨rfl,rfl⟩:=ap (ac ha);obtain⟨rfl,rfl⟩:=iu hy;obtain⟨b,o,d,k1,k2,k3,k4⟩:=hr;exact⟨rfl,_,b,o,d,rfl,k1,fe.sub _ k2,k3.mono fe,k4⟩
 |nl k=>
  intro v l ids c ha hr hH hal hok hS;cases v<;>first|(cases ha;done)|skip
  obtain⟨e,h2⟩:=aC ha;obtain rfl:=eq_of_beq e;obtain⟨rfl,rfl⟩:=ap (ac h2);exact⟨rfl,hr,rfl⟩
 |fn f sh ih=>
  intro v l ids c ha hr hH hal hok hS;cases v<;>first|(cases ha;done)|skip
  rename_i z f' l0;obtain⟨e,h2⟩:=aC ha;obtain rfl:=eq_of_beq e;obtain⟨d,k1,k2⟩:=hr;exact⟨d,k1,ih h2 k2 hH (by cases z;exact hal;exact DU hal) hok hS⟩
 |pr a sh iha ihb=>
  intro v l ids c ha hr hH hal hok hS;cases v<;>first|(cases ha;done)|skip
  rename_i x r;change (match GA h a x,GA h sh r with|some (l,i),some (m,j)=>some (l++m,i++j)|_,_=>none)=_ at ha;split at ha<;>first|(cases ha;done)|skip
  rename_i l1 i1 l2 i2 h1 h2;obtain⟨rfl,rfl⟩:=ap (ac ha);obtain⟨d,e,rfl,r1,r2⟩:=hr;simp only[oN,aw]at hal;exact⟨l1,l2,d,e,[],[],rfl,rfl,rfl,iha h1 r1 (fun j hj=>hH j (by simp[hj])) hal.1 hok.1 fun b hb=>hS b ((SF.sub (by simp_all)).sub b hb),ihb h2 r2 (fun j hj=>hH j (by simp[hj])) hal.2 hok.2 fun b hb=>hS b ((SF.sub (by simp_all)).sub b hb)⟩
 |ni=>
  intro v l ids c ha hr hH hal hok hS;cases v<;>first|(cases ha;done)|skip
  obtain⟨rfl,rfl⟩:=ap (ac ha);exact⟨rfl,hr,rfl⟩
 |_=>intro v l ids c ha;cases v<;>cases ha
def KY(S:Nat->Prop)(w:World):List (Bool×Sh)->List V->List Value->List Nat->Prop
 |[],l,[],fp=>l=[]/\fp=[]
 |(b,c)::r,l,x::xs,fp=>∃l1 l2 f1 f2,l=l1++l2/\fp=f1++f2/\EF S w c l1 x f1/\(b=false->f1=[])/\KY S w r l2 xs f2
 |_,_,_,_=>False
def tU:List (Bool×Sh)->List Value->List Value
 |(b,_)::r,x::xs=>bif b then x::tU r xs else tU r xs
 |_,_=>[]
def Ah(S:Nat->Prop)(w:World)(φ:fM):List V->List Value->Prop
 |[],[]=>True
 |v::vs,x::xs=>RW S w φ v x/\Ah S w φ vs xs
 |_,_=>False
theorem Gz(hI:Inv S K w0 φ H w)(hbx:∀id t c,fO h id=some (.bx t c)->dZ n h c){sh:Sh}{v:V}{l:List V}{ids:List Nat}{x:Value}(ha:ve h sh false v=some (l,ids))(hr:RW S w φ v x)(hH:∀i∈ids,H i=fO h i)(hok:dZ n h v)(hn:ids.Nodup):∃fp,EF S w sh l x fp/\wz w φ H ids fp:=by
 have h1:R1 S w φ v x:=by
  cases v<;>first|exact hr|skip
  all_goals(exfalso;cases sh<;>first|(cases ha;done)|skip)
  all_goals
   rename_i t
   first
    |(change (match tF t (.tp _)with|some y=>some ([V.x t y],[])|none=>none)=_ at ha;split at ha<;>first|(cases ha;done)|(rename_i hy;cases hy;done))
    |(change (match tF t .no with|some y=>some ([V.x t y],[])|none=>none)=_ at ha;split at ha<;>first|(cases ha;done)|(rename_i hy;cases hy;done))
    |(change (match tF t .gn with|some y=>some ([V.x t y],[])|none=>none)=_ at ha;split at ha<;>first|(cases ha;done)|(rename_i hy;cases hy;done))
 obtain⟨c,c1,c2⟩:=h1;obtain⟨fp,f1,f2⟩:=U4 hI hbx ha c1 hH hok hn;refine⟨fp,.inr ⟨c,f1,?_⟩,f2⟩
 have e:xF v=V2 sh:=by
  cases sh with
  |x t=>change (match tF t v with|some y=>some ([V.x t y],[])|none=>none)=_ at ha;split at ha<;>first|(cases ha;done)|(rename_i hy;exact Gm hy c1)
  |st sh=>
   cases v<;>first|(cases ha;done)|rfl|skip
   rename_i u _;cases u<;>first|(cases ha;done)|rfl
  |_=>cases v<;>first|(cases ha;done)|rfl
 rw[<-e];exact c2
theorem Ms(hI:Inv S K w0 φ H w)(hbx:∀id t c,fO h id=some (.bx t c)->dZ n h c)(fe:gC S w S' w){sh:Sh}{v:V}{l:List V}{ids:List Nat}{x:Value}(ha:GA h sh v=some (l,ids))(hr:RW S w φ v x)(hH:∀i∈ids,H i=fO h i)(hal:oN h v=true)(hok:dZ n h v)(hS:∀b,SF S w φ H ids b->S' b):EF S' w sh l x []:=by
 have h1:R1 S w φ v x:=by
  cases v<;>first|exact hr|(simp[oN]at hal;done)|skip
  exfalso;cases sh<;>cases ha
 obtain⟨c,c1,c2⟩:=h1;refine .inr ⟨c,U5 hI hbx fe ha c1 hH hal hok hS,?_⟩
 have e:xF v=V2 sh:=by
  cases sh with
  |x t=>
   change (match tD h v with|some (w,l)=>(match tF t w with|some y=>some ([V.x t y],l)|none=>none)|none=>none)=_ at ha;split at ha<;>first|(cases ha;done)|skip
   rename_i w1 a h1;split at ha<;>first|(cases ha;done)|skip
   rename_i y hy
   have hc:=zV hI fe h1 c1 (fun i hi=>hH i (by
    obtain⟨rfl,rfl⟩:=ap (ac ha);exact hi)) hal hok (fun b hb=>hS b (by
    obtain⟨rfl,rfl⟩:=ap (ac ha);exact hb))
   rw[show V2 (.x t)=iD t from rfl,<-Gm hy hc]
   have:∀{v w1:V}{a:List Nat},tD h v=some (w1,a)->xF v=xF w1:=by
    intro v;cases v<;>intro w1 a h1<;>try simp only[tD]at h1
    all_goals(repeat' split at h1)
    all_goals first|(cases h1;done)|(cases h1;rfl)|(rename_i z f cc;cases z<;>cases h1;rfl)
   exact this h1
  |_=>cases v<;>first|(cases ha;done)|rfl
 rw[<-e];exact c2
theorem Om(hI:Inv S K w0 φ H w)(hbx:∀id t c,fO h id=some (.bx t c)->dZ n h c)(fe:gC S w S' w):∀{ps:List (Bool×Sh)}{vs:List V}{l:List V}{j:List Nat}{q:List (V×List Nat)}{xs:List Value},xl h ps vs=some (l,j,q)->Ah S w φ vs xs->(∀v∈vs,oN h v=true/\dZ n h v)->
  (∀i∈j++q.flatMap (·.2),H i=fO h i)->(∀b,SF S w φ H j b->S' b)->(q.flatMap (·.2)).Nodup->∃fp,KY S' w ps l xs fp/\wz w φ H (q.flatMap (·.2)) fp/\Ah S w φ (q.map (·.1)) (tU ps xs):=by
 intro ps;induction ps with
 |nil=>
  intro vs l j q xs ha hr _ _ _ _;cases vs with
  |cons v vs=>cases ha
  |nil=>obtain⟨rfl,e⟩:=ap (ac ha);obtain⟨rfl,rfl⟩:=ap e;cases xs with|nil=>exact⟨[],⟨rfl,rfl⟩,wz.nil,trivial⟩|cons x xs=>exact hr.elim
 |cons p ps ih=>
  obtain⟨b,sh⟩:=p;intro vs l j q xs ha hr hv hH hS hn;cases vs with
  |nil=>cases ha
  |cons v vs=>
  cases xs with
  |nil=>exact hr.elim
  |cons x xs=>
   simp only[xl]at ha;split at ha<;>first|(cases ha;done)|skip
   rename_i m j' q' hrec;have hv2:∀v∈vs,oN h v=true/\dZ n h v:=fun v hm=>hv v (by simp[hm]);obtain⟨v1,v2⟩:=hv v (by simp);cases b with
   |true=>
    simp only[cond_true]at ha;split at ha<;>first|(cases ha;done)|skip
    rename_i l1 i1 h1;obtain⟨rfl,e⟩:=ap (ac ha);obtain⟨rfl,rfl⟩:=ap e;simp only[List.flatMap_cons]at hn hH|-;obtain⟨f1,g1,g2⟩:=Gz hI hbx h1 hr.1 (fun i hi=>hH i (by simp[hi])) v2 (bD.1 hn).1;obtain⟨f2,g3,g4,g5⟩:=ih hrec hr.2 hv2 (fun i hi=>hH i (by rcases aF.1 hi with h|h<;>simp[h])) hS (bD.1 hn).2.1;exact⟨f1++f2,⟨l1,m,f1,f2,rfl,rfl,g1.Jl fe,(fun e=>by cases e),g3⟩,wz.append hI hn g2 g4,hr.1,g5⟩
   |false=>
    simp only[cond_false]at ha;split at ha<;>first|(cases ha;done)|skip
    rename_i l1 i1 h1;obtain⟨rfl,e⟩:=ap (ac ha);obtain⟨rfl,rfl⟩:=ap e;obtain⟨f2,g3,g4,g5⟩:=ih hrec hr.2 hv2 (fun i hi=>hH i (by rcases aF.1 hi with h|h<;>simp[h])) (fun b hb=>hS b ((SF.sub (by simp_all)).sub b hb)) hn;exact⟨f2,⟨l1,m,[],f2,rfl,rfl,Ms hI hbx fe h1 hr.1 (fun i hi=>hH i (by simp[hi])) v1 v2 (fun b hb=>hS b ((SF.sub (by simp_all)).sub b hb)),(fun _=>rfl),g3⟩,g4,g5⟩
end
section
variable{S S' K:Nat->Prop}{w0 w w':World}{φ φ':fM}{H:Hf}{n:Nat}{h:H2}
def wy(S K:Nat->Prop)(w:World)(φ:fM)(H:Hf)(fp:List Nat):Prop:=fp.Nodup/\∀b∈fp,¬S b/\¬K b/\b<w.heap.size/\∀j a m,H j=some a->φ j=some m->b∉ob w m a
theorem Inv.lay(hI:Inv S K w0 φ H w){i:Nat}{l:nF}{o:O}(hr:Ren φ φ')(hl:φ' i=some l)(hro:RO S w φ' l o)
  (hb:∀b∈ob w l o,¬S b/\¬K b/\b<w.heap.size/\∀j a m,j≠i->H j=some a->φ j=some m->b∉ob w m a):Inv S K w0 φ' (up H [(i,some o)]) w:=by
 refine hI.gM (fun j=>j=i) (gC.refl _ _) hr hI.Cg hI.sk hI.sq (fun j a hj ha=>?_) (fun j a m hj ha hm b hbm=>⟨rfl,?_⟩) fun j a hj ha=>?_
 .rw [bC,if_neg (fun e=>hj e.symm)]at ha;exact ha
 .obtain ⟨m2,b1,_,b4⟩:=hI.lS j a ha;obtain rfl:=ac (hm.symm.trans b1);exact(b4 b hbm).1
 .subst hj;rw[bC,if_pos rfl]at ha;obtain rfl:=ac ha;refine⟨l,hl,hro,fun b hbm=>?_⟩;obtain⟨c1,c2,c3,c4⟩:=hb b hbm;refine⟨c1,c2,c3,fun k a m hk ha hm hbm2=>?_,fun k a m hk hne=>absurd hk hne⟩;rw[bC,if_neg (fun e=>hk e.symm)]at ha;exact c4 k a m hk ha hm hbm2
structure pf(S K:Nat->Prop)(w0 w:World)(φ:fM)(H:Hf)(s s':S2)(fp:List Nat)(u:ri)(φ':fM):Prop where
 le:s.next<=s'.next
 eq:s'=⟨s.gX,u++s.heap,s'.next,u.map (·.1)++s.wo,s.gh⟩
 GL:Ren φ φ'
 new:∀i l,φ' i=some l->φ i=none->s.next<=i/\i<s'.next
 B0:∀p∈u,s.next<=p.1/\p.1<s'.next
 inv:Inv S K w0 φ' (up H u) w
 bP:∀j a m b,up H u j=some a->φ' j=some m->b∈ob w m a->b∈fp\/(H j=some a/\φ j=some m)
 bx:∀p∈u,∀t c,p.2=some (.bx t c)->dZ s'.next (u++s.heap) c
theorem pf.none{s s':S2}(hI:Inv S K w0 φ H w)(hle:s.next<=s'.next)(he:s'=⟨s.gX,s.heap,s'.next,s.wo,s.gh⟩):pf S K w0 w φ H s s' [] [] φ:=⟨hle,he,Ren.refl _,(fun i l h1 h2=>by rw[h1]at h2;cases h2),by simp,hI,(fun j a m b h1 h2 _=>.inr ⟨h1,h2⟩),by simp⟩
theorem pf.Jk{s s':S2}{fp:List Nat}{u:ri}(h:pf S K w0 w φ H s s' fp u φ'):jS s.next s.heap u:=fun p hp _ _=>.inl (h.B0 p hp).1
theorem pf.heap{s s':S2}{fp:List Nat}{u:ri}(h:pf S K w0 w φ H s s' fp u φ'):s'.heap=u++s.heap:=by rw[h.eq]
theorem pf.fe{s s':S2}{fp:List Nat}{u:ri}(h:pf S K w0 w φ H s s' fp u φ'):xX s.next s.heap s'.heap:=by rw[h.heap];exact h.Jk.fe
theorem pf.u9{s s1 s2:S2}{f1 f2:List Nat}{u1 u2:ri}{φ1 φ2:fM}(h1:pf S K w0 w φ H s s1 f1 u1 φ1)(h2:pf S K w0 w φ1 (up H u1) s1 s2 f2 u2 φ2):pf S K w0 w φ H s s2 (f1++f2) (u2++u1) φ2:=by
 have l1:=h1.le;have l2:=h2.le;refine⟨by omega,?_,h1.GL.trans h2.GL,fun i l a b=>?_,fun p hp=>?_,by rw[jA];exact h2.inv,fun j a m b q1 q2 q3=>?_,fun p hp t c e=>?_⟩
 .have e1:=h1.eq;have e2:=h2.eq;rw[e2];simp only[S2.mk.injEq,aQ,eS];rw[e1];simp
 .cases e:φ1 i with|none=>have:=h2.new i l a e;omega|some m=>have:=h1.new i m e b;omega
 .rcases aF.1 hp with hp|hp
  .have:=h2.B0 p hp;omega
  .have:=h1.B0 p hp;omega
 .rw [jA]at q1;rcases h2.bP j a m b q1 q2 q3 with h|⟨h,h'⟩
  .exact .inl (dL _ h)
  .rcases h1.bP j a m b h h' q3 with h|h
   .exact .inl (bw _ h)
   .exact .inr h
 .rw [aQ,<-h1.heap,<-h2.heap];rcases aF.1 hp with hp|hp
  .have:=h2.bx p hp t c e;rwa[<-h2.heap]at this
  .have:=h1.bx p hp t c e;rw[<-h1.heap]at this;exact dQ l2 h2.fe this
theorem pf.N2{s s':S2}{f1 f2:List Nat}{u:ri}(h:pf S K w0 w φ H s s' f1 u φ')(hf:wy S K w φ H (f1++f2)):wy S K w φ' (up H u) f2:=by
 obtain⟨h1,h2⟩:=hf;obtain⟨n1,n2,n3⟩:=bD.1 h1;refine⟨n2,fun b hb=>?_⟩;obtain⟨c1,c2,c3,c4⟩:=h2 b (by simp[hb]);refine⟨c1,c2,c3,fun j a m q1 q2 q3=>?_⟩;rcases h.bP j a m b q1 q2 q3 with q|⟨q,q'⟩
 .exact n3 b q b hb rfl
 .exact c4 j a m q q' q3
theorem wy.left{f1 f2:List Nat}(h:wy S K w φ H (f1++f2)):wy S K w φ H f1:=⟨(bD.1 h.1).1,fun b hb=>h.2 b (by simp[hb])⟩
theorem pf.one{s:S2}{o:O}{lo:nF}(hI:Inv S K w0 φ H w)(hn:φ s.next=Option.none)(hro:RO S w (ext φ s.next lo) lo o)(hf:wy S K w φ H (ob w lo o))(hbx:∀t c,o≠.bx t c):pf S K w0 w φ H s (oH s o) (ob w lo o) [(s.next,some o)] (ext φ s.next lo):=by
 refine⟨aO _,rfl,mg lo hn,fun i l a b=>?_,fun p hp=>?_,hI.lay (mg lo hn) (fg _ _ _) hro fun b hb=>?_,fun j a m b q1 q2 q3=>?_,fun p hp t c e=>?_⟩
 .simp only[ext]at a;split at a
  .rename_i e;exact⟨by omega,by simp only[oH];omega⟩
  .rw [a]at b;cases b
 .obtain rfl:=az.1 hp;exact⟨aq _,aM _⟩
 .obtain ⟨c1,c2,c3,c4⟩:=hf.2 b hb;exact⟨c1,c2,c3,fun j a m _ h1 h2=>c4 j a m h1 h2⟩
 .rw [bC]at q1;simp only[ext]at q2;by_cases e:s.next=j
  .rw [if_pos e]at q1;rw[if_pos e.symm]at q2;cases q1;cases q2;exact .inl q3
  .rw [if_neg e]at q1;rw[if_neg (fun h=>e h.symm)]at q2;exact .inr ⟨q1,q2⟩
 .obtain rfl:=az.1 hp;exact absurd (ac e) (hbx t c)
theorem RO.z{l:nF}{o:O}(h:RO S w .z l o):RO S w φ l o:=h.mono (gC.refl _ _) (fun i l h=>by cases h) fun _ _=>rfl
theorem Ki:∀{sh:Sh}{b:Bool}{l bh:List V}{s s':S2}{v:V},Co sh b l s=some (v,bh,s')->s.next<=s'.next:=by
 intro sh;induction sh with
 |pb t c ih=>
  intro b l bh s s' v h;cases b<;>first|(cases h;done)|skip
  change (match Co c false l {s with next:=s.next+1}with
   |some (w,l,s')=>bif dF w false t then some (V.op s.next t [],l,g_ s' s.next (some (.bx t w)))else none
   |none=>none)=_ at h
  split at h<;>first|(cases h;done)|skip
  rename_i h1;have:=ih h1;cases(aC h).2;simp only[g_];simp only at this;omega
 |st c ih=>
  intro b l bh s s' v h;cases b<;>first|(cases h;done)|skip
  change (match Co c true l s with|some (w,l,s)=>some (V.rc w,l,s)|none=>none)=_ at h;split at h<;>first|(cases h;done)|skip
  rename_i h1;cases h;exact ih h1
 |pr a c iha ihc=>
  intro b l bh s s' v h;cases b<;>first|(cases h;done)|skip
  change (match Co a false l s with
   |some (x,l,s)=>(match Co c true l s with|some (r,l,s)=>some (V.co x r,l,s)|none=>none)
   |none=>none)=_ at h
  split at h<;>first|(cases h;done)|skip
  rename_i h1;split at h<;>first|(cases h;done)|skip
  rename_i h2;cases h;exact bg (iha h1) (ihc h2)
 |nl k=>
  intro b l bh s s' v h;cases b<;>first|(cases h;done)|skip
  cases h;exact aO _
 |ni=>
  intro b l bh s s' v h;cases b<;>first|(cases h;done)|skip
  cases h;exact aq _
 |x t=>
  intro b l bh s s' v h;cases b<;>first|(cases h;done)|skip
  rcases l with _|⟨a,l⟩
  .cases h
  cases a<;>first|(cases h;done)|skip
  cases(aC h).2;exact bN _ _
 |os t=>
  intro b l bh s s' v h;cases b<;>first|(cases h;done)|skip
  rcases l with _|⟨a,l⟩
  .cases h
  cases a<;>first|(cases h;done)|skip
  rename_i ta _;cases ta<;>first|(cases h;done)|skip
  cases(aC h).2;exact aO _
 |rw t=>
  intro b l bh s s' v h;cases b<;>first|(cases h;done)|skip
  rcases l with _|⟨a,l⟩
  .cases h
  cases a<;>first|(cases h;done)|skip
  rename_i ta _;cases ta<;>first|(cases h;done)|skip
  rename_i ta _;cases ta<;>first|(cases h;done)|skip
  cases(aC h).2;exact aO _
 |mp k v=>
  intro b l bh s s' v h;cases b<;>first|(cases h;done)|skip
  rcases l with _|⟨a,l⟩
  .cases h
  cases a<;>first|(cases h;done)|skip
  rename_i ta _;cases ta<;>first|(cases h;done)|skip
  cases(aC h).2;exact aO _
 |_=>intro b l bh s s' v h;cases b<;>cases h
theorem Kh:∀{sh:Sh}{b:Bool}{l bh rest':List V}{s s':S2}{v:V}{φ:fM}{H:Hf}{c:List Value}{fp:List Nat},Co sh b (l++bh) s=some (v,rest',s')->GF S w sh l c fp->Inv S K w0 φ H w->(∀j,s.next<=j->j<s'.next->φ j=none)->wy S K w φ H fp->
  rest'=bh/\xF v=(V2 sh&&!b)/\∃u φ',pf S K w0 w φ H s s' fp u φ'/\RC S w φ' v c/\dZ s'.next s'.heap v:=by
 intro sh;induction sh with
 |x t=>
  rintro b l bh rest' s s' v φ H c fp hm ⟨rfl,y,rfl,h1⟩ hI hn hf;cases b<;>first|(cases hm;done)|skip
  obtain⟨e,h2⟩:=aC hm;obtain⟨rfl,e2⟩:=ap (ac h2);obtain⟨rfl,rfl⟩:=ap e2;exact⟨rfl,by simp[xF,V2],[],φ,pf.none hI (bN _ _) rfl,h1,trivial⟩
 |os t=>
  rintro b l bh rest' s s' v φ H c fp hm ⟨q,rfl,h1⟩ hI hn hf;cases b<;>first|(cases hm;done)|skip
  obtain⟨e,h2⟩:=aC hm;obtain⟨rfl,e2⟩:=ap (ac h2);obtain⟨rfl,rfl⟩:=ap e2;have hnx:=hn s.next (aq _) (aM _);simp only[aw,Bv,eA]at e
  have key:∃lo,RO S w .z lo (.ar t q 0)/\yH lo 0 lo.n c/\fp=ob w lo (.ar t q 0):=by
   rcases h1 with⟨rfl,rfl,rfl⟩|h1
   .exact ⟨⟨0,0,0,0,t,none⟩,⟨rfl,rfl,e.2.1,e.2.2,fun r e=>by cases e⟩,rfl,rfl⟩
   .exact h1
  obtain⟨lo,k1,k2,rfl⟩:=key;exact⟨rfl,rfl,_,_,pf.one hI hnx k1.z hf (by simp),⟨lo,fg _ _ _,k2⟩,aM _⟩
 |rw t=>
  rintro b l bh rest' s s' v φ H c fp hm ⟨q,rfl,h1⟩ hI hn hf;cases b<;>first|(cases hm;done)|skip
  obtain⟨e,h2⟩:=aC hm;obtain⟨rfl,e2⟩:=ap (ac h2);obtain⟨rfl,rfl⟩:=ap e2;have hnx:=hn s.next (aq _) (aM _);simp only[aw,Bv,eA]at e
  have key:∃lo,RO S w .z lo (.rw t q none)/\yH lo 0 lo.n c/\fp=ob w lo (.rw t q none):=by
   rcases h1 with⟨rfl,rfl,rfl⟩|h1
   .exact ⟨⟨0,0,0,0,.sl t,none⟩,⟨rfl,rfl,e.2.1,e.2.2,fun r e=>by cases e⟩,rfl,rfl⟩
   .exact h1
  obtain⟨lo,k1,k2,rfl⟩:=key;exact⟨rfl,rfl,_,_,pf.one hI hnx k1.z hf (by simp),⟨lo,fg _ _ _,k2⟩,aM _⟩
 |mp kT vT=>
  rintro b l bh rest' s s' v φ H c fp hm ⟨m,lo,rfl,k1,rfl,rfl⟩ hI hn hf;cases b<;>first|(cases hm;done)|skip
  obtain⟨e,h2⟩:=aC hm;obtain⟨rfl,e2⟩:=ap (ac h2);obtain⟨rfl,rfl⟩:=ap e2;have hnx:=hn s.next (aq _) (aM _);exact⟨rfl,rfl,_,_,pf.one (o:=.mp kT vT m) (lo:=lo) hI hnx k1.z hf (by simp),⟨lo,fg _ _ _,rfl⟩,aM _⟩
 |pb t sh ih=>
  rintro b l bh rest' s s' v φ H c fp hm ⟨bb,bz,f,rfl,rfl,k1,k2⟩ hI hn hf;cases b<;>first|(cases hm;done)|skip
  change (match Co sh false (l++bh) {s with next:=s.next+1}with
   |some (w,l,s')=>bif dF w false t then some (V.op s.next t [],l,g_ s' s.next (some (.bx t w)))else none
   |none=>none)=_ at hm
  split at hm<;>first|(cases hm;done)|skip
  rename_i w1 l1 s1 h1;obtain⟨e,h2⟩:=aC hm;obtain⟨rfl,e2⟩:=ap (ac h2);obtain⟨rfl,rfl⟩:=ap e2;have hnb:=hf.2 bb (by simp);obtain⟨n1,n2⟩:=eR.1 hf.1;obtain⟨rfl,_,u,φ1,hL,hc,hok⟩:=ih h1 k2 hI (fun j a b=>hn j (by simp only at a;omega) b) ⟨n2,fun b hb=>hf.2 b (by simp[hb])⟩;have hle:=hL.le;have hlt:s.next<s1.next:=hle;have hnx:φ1 s.next=none:=by cases e:φ1 s.next with|none=>rfl|some m=>have:=(hL.new _ m e (hn s.next (aq _) hlt)).1;simp only at this;omega
  have hre:=mg (φ:=φ1) ⟨bb,0,0,0,t,none⟩ hnx;have hheap:s1.heap=u++s.heap:=hL.heap
  have hI2:Inv S K w0 (ext φ1 s.next ⟨bb,0,0,0,t,none⟩) (up (up H u) [(s.next,some (.bx t w1))]) w:=by
   refine hL.inv.lay hre (fg _ _ _) ⟨rfl,e,bz,k1,hc.mono (gC.refl _ _) hre⟩ fun b hb=>?_;obtain rfl:b=bb:=by simpa[ob]using hb
   refine⟨hnb.1,hnb.2.1,hnb.2.2.1,fun j a m _ q1 q2 q3=>?_⟩;rcases hL.bP j a m b q1 q2 q3 with q|⟨q,q'⟩
   .exact n1 q
   .exact hnb.2.2.2 j a m q q' q3
  have fe:xX s1.next s1.heap ((s.next,some (.bx t w1))::s1.heap):=(jS.cons (u:=[]) (fun _ h=>.inr (.inl (by cases h;rfl))) jS.nil).fe;refine⟨rfl,rfl,(s.next,some (.bx t w1))::u,_,⟨by simp only[g_];omega,?_,hL.GL.trans hre,fun i l a b=>?_,fun p hp=>?_,by rw[<-mc,jA];exact hI2,fun j a m b q1 q2 q3=>?_,fun p hp t' c e=>?_⟩,⟨_,fg _ _ _,rfl,by cases t<;>trivial,by cases t<;>rfl⟩,hlt⟩
  .have:=hL.eq;rw[this];rfl
  .simp only[ext]at a;split at a
   .rename_i e;simp only[g_];omega
   .have:=hL.new i l a b;simp only at this;simp only[g_];omega
  .rcases aI.1 hp with rfl|hp
   .exact ⟨aq _,hlt⟩
   .have:=hL.B0 p hp;simp only at this;simp only[g_];omega
  .rw [<-mc,jA,bC]at q1;simp only[ext]at q2;by_cases e:s.next=j
   .rw [if_pos e]at q1;rw[if_pos e.symm]at q2;cases q1;cases q2;simp only[ob,az]at q3;exact .inl (by simp[q3])
   .rw [if_neg e]at q1;rw[if_neg (fun h=>e h.symm)]at q2;exact(hL.bP j a m b q1 q2 q3).imp (fun h=>by simp[h]) id
  .have e1:(s.next,some (O.bx t w1))::u++s.heap=(s.next,some (O.bx t w1))::s1.heap:=by rw[hheap];rfl
   rw[e1];rcases aI.1 hp with rfl|hp
   .cases e;exact dQ (aq _) fe hok
   .have:=hL.bx p hp t' c e;simp only[<-hheap]at this;exact dQ (aq _) fe this
 |nl k=>
  rintro b l bh rest' s s' v φ H c fp hm ⟨rfl,rfl,rfl⟩ hI hn hf;cases b<;>first|(cases hm;done)|skip
  obtain⟨rfl,e2⟩:=ap (ac hm);obtain⟨rfl,rfl⟩:=ap e2;exact⟨rfl,rfl,[],φ,pf.none hI (aO _) rfl,rfl,trivial⟩
 |st sh ih=>
  intro b l bh rest' s s' v φ H c fp hm h1 hI hn hf;cases b<;>first|(cases hm;done)|skip
  change (match Co sh true (l++bh) s with|some (w,l,s)=>some (V.rc w,l,s)|none=>none)=_ at hm;split at hm<;>first|(cases hm;done)|skip
  rename_i w1 l1 s1 h2;obtain⟨rfl,e2⟩:=ap (ac hm);obtain⟨rfl,rfl⟩:=ap e2;obtain⟨q1,_,u,φ1,hL,hc,hok⟩:=ih h2 h1 hI hn hf;exact⟨q1,rfl,u,φ1,hL,hc,hok⟩
 |pr a sh iha ihb=>
  rintro b l bh rest' s s' v φ H c fp hm ⟨l1,l2,c1,c2,f1,f2,rfl,rfl,rfl,h1,h2⟩ hI hn hf;cases b<;>first|(cases hm;done)|skip
  change (match Co a false (l1++l2++bh) s with
   |some (x,l,s)=>(match Co sh true l s with|some (r,l,s)=>some (V.co x r,l,s)|none=>none)
   |none=>none)=_ at hm
  rw[aQ]at hm;split at hm<;>first|(cases hm;done)|skip
  rename_i x1 m1 s1 h3;split at hm<;>first|(cases hm;done)|skip
  rename_i x2 m2 s2 h4;obtain⟨rfl,e2⟩:=ap (ac hm);obtain⟨rfl,rfl⟩:=ap e2;have hle2:s1.next<=s2.next:=Ki h4;obtain⟨rfl,_,u1,φ1,hL1,hc1,hok1⟩:=iha h3 h1 hI (fun j a b=>hn j a (by omega)) hf.left;have hle1:=hL1.le
  obtain⟨rfl,_,u2,φ2,hL2,hc2,hok2⟩:=ihb h4 h2 hL1.inv (fun j a b=>by
   cases e:φ1 j with
   |none=>rfl
   |some m=>have:=hL1.new j m e (hn j (by omega) b);omega) (hL1.N2 hf)
  exact⟨rfl,rfl,u2++u1,φ2,hL1.u9 hL2,⟨c1,c2,rfl,hc1.mono (gC.refl _ _) hL2.GL,hc2⟩,dQ hL2.le hL2.fe hok1,hok2⟩
 |ni=>
  rintro b l bh rest' s s' v φ H c fp hm ⟨rfl,rfl,rfl⟩ hI hn hf;cases b<;>first|(cases hm;done)|skip
  obtain⟨rfl,e2⟩:=ap (ac hm);obtain⟨rfl,rfl⟩:=ap e2;exact⟨rfl,rfl,[],φ,pf.none hI (aq _) rfl,rfl,trivial⟩
 |_=>intro b l bh rest' s s' v φ H c fp hm;cases b<;>cases hm
end
theorem xI.gM{n n':Nat}{h:H2}{u:ri}(hS:xI n h)(hle:n<=n')(hu:jS n h u)(hlt:∀p∈u,X1 n' p)(hbx:∀p∈u,∀t c,p.2=some (.bx t c)->dZ n' (u++h) c):xI n' (u++h):=by
 constructor
 .intro id;rw[p9];simp only[up];split
  .rename_i x hx;rcases hlt _ (lg.1 _ hx)with q|q
   .exact q.2
   .have q:x=none:=q;rw[q];trivial
  .exact (hS.ln id).mono hle
 .intro id o ho;rw[p9]at ho;simp only[up]at ho;split at ho
  .rename_i x hx;subst ho;rcases hlt _ (lg.1 _ hx)with q|q
   .exact q.1
   .cases q
  .have:=hS.lt id o ho;omega
 .intro id t c ho;rw[p9]at ho;simp only[up]at ho;split at ho
  .rename_i x hx;subst ho;exact hbx _ (lg.1 _ hx) t c rfl
  .exact dQ hle hu.fe (hS.bx id t c ho)
theorem jS.u9{n n1:Nat}{h:H2}{u1 u2:ri}(hn:n<=n1)(h1:jS n h u1)(h2:jS n1 (u1++h) u2):jS n h (u2++u1):=fun p hp o' e=>by
 rcases aF.1 hp with hp|hp
 .rcases h2 p hp o' e with q|q|⟨o,q1,q2⟩
  .exact .inl (by omega)
  .exact .inr (.inl q)
  .by_cases hlt:n<=p.1
   .exact .inl hlt
   .rcases h1.fe p.1 o (by omega) q1 with q|⟨o0,q3,q4⟩
    .rw [q2.abe]at q;cases q
    .exact .inr (.inr ⟨o0,q3,q4.trans q2⟩)
 .exact h1 p hp o' e
section
variable{S S' K:Nat->Prop}{w0 w w':World}{φ φ':fM}{H:Hf}{n:Nat}{h:H2}
def GO(S:Nat->Prop)(w:World):List Sh->List V->List Value->List Nat->Prop
 |[],l,[],fp=>l=[]/\fp=[]
 |c::r,l,x::xs,fp=>∃l1 l2 f1 f2,l=l1++l2/\fp=f1++f2/\EF S w c l1 x f1/\GO S w r l2 xs f2
 |_,_,_,_=>False
def R1l(S:Nat->Prop)(w:World)(φ:fM):List V->List Value->Prop
 |[],[]=>True
 |v::vs,x::xs=>R1 S w φ v x/\R1l S w φ vs xs
 |_,_=>False
theorem Ah.GL(hr:Ren φ φ'):∀{vs:List V}{xs:List Value},Ah S w φ vs xs->Ah S w φ' vs xs:=by
 intro vs;induction vs with
 |nil=>intro xs h;cases xs<;>exact h
 |cons v vs ih=>intro xs h;cases xs with|nil=>exact h.elim|cons x xs=>exact⟨h.1.mono (gC.refl _ _) hr,ih h.2⟩
theorem wy.of{f:List Nat}(hf:wy S K w φ H f){g:List Nat}(hn:g.Nodup)(hs:∀b∈g,b∈f):wy S K w φ H g:=⟨hn,fun b hb=>hf.2 b (hs b hb)⟩
theorem LH:∀{rs:List Sh}{l bh:List V}{s s':S2}{xs:List V},Dg rs l s=some (xs,bh,s')->s.next<=s'.next:=by
 intro rs;induction rs with
 |nil=>intro l bh s s' xs h;cases h;exact aq _
 |cons c r ih=>
  intro l bh s s' xs h;simp only[Dg]at h;split at h<;>first|(cases h;done)|skip
  rename_i h1;split at h<;>first|(cases h;done)|skip
  rename_i h2;cases h;exact bg (Ki h1) (ih h2)
theorem TL:∀{rs:List Sh}{l bh rest':List V}{s s':S2}{xs:List V}{ys:List Value}{φ:fM}{H:Hf}{fp:List Nat},Dg rs (l++bh) s=some (xs,rest',s')->GO S w rs l ys fp->Inv S K w0 φ H w->(∀j,s.next<=j->j<s'.next->φ j=none)->wy S K w φ H fp->
  ∃u φ',pf S K w0 w φ H s s' fp u φ'/\R1l S w φ' xs ys/\∀v∈xs,dZ s'.next s'.heap v:=by
 intro rs;induction rs with
 |nil=>intro l bh rest' s s' xs ys φ H fp hm hr hI hn hf;cases ys with|cons y ys=>exact hr.elim|nil=>obtain⟨rfl,rfl⟩:=hr;cases hm;exact⟨[],φ,pf.none hI (aq _) rfl,trivial,by simp⟩
 |cons c r ih=>
  intro l bh rest' s s' xs ys φ H fp hm hr hI hn hf;cases ys with
  |nil=>exact hr.elim
  |cons y ys=>
   obtain⟨l1,l2,f1,f2,rfl,rfl,h1,h2⟩:=hr;simp only[Dg]at hm;rw[aQ]at hm;split at hm<;>first|(cases hm;done)|skip
   rename_i x1 m1 s1 h3;split at hm<;>first|(cases hm;done)|skip
   rename_i xs2 m2 s2 h4;obtain⟨rfl,e2⟩:=ap (ac hm);obtain⟨rfl,rfl⟩:=ap e2;have hle2:s1.next<=s2.next:=LH h4;rcases h1 with⟨rfl,_⟩|⟨cs,h1,h5⟩
   .cases h3
   obtain⟨rfl,hag,u1,φ1,hL1,hc1,hok1⟩:=Kh h3 h1 hI (fun j a b=>hn j a (by omega)) hf.left;have hle1:=hL1.le
   obtain⟨u2,φ2,hL2,hc2,hok2⟩:=ih h4 h2 hL1.inv (fun j a b=>by
    cases e:φ1 j with
    |none=>rfl
    |some m=>have:=hL1.new j m e (hn j (by omega) b);omega) (hL1.N2 hf)
   refine⟨u2++u1,φ2,hL1.u9 hL2,⟨⟨cs,hc1.mono (gC.refl _ _) hL2.GL,?_⟩,hc2⟩,fun v hv=>?_⟩
   .rw [hag];simpa using h5
   .rcases aI.1 hv with rfl|hv
    .exact dQ hL2.le hL2.fe hok1
    .exact hok2 v hv
theorem Vb:∀{xs:List V}{ys:List Value},R1l S w φ xs ys->RW.V6 S w φ (eO xs) ys:=by
 intro xs;induction xs with
 |nil=>intro ys h;cases ys with|nil=>rfl|cons y ys=>exact h.elim
 |cons x xs ih=>intro ys h;cases ys with|nil=>exact h.elim|cons y ys=>exact⟨y,ys,rfl,h.1,ih h.2⟩
def yv:List Value->Value
 |[v]=>v
 |vs=>.tuple vs.toArray
theorem WL{xs:List V}{ys:List Value}(h:R1l S w φ xs ys):RW S w φ (PE xs) (yv ys):=by
 match xs,ys,h with|[x],[y],h=>exact h.1.rw|[],[],h=>exact⟨[],rfl,rfl⟩|x::x2::xs,y::y2::ys,h=>exact⟨_,rfl,Vb h⟩
structure Bk(S K:Nat->Prop)(w0 w:World)(φ:fM)(H:Hf)(s s1:S2)(ids fp:List Nat)(u:ri)(φ':fM):Prop where
 le:s.next<=s1.next
 eq:s1=⟨s.gX,u++s.heap,s1.next,u.map (·.1)++s.wo,s.gh⟩
 GL:Ren φ φ'
 new:∀i l,φ' i=some l->φ i=none->s.next<=i/\i<s1.next
 Jk:jS s.next s.heap u
 bx:∀p∈u,∀t c,p.2=some (.bx t c)->dZ s1.next (u++s.heap) c
 B0:∀i∈ids,∃x,gB u i=some x
 inv:Inv S K w0 φ' (up H u) w
 bP:∀j a m b,up H u j=some a->φ' j=some m->b∈ob w m a->b∈fp\/(H j=some a/\φ j=some m)
theorem Bk.heap{s s1:S2}{ids fp:List Nat}{u:ri}(h:Bk S K w0 w φ H s s1 ids fp u φ'):s1.heap=u++s.heap:=by rw[h.eq]
theorem Bk.fe{s s1:S2}{ids fp:List Nat}{u:ri}(h:Bk S K w0 w φ H s s1 ids fp u φ'):xX s.next s.heap s1.heap:=by rw[h.heap];exact h.Jk.fe
theorem Bk.refl{s:S2}(hI:Inv S K w0 φ H w):Bk S K w0 w φ H s s [] [] [] φ:=⟨aq _,rfl,Ren.refl _,(fun i l a b=>by rw[a]at b;cases b),jS.nil,by simp,by simp,hI,fun _ _ _ _ a b _=>.inr ⟨a,b⟩⟩
theorem Bk.u9{s s1 s2:S2}{i1 i2 f1 f2:List Nat}{u1 u2:ri}{φ1 φ2:fM}(h1:Bk S K w0 w φ H s s1 i1 f1 u1 φ1)(h2:Bk S K w0 w φ1 (up H u1) s1 s2 i2 f2 u2 φ2):Bk S K w0 w φ H s s2 (i1++i2) (f1++f2) (u2++u1) φ2:=by
 have l1:=h1.le;have l2:=h2.le;refine⟨by omega,?_,h1.GL.trans h2.GL,fun i l a b=>?_,?_,fun p hp t c e=>?_,fun i hi=>?_,by rw[jA];exact h2.inv,fun j a m b q1 q2 q3=>?_⟩
 .have e1:=h1.eq;have e2:=h2.eq;rw[e2];simp only[S2.mk.injEq,aQ,eS];rw[e1];simp
 .cases e:φ1 i with|none=>have:=h2.new i l a e;omega|some m=>have:=h1.new i m e b;omega
 .exact h1.Jk.u9 l1 (by rw[<-h1.heap];exact h2.Jk)
 .rw [aQ,<-h1.heap,<-h2.heap];rcases aF.1 hp with hp|hp
  .have:=h2.bx p hp t c e;rwa[<-h2.heap]at this
  .have:=h1.bx p hp t c e;rw[<-h1.heap]at this;exact dQ l2 h2.fe this
 .rw [sT];cases e:gB u2 i with
  |some x=>exact⟨x,rfl⟩
  |none=>
   rcases aF.1 hi with hi|hi
   .exact h1.B0 i hi
   .obtain ⟨x,hx⟩:=h2.B0 i hi;rw[e]at hx;cases hx
 .rw [jA]at q1;rcases h2.bP j a m b q1 q2 q3 with h|⟨h,h'⟩
  .exact .inl (dL _ h)
  .rcases h1.bP j a m b h h' q3 with h|h
   .exact .inl (bw _ h)
   .exact .inr h
theorem Bk.N2{s s':S2}{ids f1 f2:List Nat}{u:ri}(h:Bk S K w0 w φ H s s' ids f1 u φ')(hf:wy S K w φ H (f1++f2)):wy S K w φ' (up H u) f2:=by
 obtain⟨h1,h2⟩:=hf;obtain⟨n1,n2,n3⟩:=bD.1 h1;refine⟨n2,fun b hb=>?_⟩;obtain⟨c1,c2,c3,c4⟩:=h2 b (by simp[hb]);refine⟨c1,c2,c3,fun j a m q1 q2 q3=>?_⟩;rcases h.bP j a m b q1 q2 q3 with q|⟨q,q'⟩
 .exact n3 b q b hb rfl
 .exact c4 j a m q q' q3
theorem pf.bk{s s':S2}{fp:List Nat}{u:ri}(h:pf S K w0 w φ H s s' fp u φ'):Bk S K w0 w φ H s s' [] fp u φ':=⟨h.le,h.eq,h.GL,h.new,h.Jk,h.bx,by simp,h.inv,h.bP⟩
theorem kg:∀{i:List Nat}{s:S2},mj i s=⟨s.gX,i.map (fun j=>(j,none))++s.heap,s.next,i++s.wo,s.gh⟩:=by intro i;induction i with|nil=>intro s;rfl|cons a i ih=>intro s;simp only[mj,ih,g_];rfl
theorem uY{i:List Nat}{j:Nat}:gB (i.map (fun k=>(k,(none:Option O)))) j=if j∈i then some none else none:=by
 induction i with
 |nil=>rfl
 |cons a i ih=>
  simp only[a_,gB];by_cases e:a=j
  .simp [e]
  .have e':(a==j)=false:=by simpa using e
   have e2:¬j=a:=fun h=>e h.symm;simp[e',ih,e2]
theorem Bk.BZ{s:S2}{i:List Nat}(hI:Inv S K w0 φ H w)(hk:∀j∈i,H j=none):Bk S K w0 w φ H s (mj i s) i [] (i.map (fun j=>(j,none))) φ:=by
 have hup:up H (i.map (fun j=>(j,none)))=H:=by
  funext j;simp only[up,uY];by_cases e:j∈i
  .simp [e,hk j e]
  .simp [e]
 refine⟨by rw[kg];exact aq _,by rw[kg];simp[Function.comp_def],Ren.refl _,(fun i l a b=>by rw[a]at b;cases b),fun p hp o' e=>?_,fun p hp t c e=>?_,fun j hj=>⟨none,by rw[uY,if_pos hj]⟩,by rw[hup];exact hI,fun j a m b q1 q2 _=>.inr ⟨by rwa[hup]at q1,q2⟩⟩
 all_goals
  obtain⟨j,_,rfl⟩:=aL.1 hp;cases e
theorem Bk.put{s:S2}{id:Nat}{o:O}{lo:nF}(hI:Inv S K w0 φ H w)(hl:φ id=some lo)(hro:RO S w φ lo o)(hf:wy S K w φ H (ob w lo o))(fe:Sj o=true\/∃o0,fO s.heap id=some o0/\BK o0 o)
  (hbx:∀t c,o=.bx t c->dZ s.next ((id,some o)::s.heap) c):Bk S K w0 w φ H s (g_ s id (some o)) [id] (ob w lo o) [(id,some o)] φ:=by
 refine⟨aq _,rfl,Ren.refl _,(fun i l a b=>by rw[a]at b;cases b),jS.cons (fun o' e=>.inr (by cases e;exact fe)) jS.nil,fun p hp t c e=>?_,fun i hi=>?_,hI.lay (Ren.refl _) hl hro fun b hb=>?_,fun j a m b q1 q2 q3=>?_⟩
 .obtain rfl:=az.1 hp;exact hbx t c (ac e)
 .obtain rfl:=az.1 hi;exact⟨some o,by simp[gB]⟩
 .obtain ⟨c1,c2,c3,c4⟩:=hf.2 b hb;exact⟨c1,c2,c3,fun j a m _ h1 h2=>c4 j a m h1 h2⟩
 .rw [bC]at q1;by_cases e:id=j
  .subst e;rw[if_pos rfl]at q1;cases q1;obtain rfl:=ac (hl.symm.trans q2);exact .inl q3
  .rw [if_neg e]at q1;exact .inr ⟨q1,q2⟩
end
end Go.Ev
