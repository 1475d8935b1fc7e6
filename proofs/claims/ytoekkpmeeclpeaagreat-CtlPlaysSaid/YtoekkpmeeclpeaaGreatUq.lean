/- What was lent is laid back, second part. Conditions: the relation of XPa. -/
import Derived.Test.YtoekkpmeeclpeaaGreatUi
open Bool renaming and_eq_true->ax
open List renaming all_eq_true->cw,any_eq_false->vw,append_cancel_right->sK,append_nil->bO,filter_cons->dN,flatMap_cons->eC,getElem?_eq_getElem->bf,mem_append->aK,mem_cons->aO,mem_cons_of_mem->bp,mem_filter->dy,mem_map->aR,mem_singleton->aB,nil_append->e_
open List.cons renaming inj->aE
open Nat renaming add_le_add_left->rL,le_refl->aw,le_succ->cA,le_trans->bg,lt_of_lt_of_le->bY,lt_succ_self->bh,mul_le_mul_left->jh
open Option.some renaming inj->af,injEq->eZ
open Prod.mk renaming inj->aq
namespace Go.Ev
section
variable{S S' K:Nat->Prop}{w0 w w':World}{φ φ':iq}{H:Hf}{n:Nat}{h:H2}
theorem FC{n id:Nat}{h h':H2}{l:rJ}(hh:D_ n h h')(hi:id<n)(hs:∀o,fO h id=some o->HR l o):∀o,fO h' id=some o->HR l o:=fun o' ho=>by
 rcases hh id o' hi ho with q|⟨o,h1,h2⟩
 .cases o'<;>first|(done)|trivial
 .have:=hs o h1;cases o<;>cases o'<;>simp[If]at h2<;>first|exact h2.elim|skip
  all_goals simp[HR]at this|-
  .exact ⟨this.1.trans h2.2.1,this.2.trans h2.2.2.1⟩
  .exact ⟨this.1.trans h2.2.1,this.2.trans h2.2.2.1⟩
  .exact ⟨this.1.trans h2.2.1,this.2.trans h2.2.2.1⟩
  simp_all
def LL(w:World)(l:rJ):Prop:=∀m,l.n=some m->∃cr,uq w l.cQ cr/\cr.size=l.ext/\m<=l.cap/\l.jA+m*ei l.t<=l.ext
def WQ(w:World)(φ:iq)(n:Nat)(h:H2)(e:V×List Nat):Prop:=(∀i∈e.2,i<n)/\fG n h e.1/\match e.1 with|.so id=>e.2=[id]/\∃l,φ id=some l/\LL w l/\oq l.t=true/\0<ei l.t/\∀o,fO h id=some o->HR l o|.sr id=>e.2=[id]/\∃l t,φ id=some l/\LL w l/\l.t=.sl t/\oq t=true/\0<ei t/\∀o,fO h id=some o->HR l o|.op id _ []=>∃r,e.2=id::r|.nl _=>e.2=[]|_=>True
theorem WQ.mono{n n':Nat}{h h':H2}{e:V×List Nat}(hr:Ren φ φ')(hn:n<=n')(hs:D_ n h h')(hq:WQ w φ n h e):WQ w φ' n' h' e:=by
 obtain⟨v,i⟩:=e;obtain⟨h0,h1,h2⟩:=hq;refine⟨fun i hi=>bY (h0 i hi) hn,eA hn hs h1,?_⟩;cases v<;>first|trivial|exact h2|skip
 rotate_right
 .rename_i id t p;cases p<;>first|exact h2|trivial
 .obtain ⟨q1,l,q2,q3,q4,q5,q6⟩:=h2;exact⟨q1,l,hr _ _ q2,q3,q4,q5,FC hs h1 q6⟩
 .obtain ⟨q1,l,t,q2,q3,q4,q5,q6,q7⟩:=h2;exact⟨q1,l,t,hr _ _ q2,q3,q4,q5,q6,FC hs h1 q7⟩
theorem yr{α:Type}{a b:Sl α}{u:Unit}(h:py a b=some u):nB a=nB b:=by
 cases a<;>cases b<;>first|rfl|cases h|skip
 have:=Mb.1 h;simp[nB,this]
theorem TT{l lo:rJ}{m:Nat}{x:Value}(h1:E6 l 0 (some m) [x])(h2:E6 lo 0 (some m) [x]):l.cQ=lo.cQ/\(0<m->l.jA=lo.jA)/\l.cap=lo.cap:=by
 obtain⟨a,c,e,p1,p2,p3,p4⟩:=h1;obtain⟨a',c',e',q1,q2,q3,q4⟩:=h2
 grind
theorem adq{l lo:rJ}{t:Ty}{s:Sl (El t)}{v v':Nat}{x:Value}(h:RO S w φ lo (.ar t s v))(hx:E6 lo 0 lo.n [x])(ht:l.t=t)(hn:l.n=nB s)(hl:LL w l)(hx':E6 l 0 l.n [x]):RO S w φ l (.ar t s v')/\ob w l (.ar t s v')=ob w lo (.ar t s v):=by
 obtain⟨h1,h2,h3,h4,h5⟩:=h;cases s with
 |nil=>exact⟨⟨ht,hn,h3,h4,fun r e=>by cases e⟩,rfl⟩
 |mk r=>obtain⟨cr,d,k1,k2,k3,k4,k5,k6⟩:=h5 r rfl;rw[hn]at hx';rw[h2]at hx;obtain⟨e1,e2,e3⟩:=TT hx' hx;obtain⟨arr2,m1,m2,m3,m4⟩:=hl _ hn;rw[ht]at m4;have m1':=m1;refine⟨⟨ht,hn,h3,h4,fun r' e=>?_⟩,by simp[ob,e1]⟩;cases e;refine⟨arr2,d,m1',m2,m3,m4,k5,?_⟩;rw[e1];cases r with|nil=>obtain rfl:d=[]:=k5;trivial|cons y r=>rw[e2 (by simp)];exact k6
theorem Kj{f g:Nat->List Nat}:∀{L:List Nat},(∀i∈L,f i=g i)->L.flatMap f=L.flatMap g:=by intro L;induction L with|nil=>intro _;rfl|cons a L ih=>intro h;rw[eC,eC,h a (by simp),ih fun i hi=>h i (by simp[hi])]
theorem abr{l lo:rJ}{t:Ty}{s:Sl (Sl (El t))}{x:Value}(h:RO S w φ lo (.rw t s none))(hx:E6 lo 0 lo.n [x])(ht:l.t=.sl t)(hn:l.n=nB s)(hl:LL w l)(hx':E6 l 0 l.n [x]):RO S w φ l (.rw t s none)/\ob w l (.rw t s none)=ob w lo (.rw t s none):=by
 obtain⟨h1,h2,h3,h4,h5⟩:=h;cases s with
 |nil=>exact⟨⟨ht,hn,h3,h4,fun r e=>by cases e⟩,rfl⟩
 |mk r=>
  obtain⟨cr,k1,k2,k3,k4,k5,k6⟩:=h5 r rfl;rw[hn]at hx';rw[h2]at hx;obtain⟨e1,e2,e3⟩:=TT hx' hx;obtain⟨arr2,m1,m2,m3,m4⟩:=hl _ hn;rw[ht]at m4;have e0:ei (.sl t)=1:=rfl;rw[e0,Nat.mul_one]at m4;have m1':=m1;rw[e1]at m1;obtain rfl:=m1.zH k1;have hrow:∀i,i<r.length->vR w l none i=vR w lo none i:=fun i hi=>by simp only[vR,xX,e1,e2 (by omega)]
  refine⟨⟨ht,hn,h3,h4,fun r' e=>?_⟩,?_⟩
  .cases e;refine⟨arr2,m1',m2,m3,m4,fun i j b hi hj hb=>?_,fun i y hi=>?_⟩
   .grind
   grind
  grind [ob,Jy,Kj]
structure wu(s s1:S2)(u:xm):Prop where
 le:s.next<=s1.next
 eq:s1=⟨s.jl,u++s.heap,s1.next,u.map (·.1)++s.wo,s.gh⟩
 QJ:mA s.next s.heap u
 lt:∀p∈u,LtO s1.next p
 bx:∀p∈u,∀t c,p.2=some (.bx t c)->fG s1.next (u++s.heap) c
theorem wu.heap{s s1:S2}{u:xm}(h:wu s s1 u):s1.heap=u++s.heap:=by rw[h.eq]
theorem wu.gj{s s1:S2}{u:xm}(h:wu s s1 u):D_ s.next s.heap s1.heap:=by rw[h.heap];exact h.QJ.gj
theorem wu.DZ{s s1:S2}{u:xm}(h:wu s s1 u)(hS:DX s.next s.heap):DX s1.next s1.heap:=by have:=hS.iT h.le h.QJ h.lt h.bx;rwa[<-h.heap]at this
theorem wu.refl(s:S2):wu s s []:=⟨aw _,rfl,mA.nil,by simp,by simp⟩
theorem wu.BC{s s1 s2:S2}{u1 u2:xm}(h1:wu s s1 u1)(h2:wu s1 s2 u2):wu s s2 (u2++u1):=by
 have l1:=h1.le;have l2:=h2.le;refine⟨by omega,?_,h1.QJ.BC l1 (by rw[<-h1.heap];exact h2.QJ),fun p hp=>?_,fun p hp t c e=>?_⟩
 .have e1:=h1.eq;have e2:=h2.eq
  grind
 .rcases aK.1 hp with hp|hp
  .exact h2.lt p hp
  .exact (h1.lt p hp).mono l2
 .rw [List.append_assoc,<-h1.heap,<-h2.heap];rcases aK.1 hp with hp|hp
  .have:=h2.bx p hp t c e;rwa[<-h2.heap]at this
  .have:=h1.bx p hp t c e;rw[<-h1.heap]at this;exact eA l2 h2.gj this
theorem wu.zH{s s1:S2}{u u':xm}(h:wu s s1 u)(h':s1.heap=u'++s.heap):u'=u:=sK (h'.symm.trans h.heap)
theorem wu.skip{s s1:S2}(hle:s.next<=s1.next)(he:s1=⟨s.jl,s.heap,s1.next,s.wo,s.gh⟩):wu s s1 []:=⟨hle,he,mA.nil,by simp,by simp⟩
theorem wu.new(s:S2)(o:O)(ho:∀t c,o≠.bx t c)(hln:G4 (s.next+1) (some o):=by trivial):wu s (tE s o) [(s.next,some o)]:=⟨cA _,rfl,mA.cons (fun _ _=>.inl (aw _)) mA.nil,fun p hp=>by obtain rfl:=aB.1 hp;exact .inl ⟨bh _,hln⟩,fun p hp t c e=>by simp_all⟩
theorem wu.put{s:S2}{id:Nat}{o:O}(hid:id<s.next)(gj:isB o=true\/∃o0,fO s.heap id=some o0/\If o0 o)(hbx:∀t c,o=.bx t c->fG s.next ((id,some o)::s.heap) c)(hln:G4 s.next (some o):=by trivial):wu s (j8 s id (some o)) [(id,some o)]:=⟨aw _,rfl,mA.cons (fun o' e=>.inr (by cases e;exact gj)) mA.nil,fun p hp=>by obtain rfl:=aB.1 hp;exact .inl ⟨hid,hln⟩,fun p hp t c e=>by obtain rfl:=aB.1 hp;exact hbx t c (af e)⟩
theorem wu.G7(s:S2)(i:List Nat):wu s (kx i s) (i.map (fun j=>(j,none))):=by
 refine⟨by rw[kI];exact aw _,by rw[kI];simp[Function.comp_def],fun p hp o' e=>?_,fun p hp=>?_,fun p hp t c e=>?_⟩
 all_goals
  grind
theorem wu.box{s:S2}{id:Nat}{t:Ty}{c:V}(hid:id<s.next)(hc:fG s.next s.heap c):wu s (j8 s id (some (.bx t c))) [(id,some (.bx t c))]:=wu.put hid (.inl rfl) fun t' c' e=>by cases e;have:mA s.next s.heap [(id,some (O.bx t c))]:=mA.cons (fun _ h=>.inr (.inl (by cases h;rfl))) mA.nil;exact eA (aw _) this.gj hc
theorem Nj:∀{sh:Sh}{b:Bool}{l bH:List V}{s s':S2}{v:V},IW sh b l s=some (v,bH,s')->∃u,wu s s' u/\fG s'.next s'.heap v:=by
 intro sh;induction sh with
 |pb t c ih=>
  intro b l bH s s' v h;cases b<;>cases l<;>first|(cases h;done)|skip
  rename_i y l;change (match N6 (QM c) y with|some m=>(match IW c false m {s with next:=s.next+1}with|some (w,[],s')=>bif fg w false t then some (V.op s.next t [],l,j8 s' s.next _)else none|_=>none)|none=>none)=_ at h;split at h<;>first|(cases h;done)|skip
  split at h<;>first|(cases h;done)|skip
  rename_i w1 s1 h1;obtain⟨u,hT,hok⟩:=ih h1;have hle:=hT.le;simp only at hle;cases(aN h).2;have h2:=by have:=wu.BC (wu.skip (s:=s) (cA _) rfl) hT;rwa[bO]at this
  exact⟨_,h2.BC (wu.box (by omega) hok),by show s.next<s1.next;omega⟩
 |st c ih=>
  intro b l bH s s' v h;cases b<;>first|(cases h;done)|skip
  change (match IW c true l s with|some (w,l,s)=>some (V.rc w,l,s)|none=>none)=_ at h;split at h<;>first|(cases h;done)|skip
  rename_i h1;cases h;obtain⟨u,hT,ho⟩:=ih h1;exact⟨u,hT,ho⟩
 |pr a c iha ihc=>
  intro b l bH s s' v h;cases b<;>first|(cases h;done)|skip
  change (match IW a false l s with
   |some (x,l,s)=>(match IW c true l s with|some (r,l,s)=>some (V.co x r,l,s)|none=>none)
   |none=>none)=_ at h
  split at h<;>first|(cases h;done)|skip
  rename_i h1;split at h<;>first|(cases h;done)|skip
  rename_i h2;cases h;obtain⟨u1,t1,o1⟩:=iha h1;obtain⟨u2,t2,o2⟩:=ihc h2;exact⟨_,t1.BC t2,eA t2.le t2.gj o1,o2⟩
 |nl k=>
  intro b l bH s s' v h;cases b<;>first|(cases h;done)|skip
  cases h;exact⟨_,wu.skip (cA _) rfl,trivial⟩
 |ni=>
  intro b l bH s s' v h;cases b<;>first|(cases h;done)|skip
  cases h;exact⟨_,wu.refl _,trivial⟩
 |x t=>
  intro b l bH s s' v h;cases b<;>first|(cases h;done)|skip
  rcases l with _|⟨a,l⟩
  .cases h
  cases a<;>first|(cases h;done)|skip
  cases(aN h).2;exact⟨_,wu.skip (Nat.le_add_right _ _) rfl,trivial⟩
 |os t=>
  intro b l bH s s' v h;cases b<;>first|(cases h;done)|skip
  rcases l with _|⟨a,l⟩
  .cases h
  cases a<;>first|(cases h;done)|skip
  rename_i ta _;cases ta<;>first|(cases h;done)|skip
  cases(aN h).2;exact⟨_,wu.new _ _ (by simp),bh _⟩
 |rw t=>
  intro b l bH s s' v h;cases b<;>first|(cases h;done)|skip
  rcases l with _|⟨a,l⟩
  .cases h
  cases a<;>first|(cases h;done)|skip
  rename_i ta _;cases ta<;>first|(cases h;done)|skip
  rename_i ta _;cases ta<;>first|(cases h;done)|skip
  cases(aN h).2;exact⟨_,wu.new _ _ (by simp),bh _⟩
 |mp k v=>
  intro b l bH s s' v h;cases b<;>first|(cases h;done)|skip
  rcases l with _|⟨a,l⟩
  .cases h
  cases a<;>first|(cases h;done)|skip
  rename_i ta _;cases ta<;>first|(cases h;done)|skip
  cases(aN h).2;exact⟨_,wu.new _ _ (by simp),bh _⟩
 |_=>intro b l bH s s' v h;cases b<;>cases h
theorem Y7:∀{rs:List Sh}{l bH:List V}{s s':S2}{xs:List V},JY rs l s=some (xs,bH,s')->∃u,wu s s' u/\∀v∈xs,fG s'.next s'.heap v:=by
 intro rs;induction rs with
 |nil=>intro l bH s s' xs h;cases h;exact⟨_,wu.refl _,by simp⟩
 |cons c r ih=>
  intro l bH s s' xs h;simp[JY]at h;split at h<;>first|(cases h;done)|skip
  rename_i h1;split at h<;>first|(cases h;done)|skip
  rename_i h2;cases h;obtain⟨u1,t1,o1⟩:=Nj h1;obtain⟨u2,t2,o2⟩:=ih h2;refine⟨_,t1.BC t2,fun v hv=>?_⟩;rcases aO.1 hv with rfl|hv
  .exact eA t2.le t2.gj o1
  .exact o2 v hv
end
section
variable{S S' K:Nat->Prop}{w0 w w':World}{φ φ':iq}{H:Hf}{n:Nat}{h:H2}{β:Type}{k:S2->Option β}{r:β}
def ny(os:List Sh)(q:List (V×List Nat))(l:List V)(s s1:S2):Prop:=s.next<=s1.next/\(DX s.next s.heap->∃u,wu s s1 u)/\
 ∀{S K:Nat->Prop}{w0 w:World}{φ:iq}{H:Hf}{lent:List Value}{fp:List Nat},NU S w os l lent fp->Ep S w φ (q.map (·.1)) lent->(∀e∈q,WQ w φ s.next s.heap e)->(q.flatMap (·.2)).Nodup->Inv S K w0 φ H w->(∀i∈q.flatMap (·.2),H i=none)->
  (∀j,s.next<=j->j<s1.next->φ j=none)->Cr S K w φ H fp->DX s.next s.heap->∃u φ',Bk S K w0 w φ H s s1 (q.flatMap (·.2)) fp u φ'/\∀p∈u,p.1∈q.flatMap (·.2)\/s.next<=p.1
theorem ny.cons{c:Sh}{os:List Sh}{e:V×List Nat}{q:List (V×List Nat)}{la l:List V}{s sm s1:S2}(hrec:ny os q l sm s1)(htxt:DX s.next s.heap->∃u,wu s sm u)(hle:s.next<=sm.next)
  (hstep:∀{S K:Nat->Prop}{w0 w:World}{φ:iq}{H:Hf}{x:Value}{l1 l2:List V}{f1:List Nat},la=l1++l2->Lw S w c l1 x f1->RW S w φ e.1 x->WQ w φ s.next s.heap e->e.2.Nodup->Inv S K w0 φ H w->(∀i∈e.2,H i=none)->(∀j,s.next<=j->j<sm.next->φ j=none)->Cr S K w φ H f1->DX s.next s.heap->
   l2=l/\∃u φ',Bk S K w0 w φ H s sm e.2 f1 u φ'/\∀p∈u,p.1∈e.2\/s.next<=p.1):ny (c::os) (e::q) la s s1:=by
 have hle2:=hrec.1;refine⟨by omega,fun hS=>?_,?_⟩
 .obtain ⟨u1,t1⟩:=htxt hS;obtain⟨u2,t2⟩:=hrec.2.1 (t1.DZ hS);exact⟨_,t1.BC t2⟩
 intro S K w0 w φ H lent fp hr hw hq hn hI hk hfr hf hS;cases lent with
 |nil=>exact hr.elim
 |cons x lent=>
  obtain⟨l1,l2,f1,f2,e1,rfl,h1,h2⟩:=hr;obtain⟨n1,n2,n3⟩:=List.nodup_append.1 hn;obtain⟨rfl,u1,φ1,hB1,ho⟩:=hstep e1 h1 hw.1 (hq e (by simp)) n1 hI (fun i hi=>hk i (by simp[hi])) (fun j a b=>hfr j a (by omega)) hf.left hS
  have hkeep:∀i∈q.flatMap (·.2),up H u1 i=none:=fun i hi=>by
   have:iV u1 i=none:=by
    cases e2:iV u1 i with
    |none=>rfl
    |some y=>
     rcases ho _ (nE.1 y e2)with h|h
     .exact absurd rfl (n3 i h i hi)
     .obtain ⟨e',he',hi'⟩:=List.mem_flatMap.1 hi;have:=(hq e' (by simp[he'])).1 i hi';omega
   simp only[up,this];exact hk i (by simp[hi])
  obtain⟨u2,φ2,hB2,ho2⟩:=hrec.2.2 h2 (hw.2.K_ hB1.K_) (fun e' he'=>(hq e' (by simp[he'])).mono hB1.K_ hB1.le hB1.gj) n2 hB1.inv hkeep (fun j a b=>by
   cases e2:φ1 j with
   |none=>rfl
   |some m=>have:=hB1.new j m e2 (hfr j (by omega) b);omega) (hB1.V8 hf) (let⟨_,t1⟩:=htxt hS;t1.DZ hS)
  refine⟨u2++u1,φ2,hB1.BC hB2,fun p hp=>?_⟩
  grind
theorem ny.of{c:Sh}{os:List Sh}{e:V×List Nat}{q:List (V×List Nat)}{la l:List V}{s sm:S2}(h:∃s1,k s1=some r/\ny os q l sm s1)(hf:∀s1,ny os q l sm s1->ny (c::os) (e::q) la s s1):∃s1,k s1=some r/\ny (c::os) (e::q) la s s1:=let⟨s1,h1,h2⟩:=h;⟨s1,h1,hf s1 h2⟩
theorem adi{t u w1:Ty}{id ver:Nat}{old:Sl (El w1)}{v:El (.sl u)}{v1:El (.sl t)}{v2:El (.sl w1)}{un:Unit}{i:List Nat}{os:List Sh}{q:List (V×List Nat)}{l:List V}{s s1:S2}(ho:fO s.heap id=some (.ar w1 old ver))(h1:fF (.sl u) (.sl t) v=some v1)(h2:fF (.sl t) (.sl w1) v1=some v2)
  (h3:py (v2:Sl (El w1)) old=some un) (hrec:ny os q l (j8 s id (some (.ar w1 v2 (ver+1)))) s1):ny (.os t::os) ((.so id,i)::q) (.x (.sl u) v::l) s s1:=by
 obtain⟨rfl,rfl⟩:=zx h1;obtain⟨rfl,rfl⟩:=zx h2;refine hrec.cons (fun hS=>⟨_,wu.put (hS.lt _ _ ho) (.inr ⟨_,ho,cA _,rfl,(yr h3).symm,fun e=>absurd e (by omega)⟩) (by simp)⟩) (aw _) ?_;rintro S K w0 w φ H x l1 l2 f1 e1 hr hw ⟨q0,q1,q2,lo,q3,q4,q5,q6,q7⟩ hn hI hk hfr hf hS;obtain rfl:i=[id]:=q2;have hlen:=yr h3;rcases hr with⟨e,_⟩|⟨c,⟨sv,rfl,hc⟩,hx⟩
 .cases e
 obtain rfl:c=[x]:=hx;obtain⟨e2,rfl⟩:=aE e1;cases e2;refine⟨rfl,?_⟩;obtain⟨l',k1,k2⟩:=R1.iB hw;obtain rfl:=af (q3.symm.trans k1);have hsh:=q7 _ ho;have hn2:=hsh.2.trans hlen.symm
 have key:RO S w φ lo (.ar u v (ver+1))/\ob w lo (.ar u v (ver+1))=f1:=by
  rcases hc with⟨e,_,rfl⟩|⟨lo2,c1,c2,rfl⟩
  .have e':=e;subst e';exact⟨⟨hsh.1,hn2,hsh.1▸q5,hsh.1▸q6,fun r e=>by cases e⟩,rfl⟩
  .exact adq c1.z c2 hsh.1 hn2 q4 k2
 obtain⟨k3,rfl⟩:=key;refine⟨_,_,Bk.put hI q3 k3 hf (.inr ⟨_,ho,cA _,rfl,hlen.symm,fun e=>absurd e (by omega)⟩) (by simp),?_⟩;simp_all
theorem adh{t u w1:Ty}{id:Nat}{ln:Option (Nat×Nat)}{old:Sl (Sl (El w1))}{v:El (.sl (.sl u))}{v1:El (.sl (.sl t))}{v2:El (.sl (.sl w1))}{un:Unit}{i:List Nat}{os:List Sh}{q:List (V×List Nat)}{l:List V}{s s1:S2}(ho:fO s.heap id=some (.rw w1 old ln))(h1:fF (.sl (.sl u)) (.sl (.sl t)) v=some v1)
  (h2:fF (.sl (.sl t)) (.sl (.sl w1)) v1=some v2) (h3:py (v2:Sl (Sl (El w1))) old=some un) (hrec:ny os q l (j8 s id (some (.rw w1 v2 none))) s1):ny (.rw t::os) ((.sr id,i)::q) (.x (.sl (.sl u)) v::l) s s1:=by
 obtain⟨rfl,rfl⟩:=Gu h1;obtain⟨rfl,rfl⟩:=Gu h2;refine hrec.cons (fun hS=>⟨_,wu.put (hS.lt _ _ ho) (.inr ⟨_,ho,rfl,(yr h3).symm⟩) (by simp)⟩) (aw _) ?_;rintro S K w0 w φ H x l1 l2 f1 e1 hr hw ⟨q0,q1,q2,lo,t',q3,q4,q5,q6,q7,q8⟩ hn hI hk hfr hf hS;obtain rfl:i=[id]:=q2;have hlen:=yr h3;rcases hr with⟨e,_⟩|⟨c,⟨sv,rfl,hc⟩,hx⟩
 .cases e
 obtain rfl:c=[x]:=hx;obtain⟨e2,rfl⟩:=aE e1;cases e2;refine⟨rfl,?_⟩;obtain⟨l',k1,k2⟩:=R1.iB hw;obtain rfl:=af (q3.symm.trans k1);have hsh:=q8 _ ho;have hn2:=hsh.2.trans hlen.symm
 have key:RO S w φ lo (.rw u v none)/\ob w lo (.rw u v none)=f1:=by
  rcases hc with⟨e,_,rfl⟩|⟨lo2,c1,c2,rfl⟩
  .have e':=e;subst e';have et:t'=u:=by have:=q5.symm.trans hsh.1;cases this;rfl
   subst et;exact⟨⟨hsh.1,hn2,q6,q7,fun r e=>by cases e⟩,rfl⟩
  .exact abr c1.z c2 hsh.1 hn2 q4 k2
 obtain⟨k3,rfl⟩:=key;refine⟨_,_,Bk.put hI q3 k3 hf (.inr ⟨_,ho,rfl,hlen.symm⟩) (by simp),?_⟩;simp_all
theorem KH{c:Sh}{v:V}{la:List V}{os:List Sh}{q:List (V×List Nat)}{l:List V}{s s1:S2}(hc:∀{S:Nat->Prop}{w:World}{l1 l2:List V}{x:Value}{f:List Nat},Lw S w c l1 x f->la=l1++l2->l2=l/\f=[])(hrec:ny os q l s s1):ny (c::os) ((v,[])::q) la s s1:=by refine hrec.cons (fun _=>⟨_,wu.refl _⟩) (aw _) ?_;rintro S K w0 w φ H x l1 l2 f1 e1 hr hw hq hn hI hk hfr hf hS;obtain⟨rfl,rfl⟩:=hc hr e1;exact⟨rfl,[],φ,Bk.refl hI,by simp⟩
theorem adk{v:V}{i:List Nat}{os:List Sh}{q:List (V×List Nat)}{l:List V}{s s1:S2}(hrec:ny os q l (kx i s) s1):ny (.gn::os) ((v,i)::q) l s s1:=by
 refine hrec.cons (fun _=>⟨_,wu.G7 _ _⟩) (by rw[kI];exact aw _) ?_;rintro S K w0 w φ H x l1 l2 f1 e1 hr hw hq hn hI hk hfr hf hS
 have:l1=[]/\f1=[]:=by
  rcases hr with⟨_,h⟩|⟨c,h,_⟩
  .exact h
  .exact h
 obtain⟨rfl,rfl⟩:=this;exact⟨e1.symm,_,_,Bk.G7 hI hk,fun p hp=>by grind⟩
theorem adj{t u:Ty}{c:Sh}{id:Nat}{i:List Nat}{x1 y:V}{m l:List V}{os:List Sh}{q:List (V×List Nat)}{s s' s1:S2}(hidlt:id<s.next)(hun:N6 (QM c) y=some m)(hm:IW c false m s=some (x1,[],s'))(hfit:fg x1 false t=true)(hu:u=t)(hrec:ny os q l (j8 (kx i s') id (some (.bx t x1))) s1):
  ny (.pb t c::os) ((.op id u [],i)::q) (y::l) s s1:=by
 have hle:=RQ hm;refine hrec.cons (fun hS=>?_) (by rw[kI];exact hle) ?_
 .obtain ⟨u1,t1,hok⟩:=Nj hm;have t2:=wu.G7 s' i;exact⟨_,(t1.BC t2).BC (wu.box (by have:=t2.le;omega) (eA t2.le t2.gj hok))⟩
 rintro S K w0 w φ H x l1 l2 f1 e1 hr hw ⟨q0,q1,r',hi⟩ hn hI hk hfr hf hS;subst hu;rcases hr with⟨e,_⟩|⟨cs,⟨m0,b,cr,f,rfl,rfl,rfl,k1,k2⟩,hx⟩
 .cases e
 obtain⟨rfl,rfl⟩:=aE e1;obtain rfl:=adC k2.len hun;obtain⟨n1,n2⟩:=List.nodup_cons.1 hf.1;rw[kI]at hfr|-;obtain⟨_,_,u1,φ1,hL,hc,hok⟩:=RP (bH:=[]) (rest':=[]) (v:=x1) (s':=s') (by rw[bO];exact hm) k2 hI hfr (hf.of n2 fun b hb=>by simp[hb]);refine⟨rfl,?_⟩;have hid:id∈i:=by rw[show i=id::r' from hi];simp
 obtain⟨lo,j1,j2,_,j4⟩:=R1.iB (v:=.op id u []) hw;have hx':=by have:=hx;exact(aE this).1.symm
 have e0:CG u []=0:=by cases u<;>rfl
 rw[e0,hx']at j4;have hblk:lo.cQ=b:=by have:=(aE j4).1;simp only[Value.pointer.injEq,eZ,Addr.mk.injEq]at this;exact this.1.symm
 have hB1:=hL.bk
 have hk2:∀j∈i,up H u1 j=none:=fun j hj=>by
  have:iV u1 j=none:=by cases e2:iV u1 j with|none=>rfl|some y=>have:=(hL.E2 _ (nE.1 y e2)).1;have:=q0 j hj;simp only at*;omega
  simp only[up,this];exact hk j hj
 have hB2:=hB1.BC (Bk.G7 (s:=s') hL.inv hk2);have hnext:(kx i s').next=s'.next:=by rw[kI]
 have hB3:=hB2.BC (Bk.put (s:=kx i s') (id:=id) (o:=.bx u x1) (lo:=lo) hB2.inv (hL.K_ _ _ j1) ⟨j2,hfit,cr,by rw[hblk];exact k1,hc⟩ (by
  refine⟨by simp[ob],fun b' hb'=>?_⟩;have e3:b'=b:=by simpa[ob,hblk]using hb'
  subst e3;obtain⟨c1,c2,c3,c4⟩:=hf.2 b' (by simp);refine⟨c1,c2,c3,fun j a m p1 p2 p3=>?_⟩;rcases hB2.cQ j a m b' p1 p2 p3 with p|⟨p,p'⟩
  .rw [bO]at p;exact n1 p
  .exact c4 j a m p p' p3) (.inl rfl) fun t' c' e=>by
   cases e
   have gj:D_ s'.next s'.heap ((id,some (.bx u x1))::(kx i s').heap):=by
    rw[kI];have:mA s'.next s'.heap ((id,some (O.bx u x1))::i.map (fun j=>(j,none))):=mA.cons (fun _ h=>.inr (.inl (by cases h;rfl))) fun p hp o' e=>by obtain⟨j,_,rfl⟩:=aR.1 hp;cases e
    exact this.gj
   rw[hnext];exact eA (aw _) gj hok)
 rw[e_,bO]at hB3;refine⟨[(id,some (.bx u x1))]++(i.map (fun j=>(j,none))++u1),φ1,?_,fun p hp=>?_⟩
 .have e5:kx i s'=⟨s'.jl,i.map (fun j=>(j,none))++s'.heap,s'.next,i++s'.wo,s'.gh⟩:=kI;rw[e5]at hB3;refine⟨hB3.le,hB3.eq,hB3.K_,hB3.new,hB3.QJ,hB3.bx,fun j hj=>hB3.E2 j (by simp[hj]),hB3.inv,fun j a m b' p1 p2 p3=>?_⟩;refine(hB3.cQ j a m b' p1 p2 p3).imp (fun h=>?_) (fun h=>h);simp only[ob,hblk,aK,aB]at h;exact aO.2 h.symm
 .simp only[aK,aB,aR]at hp;rcases hp with rfl|⟨j,hj,rfl⟩|hp
  .exact .inl hid
  .exact .inl hj
  .exact .inr (hL.E2 p hp).1
theorem KI:∀{os:List Sh}{q:List (V×List Nat)}{l:List V}{s:S2},zy os q l s k=some r->∃s1,k s1=some r/\ny os q l s s1:=by
 intro os;induction os with
 |nil=>
  intro q l s h;cases q with
  |cons e q=>cases h
  |nil=>
   cases l with
   |cons x l=>cases h
   |nil=>refine⟨s,h,aw _,fun _=>⟨_,wu.refl _⟩,?_⟩;intro S K w0 w φ H lent fp hr _ _ _ hI _ _ _ _;cases lent with|cons x lent=>exact hr.elim|nil=>obtain⟨_,rfl⟩:=hr;exact⟨[],φ,Bk.refl hI,by simp⟩
 |cons c os ih=>
  intro q l s h;cases q with
  |nil=>cases c<;>cases h
  |cons e q=>
  obtain⟨v,i⟩:=e;cases c<;>first|(cases h;done)|skip
  case nl k'=>
   cases i<;>first|(cases h;done)|skip
   refine ny.of (ih h) fun s1 hs=>KH (fun{S w l1 l2 x f}hr e=>?_) hs;rcases hr with⟨e',_⟩|⟨c,⟨rfl,_,rfl⟩,_⟩
   .cases e'
   .exact ⟨e.symm,rfl⟩
  case gn=>exact ny.of (ih h) fun s1 hs=>adk hs
  case os t=>
   cases v<;>first|(cases h;done)|skip
   .rename_i k';cases k'<;>first|(cases h;done)|skip
    cases i<;>first|(cases h;done)|skip
    rcases l with _|⟨a,l⟩<;>first|(cases h;done)|skip
    cases a<;>first|(cases h;done)|skip
    rename_i ta v;cases ta<;>first|(cases h;done)|skip
    rename_i u;change (match fF (.sl u) (.sl t) v with|some v=>(py v (Sl.nil:Sl (El t))).bind fun _=>zy os q l s k|none=>none)=_ at h;split at h<;>first|(cases h;done)|skip
    rename_i v1 h1;obtain⟨un,h2,h3⟩:=zF h;obtain⟨rfl,rfl⟩:=zx h1;refine ny.of (ih h3) fun s1 hs=>KH (fun{S w l1 l2 x f}hr e=>?_) hs;rcases hr with⟨e',_⟩|⟨c,⟨sv,rfl,hc⟩,_⟩
    .cases e'
    obtain⟨e2,rfl⟩:=aE e;cases e2;refine⟨rfl,?_⟩;rcases hc with⟨_,_,rfl⟩|⟨lo,_,_,rfl⟩
    .rfl
    .have:=yr h2;have e3:v=(Sl.nil:Sl (El u)):=by cases v with|nil=>rfl|mk r=>cases this
     subst e3;rfl
   .rename_i id;rcases l with _|⟨a,l⟩<;>first|(cases h;done)|skip
    cases a<;>first|(cases h;done)|skip
    rename_i ta v;cases ta<;>first|(cases h;done)|skip
    rename_i u
    change (match fO s.heap id,fF (.sl u) (.sl t) v with
     |some (.ar w old ver),some v=>(match fF (.sl t) (.sl w) v with
      |some v=>(py v old).bind fun _=>zy os q l (j8 s id (some (.ar w v (ver+1)))) k
      |none=>none)
     |_,_=>none)=_ at h
    split at h<;>first|(cases h;done)|skip
    rename_i w1 old ver v1 ho h1;split at h<;>first|(cases h;done)|skip
    rename_i v2 h2;obtain⟨un,h3,h4⟩:=zF h;exact ny.of (ih h4) fun s1 hs=>adi ho h1 h2 h3 hs
  case rw t=>
   cases v<;>first|(cases h;done)|skip
   .rename_i k';cases k'<;>first|(cases h;done)|skip
    cases i<;>first|(cases h;done)|skip
    rcases l with _|⟨a,l⟩<;>first|(cases h;done)|skip
    cases a<;>first|(cases h;done)|skip
    rename_i ta v;cases ta<;>first|(cases h;done)|skip
    rename_i ta;cases ta<;>first|(cases h;done)|skip
    rename_i u;change (match fF (.sl (.sl u)) (.sl (.sl t)) v with|some v=>(py (v:Sl (Sl (El t))) (Sl.nil:Sl (Sl (El t)))).bind fun _=>zy os q l s k|none=>none)=_ at h;split at h<;>first|(cases h;done)|skip
    rename_i v1 h1;obtain⟨un,h2,h3⟩:=zF h;obtain⟨rfl,rfl⟩:=Gu h1;refine ny.of (ih h3) fun s1 hs=>KH (fun{S w l1 l2 x f}hr e=>?_) hs;rcases hr with⟨e',_⟩|⟨c,⟨sv,rfl,hc⟩,_⟩
    .cases e'
    obtain⟨e2,rfl⟩:=aE e;cases e2;refine⟨rfl,?_⟩;rcases hc with⟨_,_,rfl⟩|⟨lo,_,_,rfl⟩
    .rfl
    .have:=yr h2;have e3:v=(Sl.nil:Sl (Sl (El u))):=by cases v with|nil=>rfl|mk r=>cases this
     subst e3;rfl
   .rename_i id;rcases l with _|⟨a,l⟩<;>first|(cases h;done)|skip
    cases a<;>first|(cases h;done)|skip
    rename_i ta v;cases ta<;>first|(cases h;done)|skip
    rename_i ta;cases ta<;>first|(cases h;done)|skip
    rename_i u
    change (match fO s.heap id,fF (.sl (.sl u)) (.sl (.sl t)) v with
     |some (.rw w old _),some v=>(match fF (.sl (.sl t)) (.sl (.sl w)) v with
      |some v=>(py (v:Sl (Sl (El w))) old).bind fun _=>zy os q l (j8 s id (some (.rw w v none))) k
      |none=>none)
     |_,_=>none)=_ at h
    split at h<;>first|(cases h;done)|skip
    rename_i w1 old ln v1 ho h1;split at h<;>first|(cases h;done)|skip
    rename_i v2 h2;obtain⟨un,h3,h4⟩:=zF h;exact ny.of (ih h4) fun s1 hs=>adh ho h1 h2 h3 hs
  case pb t c=>
   cases v<;>first|(cases h;done)|skip
   rename_i id u p;cases p<;>first|(cases h;done)|skip
   cases l<;>first|(cases h;done)|skip
   rename_i y l
   change (match N6 (QM c) y with
    |some m=>(match IW c false m s with
     |some (w,[],s')=>bif fg w false t&&decide (u=t)&&Nat.blt id s.next then zy os q l (j8 (kx i s') id (some (.bx t w))) k else none
     |_=>none)
    |none=>none)=_ at h
   split at h<;>first|(cases h;done)|skip
   rename_i m hun;split at h<;>first|(cases h;done)|skip
   rename_i x1 s' hm;obtain⟨e,h2⟩:=aN h;simp only[ax,decide_eq_true_eq,Nat.blt_eq]at e;exact ny.of (ih h2) fun s1 hs=>adj e.2 hun hm e.1.1 e.1.2 hs
end
def NY(P:Program)(f:FuncId)(args:Array Value)(w:World)(R:Value->World->Prop):Prop:=
 (∃g as,(callFunc f args).run P w=.ok (.enter g as) w/\Calls P g as w fun e w'=>∃v,e=.returned v/\R v w')\/
 (∃v,(callFunc f args).run P w=.ok (.value v) w/\R v w)
abbrev WZ(al:Wy)(z:D7 al):Option (List Sh×List Sh×List V):=ae4 (fun a b c=>some (a,b,c)) al z
def Left(S:Nat->Prop)(w:World)(fp:List Nat)(sp:cR)(z:D7 sp.al)(lent:List Value)(v:Value)(w':World):Prop:=
 ∃(S':Nat->Prop)(BR:List Value)(fp1 fp2:List Nat)(rs os:List Sh)(l:List V),WZ sp.al z=some (rs,os,l)/\v=EL BR/\iW S w S' w'/\(∀b,S' b->S b\/b∈fp\/w.heap.size<=b)/\(∀b,S' b->b<w'.heap.size)/\
  NU S' w' rs (l.take (uk rs).length) BR fp1/\NU S' w' os (l.drop (uk rs).length) lent fp2/\(fp1++fp2).Nodup/\(∀b∈fp1++fp2,¬S' b/\(b∈fp\/w.heap.size<=b)/\b<w'.heap.size)/\QE (fun b=>b<w.heap.size/\b∉fp) w w'
def VJ:Ty->Bool
 |.i _|.b|.s|.f _|.un=>true
 |.pr a c=>VJ a&&VJ c
 |.st t|.ar _ t=>VJ t
 |_=>false
def VK:Sh->Bool
 |.x t|.os t=>VJ t
 |.gn=>true
 |_=>false
def akk(sp:cR):Bool:=sp.al.all (fun w=>w.1.all VK&&w.2.all VK)
def sG(P:Program)(f:FuncId)(sp:cR):Prop:=
 (sp.ro=true->akk sp=true)/\∀(S:Nat->Prop)(w:World)(xs:List Value)(fp:List Nat)(p:D9 (uk (sp.ps.map (·.2))))(z:D7 sp.al),(∀b,S b->b<w.heap.size)->SG S w sp.ps (BI _ p) xs fp->fp.Nodup->(∀b∈fp,¬S b/\b<w.heap.size)->KU S w->sp.fn p=some z->
  NY P f xs.toArray w (Left S w fp sp z (Ai sp.ps xs))
def Lz(P:Program)(fid:FuncId)(hk:Hk):Prop:=∀{o:Oper}{c:Go.Call}{fop:Operand}{z:Bool}{caps:V}{vs:List V}{h:H2}{n:Nat}{β:Type}{kk:V->xm->Nat->List Nat->Option β}{r:β},o.op=.call c->c.callee=.value fop->DX n h->
 (∀x∈V.fn z fid caps::vs,fG n h x/\tM h x=true)->hk.run (.fn z fid caps) vs h n kk=some r->∃v u n' l,kk v u n' l=some r/\Hz P o (fop::c.args.toList) (.fn z fid caps::vs) h n n' v u l
def arb(P:Program)(f:FuncId):TE->Prop
 |.sp sp=>sG P f sp
 |.hk hk=>Lz P f hk
def vi(P:Program)(tb:Lv):Prop:=∀e∈tb,arb P e.1 e.2
theorem vi.nil{P:Program}:vi P []:=fun e he=>by simp at he
theorem vi.Zv{P:Program}{f:FuncId}{hk:Hk}{tb:Lv}(h:Lz P f hk)(ht:vi P tb):vi P ((f,.hk hk)::tb):=fun e he=>by
 rcases aO.1 he with rfl|he
 .exact @h
 .exact ht e he
theorem vi.cons{P:Program}{f:FuncId}{sp:cR}{tb:Lv}(h:sG P f sp)(ht:vi P tb):vi P ((f,.sp sp)::tb):=fun e he=>by
 rcases aO.1 he with rfl|he
 .exact h
 .exact ht e he
theorem Uy{β:Type}{k:List Sh->List Sh->List V->Option β}{b:β}:∀{w:Wy}{z:D7 w},ae4 k w z=some b->∃r o l,WZ w z=some (r,o,l)/\(r,o)∈w/\k r o l=some b:=by
 have key:∀(w:Wy)(r o:List Sh)(z:D7.WE r o w),W0 k r o w z=some b->∃r' o' l,W0 (fun a b c=>some (a,b,c)) r o w z=some (r',o',l)/\(r',o')∈(r,o)::w/\k r' o' l=some b:=by
  intro w;induction w with
  |nil=>intro r o z hz;exact⟨r,o,_,rfl,by simp,hz⟩
  |cons p w ih=>intro r o z hz;cases z with|inl z=>exact⟨r,o,_,rfl,by simp,hz⟩|inr z=>obtain⟨r',o',l,h1,h2,h3⟩:=ih p.1 p.2 z hz;exact⟨r',o',l,h1,bp _ h2,h3⟩
 intro w z hz;cases w with|nil=>exact nomatch z|cons p w=>exact key w p.1 p.2 z hz
theorem KF{u:Ty}{v:V}{y:El u}(h:KG u v=some y):v=.x u y:=by cases v with|x t v=>obtain⟨rfl,rfl⟩:=kJ h;rfl|_=>cases h
theorem zS:∀{cs:List Ty}{l:List V}{p:D9 cs},CR cs l=some p->BI cs p=l:=by
 have key:∀(r:List Ty)(a:Ty)(l:List V)(p:D9.aaM a r),UD a r l=some p->aa8 a r p=l:=by
  intro r;induction r with
  |nil=>
   intro a l p h
   match l with|[]=>exact nomatch h|[v]=>rw[KF h];rfl|_::_::_=>exact nomatch h
  |cons c r ih=>
   intro a l p h
   match l with
   |[]=>exact nomatch h
   |v::l=>
    have h:afc _ _=some p:=h;cases hx:KG a v with
    |none=>rw[hx]at h;exact nomatch h
    |some x=>cases hy:UD c r l with|none=>rw[hx,hy]at h;exact nomatch h|some y=>rw[hx,hy]at h;obtain rfl:=af h;show V.x a x::aa8 c r y=v::l;rw[KF hx,ih c l y hy]
 intro cs l p h;cases cs with
 |nil=>cases l<;>first|rfl|exact nomatch h
 |cons a r=>exact key r a l p h
section
variable{P:Program}{S S' K:Nat->Prop}{w0 w w':World}{φ φ':iq}{H:Hf}{n:Nat}{h:H2}
theorem RT.lit:∀{t:Ty},VJ t=true->∀{x:El t}{c:List Value},RT S w t x c->RT S' w' t x c:=by intro t;induction t with|pr a a2 iha ihb=>intro ht x c;simp[VJ]at ht;rintro⟨d,e,h1,h2,h3⟩;exact⟨d,e,h1,iha ht.1 h2,ihb ht.2 h3⟩|st t ih=>intro ht x c h;exact ih ht h|ar n t ih=>intro ht x c h;exact o_.imp (fun _ _ _ h=>ih ht h) h|sl t=>intro ht;cases ht|mp k v=>intro ht;cases ht|o k=>intro ht;cases ht|_=>intro _ x c h;exact h
theorem NU.VK:∀{os:List Sh}{l:List V}{xs:List Value}{fp:List Nat},os.all VK=true->NU S w os l xs fp->NU S' w os l xs fp:=by
 intro os;induction os with
 |nil=>intro l xs fp _ h;cases xs<;>exact h
 |cons c rs ih=>
  intro l xs fp ha h;simp only[List.all_cons,ax]at ha;cases xs with
  |nil=>exact h.elim
  |cons x xs=>
   obtain⟨l1,l2,f1,f2,rfl,rfl,h1,h2⟩:=h;refine⟨l1,l2,f1,f2,rfl,rfl,?_,ih ha.2 h2⟩;cases c<;>first|(cases ha.1)|skip
   .rcases h1 with⟨e,_⟩|⟨cs,⟨rfl,y,rfl,h4⟩,h5⟩
    .cases e
    .exact .inr ⟨cs,⟨rfl,y,rfl,h4.lit ha.1⟩,h5⟩
   .rcases h1 with⟨e,_⟩|⟨cs,⟨sv,rfl,hc⟩,h5⟩
    .cases e
    .refine .inr ⟨cs,⟨sv,rfl,hc.imp id fun⟨lo,k1,k2⟩=>⟨lo,⟨k1.1,k1.2.1,k1.2.2.1,k1.2.2.2.1,fun r e=>?_⟩,k2⟩⟩,h5⟩;obtain⟨cr,d,q1,q2,q3,q4,q5,q6⟩:=k1.2.2.2.2 r e;exact⟨cr,d,q1,q2,q3,q4,q5.imp fun _ _ _ h=>h.lit ha.1,q6⟩
   .rcases h1 with h1|⟨cs,h1,h5⟩
    .exact .inl h1
    .exact .inl ⟨rfl,h1⟩
theorem LL.of{l:rJ}{o:O}{t:Ty}{s:Sl (El t)}{v:Nat}(ho:o=.ar t s v)(h:RO S w φ l o):LL w l:=by
 subst ho;obtain⟨h1,h2,h3,h4,h5⟩:=h;intro m hm;obtain⟨r,rfl,e⟩:=q_ (h2.symm.trans hm)
 grind
theorem LL.ofr{l:rJ}{t:Ty}{s:Sl (Sl (El t))}{ln:Option (Nat×Nat)}(h:RO S w φ l (.rw t s ln)):LL w l:=by obtain⟨h1,h2,h3,h4,h5⟩:=h;intro m hm;obtain⟨r,rfl,e⟩:=q_ (h2.symm.trans hm);obtain⟨cr,k1,k2,k3,k4,_⟩:=h5 r rfl;rw[e]at k3 k4;exact⟨cr,k1,k2,k3,by rw[h1];show l.jA+m*1<=_;omega⟩
theorem LL.mono{l:rJ}(hg:∀b cr,uq w b cr->∃arr',uq w' b arr'/\arr'.size=cr.size)(h:LL w l):LL w' l:=fun m hm=>by
 obtain⟨cr,k1,k2,k3,k4⟩:=h m hm
 grind
theorem WQ.ahc{e:V×List Nat}(hg:∀b cr,uq w b cr->∃arr',uq w' b arr'/\arr'.size=cr.size)(hq:WQ w φ n h e):WQ w' φ n h e:=by
 obtain⟨v,i⟩:=e;obtain⟨h0,h1,h2⟩:=hq;refine⟨h0,h1,?_⟩;cases v<;>first|trivial|exact h2|skip
 rotate_right
 .rename_i id t p;cases p<;>first|exact h2|trivial
 .obtain ⟨q1,l,q2,q3,q4⟩:=h2;exact⟨q1,l,q2,q3.mono hg,q4⟩
 .obtain ⟨q1,l,t,q2,q3,q4⟩:=h2;exact⟨q1,l,t,q2,q3.mono hg,q4⟩
theorem aaA:∀{sh:Sh}{b:Bool}{v:V}{l:List V}{ids:List Nat},zA h sh b v=some (l,ids)->∀i∈ids,∃o,fO h i=some o:=by
 intro sh;induction sh with
 |pb t c ih=>
  intro b v l ids ha;cases b<;>cases v<;>first|(cases ha;done)|skip
  rename_i id u p;cases p<;>first|(cases ha;done)|skip
  change (match fO h id with|some (.bx w v)=>bif decide (w=u)&&decide (u=t)then(match zA h c false v with|some (l,i)=>some ([pkV l],id::i)|none=>none)else none|_=>none)=_ at ha;split at ha<;>first|(cases ha;done)|skip
  grind
 |st c ih=>
  intro b v l ids ha;cases b<;>cases v<;>first|(cases ha;done)|exact ih ha|skip
  rename_i u v;cases u<;>first|(cases ha;done)|skip
  rename_i u;exact ih (v:=Xh u v) ha
 |pr a c iha ihc=>
  intro b v l ids ha;cases b<;>cases v<;>first|(cases ha;done)|skip
  rename_i x r;change (match Um h a x,zA h c true r with|some (l,i),some (m,j)=>some (l++m,i++j)|_,_=>none)=_ at ha;split at ha<;>first|(cases ha;done)|skip
  rename_i l1 i1 l2 i2 h1 h2;obtain⟨rfl,rfl⟩:=aq (af ha);intro j hj;rcases aK.1 hj with hj|hj
  .unfold Um at h1;split at h1
   .unfold acb at h1;split at h1<;>cases h1;cases hj
   .unfold sbX at h1;split at h1<;>first|(cases h1;done)|skip
    grind
   .exact iha h1 j hj
  .exact ihc h2 j hj
 |os t=>
  intro b v l ids ha;cases b<;>cases v<;>first|(cases ha;done)|skip
  .rename_i k;cases k<;>cases ha;simp
  .rename_i id;change (match fO h id with|some (.ar u s _)=>(match fF (.sl u) (.sl t) s with|some s=>some ([V.x (.sl t) s],[id])|none=>none)|_=>none)=_ at ha;split at ha<;>first|(cases ha;done)|skip
   grind
 |rw t=>
  intro b v l ids ha;cases b<;>cases v<;>first|(cases ha;done)|skip
  .rename_i k;cases k<;>cases ha;simp
  .rename_i id;change (match fO h id with|some (.rw u s none)=>(match fF (.sl (.sl u)) (.sl (.sl t)) s with|some s=>some ([V.x (.sl (.sl t)) s],[id])|none=>none)|_=>none)=_ at ha;split at ha<;>first|(cases ha;done)|skip
   grind
 |mp kT vT=>
  intro b v l ids ha;cases b<;>cases v<;>first|(cases ha;done)|skip
  rename_i id;change (match fO h id with|some (.mp k' v' m)=>(match fF (.mp k' v') (.mp kT vT) m with|some m=>some ([V.x (.mp kT vT) m],[id])|none=>none)|_=>none)=_ at ha;split at ha<;>first|(cases ha;done)|skip
  grind
 |x t=>
  intro b v l ids ha;cases b<;>first|(cases ha;done)|skip
  change (match zN t v with|some y=>some ([V.x t y],[])|none=>none)=_ at ha;split at ha<;>cases ha;simp
 |nl k=>
  intro b v l ids ha;cases b<;>cases v<;>first|(cases ha;done)|skip
  cases(aN ha).2;simp
 |ni=>
  intro b v l ids ha;cases b<;>cases v<;>first|(cases ha;done)|skip
  cases ha;simp
 |_=>intro b v l ids ha;cases b<;>cases v<;>cases ha
theorem agI(hI:Inv S K w0 φ H w)(hS:DX n h){sh:Sh}{v:V}{l:List V}{ids:List Nat}{x:Value}(ha:zA h sh false v=some (l,ids))(hH:∀i∈ids,H i=fO h i)(hok:fG n h v)(hr:RW S w φ v x):WQ w φ n h (v,ids):=by
 refine⟨fun i hi=>by obtain⟨o,ho⟩:=aaA ha i hi;exact hS.lt _ _ ho,hok,?_⟩
 have noX:∀{t:Ty}{Q:Prop},(match zN t v with|some y=>some ([V.x t y],([]:List Nat))|none=>none)=some (l,ids)->(∀y:El t,zN t v=some y->ids=[]->Q)->Q:=by
  grind
 cases v<;>first|trivial|skip
 .rename_i k;cases sh<;>first|(cases ha;done)|skip
  .exact noX ha fun _ _ e=>e
  .cases k<;>cases ha;rfl
  .cases k<;>cases ha;rfl
  .cases (aN ha).2;rfl
 .rename_i id;cases sh<;>first|(cases ha;done)|skip
  .rename_i t;change (match fO h id with|some (.ar u s _)=>(match fF (.sl u) (.sl t) s with|some s=>some ([V.x (.sl t) s],[id])|none=>none)|_=>none)=_ at ha;split at ha<;>first|(cases ha;done)|skip
   rename_i u s ver ho;split at ha<;>cases ha;obtain⟨l1,k1,k2⟩:=R1.iB (v:=.so id) hr;obtain⟨l2,o1,o2,_⟩:=hI.o9 id _ ((hH id (by simp)).trans ho);obtain rfl:=af (k1.symm.trans o1);exact⟨rfl,l1,k1,LL.of rfl o2,by rw[o2.1];exact o2.2.2.1,by rw[o2.1];exact o2.2.2.2.1,fun o e=>by rw[ho]at e;cases e;exact o2.HR⟩
 .rename_i id;cases sh<;>first|(cases ha;done)|skip
  .rename_i t;change (match fO h id with|some (.rw u s none)=>(match fF (.sl (.sl u)) (.sl (.sl t)) s with|some s=>some ([V.x (.sl (.sl t)) s],[id])|none=>none)|_=>none)=_ at ha;split at ha<;>first|(cases ha;done)|skip
   rename_i u s ho;split at ha<;>cases ha;obtain⟨l1,k1,k2⟩:=R1.iB (v:=.sr id) hr;obtain⟨l2,o1,o2,_⟩:=hI.o9 id _ ((hH id (by simp)).trans ho);obtain rfl:=af (k1.symm.trans o1);exact⟨rfl,l1,u,k1,LL.ofr o2,o2.1,o2.2.2.1,o2.2.2.2.1,fun o e=>by rw[ho]at e;cases e;exact o2.HR⟩
 .rename_i id u p;cases p<;>first|trivial|skip
  cases sh<;>first|(cases ha;done)|skip
  .rename_i t c;change (match fO h id with|some (.bx w v)=>bif decide (w=u)&&decide (u=t)then(match zA h c false v with|some (l,i)=>some ([pkV l],id::i)|none=>none)else none|_=>none)=_ at ha
   grind
theorem aaB(hI:Inv S K w0 φ H w)(hS:DX n h):∀{ps:List (Bool×Sh)}{vs:List V}{l:List V}{j:List Nat}{q:List (V×List Nat)}{xs:List Value},Dv h ps vs=some (l,j,q)->Ep S w φ vs xs->(∀v∈vs,fG n h v)->(∀i∈q.flatMap (·.2),H i=fO h i)->∀e∈q,WQ w φ n h e:=by
 intro ps;induction ps with
 |nil=>intro vs l j q xs ha _ _ _;cases vs<;>cases ha;simp
 |cons p ps ih=>
  obtain⟨b,sh⟩:=p;intro vs l j q xs ha hr hv hH;cases vs with
  |nil=>cases ha
  |cons v vs=>
  cases xs with
  |nil=>exact hr.elim
  |cons x xs=>
   simp[Dv]at ha;split at ha<;>first|(cases ha;done)|skip
   rename_i m j' q' hrec;cases b with
   |true=>
    split at ha<;>first|(cases ha;done)|skip
    rename_i l1 i1 h1;cases ha;intro e he;rcases aO.1 he with rfl|he
    .exact agI hI hS h1 (fun i hi=>hH i (by simp[hi])) (hv v (by simp)) hr.1
    .exact ih hrec hr.2 (fun v hm=>hv v (by simp[hm])) (fun i hi=>hH i (by simp[hi])) e he
   |false=>
    simp at ha;split at ha<;>first|(cases ha;done)|skip
    cases ha;exact ih hrec hr.2 (fun v hm=>hv v (by simp[hm])) hH
end
section
variable{P:Program}{S S' K:Nat->Prop}{w0 w w':World}{φ φ':iq}{H:Hf}{n:Nat}{h:H2}{sp:cR}{tb:Lv}{s:S2}{β:Type}{k:V->S2->List Nat->Option β}{r:β}{o:Oper}
theorem Sz:∀{v:V}{cs:List V},CQ v=some cs->tM h v=true->∀x∈cs,tM h x=true:=by intro v;induction v with|ni=>intro cs hu _;cases hu;simp|co a r _ ihr=>intro cs hu ha;have hu:=(aN hu).2;split at hu<;>cases hu;simp[tM]at ha;simp_all|_=>intro cs hu;cases hu
theorem Vt:∀{v:V}{cs:List V},CQ v=some cs->fG n h v->∀x∈cs,fG n h x:=by
 intro v;induction v with
 |ni=>intro cs hu _;cases hu;simp
 |co a r _ ihr=>
  intro cs hu ha;have hu:=(aN hu).2;split at hu<;>cases hu;rename_i l hl;intro x hx;rcases aO.1 hx with rfl|hx
  .exact ha.1
  .exact ihr hl ha.2 x hx
 |_=>intro cs hu;cases hu
theorem XQ:∀{v:V}{cs:List V}{d:List Value},CQ v=some cs->RC S w φ v d->Ep S w φ cs d:=by intro v;induction v with|ni=>intro cs d hu hr;cases hu;obtain rfl:d=[]:=hr;trivial|co a r _ ihr=>rintro cs d hu ⟨d1,d2,rfl,h1,h2⟩;obtain⟨e,hu⟩:=aN hu;simp at e;split at hu<;>cases hu;rename_i l hl;have:=h1.len;rw[e.1]at this;obtain⟨y,rfl⟩:=List.length_eq_one_iff.1 this;exact⟨(R1.CH h1 e.2).rw,ihr hl h2⟩|_=>intro cs d hu;cases hu
theorem Ep.append:∀{vs cs:List V}{xs ds:List Value},Ep S w φ vs xs->Ep S w φ cs ds->Ep S w φ (vs++cs) (xs++ds):=by
 intro vs;induction vs with
 |nil=>intro cs xs ds h1 h2;cases xs with|nil=>exact h2|cons x xs=>exact h1.elim
 |cons v vs ih=>intro cs xs ds h1 h2;cases xs with|nil=>exact h1.elim|cons x xs=>exact⟨h1.1,ih h1.2 h2⟩
theorem Ar.rwl{ρ:Operand->Value}:∀{as:List Operand}{vs:List V},Ar S w φ ρ as vs->Ep S w φ vs (as.map ρ):=by
 intro as;induction as with
 |nil=>intro vs h;cases vs<;>first|trivial|exact h.elim
 |cons a as ih=>intro vs h;cases vs with|nil=>exact h.elim|cons v vs=>exact⟨h.1,ih h.2⟩
theorem G1:∀{l:List Nat},ET l=true->l.Nodup:=by intro l;induction l with|nil=>intro _;exact List.nodup_nil|cons a l ih=>simp_all[ET]
theorem ZN:∀{tb:Lv}{f:Nat}{vs:List V}{l:List V}{i:List Nat}{q:List (V×List Nat)},Ek h f vs tb=some (sp,l,i,q)->(f,.sp sp)∈tb/\Dv h sp.ps vs=some (l,i,q):=by
 intro tb;induction tb with
 |nil=>intro f vs l i q hf;cases hf
 |cons e tb ih=>
  obtain⟨g,e'⟩:=e;intro f vs l i q hf;have hrec:Ek h f vs tb=some (sp,l,i,q)->(f,.sp sp)∈(g,e')::tb/\Dv h sp.ps vs=some (l,i,q):=fun h=>⟨bp _ (ih h).1,(ih h).2⟩;cases e' with
  |hk k=>exact hrec hf
  |sp sp'=>
   simp[Ek]at hf;cases e:(g==f)<;>rw[e]at hf
   .exact hrec hf
   grind
theorem Wa:∀{tb:Lv}{f:Nat}{k:Hk},P4 f tb=some k->(f,.hk k)∈tb:=by
 intro tb;induction tb with
 |nil=>intro f k hf;cases hf
 |cons e tb ih=>
  obtain⟨g,e'⟩:=e;intro f k hf;cases e' with
  |sp sp=>exact bp _ (ih hf)
  |hk k'=>
   simp[P4]at hf;cases e:(g==f)<;>rw[e]at hf
   .exact bp _ (ih hf)
   simp_all
theorem Hw{SA SB:Nat->Prop}{q:List (V×List Nat)}{fp fp1 fp2:List Nat}{rs os:List Sh}{l1 l2:List V}{uf:xm}{s0 s1 s2:S2}{xs:List V}{bH:List V}{BR lent:List Value}(hA:Inv SA K w0 φ (up H uf) w)(hfps:BG w φ H (q.flatMap (·.2)) fp)
  (hufq:∀i∈q.flatMap (·.2),iV uf i=none) (gj:iW SA w SB w') (hSB:∀b,SB b->SA b\/b∈fp\/w.heap.size<=b) (hSlt:∀b,SB b->b<w'.heap.size) (hrr:NU SB w' rs l1 BR fp1) (hrt:NU SB w' os l2 lent fp2) (hnd:(fp1++fp2).Nodup)
  (hfp:∀b∈fp1++fp2,¬SB b/\(b∈fp\/w.heap.size<=b)/\b<w'.heap.size) (hfrm:QE (fun b=>b<w.heap.size/\b∉fp) w w') (hqn:(q.flatMap (·.2)).Nodup) (hlent:Ep S w φ (q.map (·.1)) lent) (hstS:iW S w SB w') (hq:∀e∈q,WQ w φ s.next s.heap e)
  (hS:DX s.next s.heap) (hT0:wu s s0 uf) (hn0:s0.next=s.next) (hb:ny os q l2 s0 s1) (hm:JY rs (l1++[]) s1=some (xs,bH,s2)) (hfr:∀j,s.next<=j->j<s2.next->φ j=none):
  ∃ub um,s1.heap=ub++s0.heap/\s2.heap=um++s1.heap/\jE S K w0 w φ H s.next s2.next (X2 xs) (um++(ub++uf)) (EL BR) w':=by
 have hobj:∀b∈fp,∃i∈q.flatMap (·.2),∃o lo,up H uf i=some o/\φ i=some lo/\b∈ob w lo o:=by
  intro b hb;obtain⟨i,hi,o,lo,ho,hlo,hb2⟩:=hfps.2 b hb
  grind [up]
 have hfpK:∀b∈fp,¬SA b/\¬K b/\b<w.heap.size:=by intro b hb;obtain⟨i,hi,o,lo,ho,hlo,hb2⟩:=hobj b hb;obtain⟨l2,a1,_,a4⟩:=hA.o9 i o ho;simp_all
 have hKlt:∀b,K b->b<w.heap.size/\b∉fp:=fun b hk=>⟨by have:=hA.yu.WM b hk;have:=hA.yu.grow;omega,fun hb=>(hfpK b hb).2.1 hk⟩
 have hsk:∀b,SB b->¬K b:=by
  intro b hb hk;rcases hSB b hb with h|h|h
  .exact hA.sk b h hk
  .exact (hfpK b h).2.1 hk
  .have:=(hKlt b hk).1;omega
 have hFrm:QE K w0 w':=by refine⟨hA.yu.WM,fun b hk=>(hfrm.tH b (hKlt b hk)).trans (hA.yu.tH b hk),bg hA.yu.grow hfrm.grow,fun a hlt=>(hfrm.frz a (bY hlt hA.yu.grow)).trans (hA.yu.frz a hlt),fun b cr h=>?_,hA.yu.io.trans hfrm.io⟩;obtain⟨arr',k1,k2⟩:=hA.yu.N0 b cr h;obtain⟨arr2,k3,k4⟩:=hfrm.N0 b arr' k1;exact⟨arr2,k3,k4.trans k2⟩
 obtain⟨H2,hH2⟩:∃H2:Hf,H2=fun i=>if i∈q.flatMap (·.2)then none else up H uf i:=⟨_,rfl⟩
 have hH2get:∀{i o},H2 i=some o->i∉q.flatMap (·.2)/\up H uf i=some o:=by
  grind
 have hsame:∀i o lo,H2 i=some o->φ i=some lo->∀b∈ob w lo o,w'.heap[b]?=w.heap[b]?/\¬SB b/\b<w.heap.size/\b∉fp:=by
  intro i o lo hi hlo b hb;obtain⟨hiq,hi⟩:=hH2get hi;obtain⟨l2,a1,_,a4⟩:=hA.o9 i o hi;obtain rfl:=af (hlo.symm.trans a1);obtain⟨c1,c2,c3⟩:=a4 b hb;have hbfp:b∉fp:=by intro hbf;obtain⟨j,hj,o2,lo2,ho2,hlo2,hb2⟩:=hobj b hbf;exact hA.jz i j o o2 lo lo2 hi ho2 hlo hlo2 (fun e=>hiq (e▸hj)) b hb hb2
  refine⟨hfrm.tH b ⟨c3,hbfp⟩,fun h1=>?_,c3,hbfp⟩
  grind
 have hK2:Inv SA K w0 φ H2 w:=hA.G7 fun i o h=>(hH2get h).2;have hI2:Inv SB K w0 φ H2 w':=hK2.iT (fun _=>False) gj (Ren.refl _) hSlt hsk hFrm (fun _ _ _ h=>h) (fun i o lo _ ho hlo b hb=>⟨(hsame i o lo ho hlo b hb).1,(hsame i o lo ho hlo b hb).2.1⟩) fun _ _ h=>h.elim
 have hfree:Cr SB K w' φ H2 (fp2++fp1):=by
  refine⟨(List.perm_append_comm.nodup_iff).1 hnd,fun b hb=>?_⟩;obtain⟨c1,c2,c3⟩:=hfp b (by rcases aK.1 hb with h|h<;>simp[h]);refine⟨c1,fun hk=>?_,c3,fun j a m hj hm hbm=>?_⟩
  .grind
  .have e:ob w' m a=ob w m a:=Tr fun h=>(hsame j a m hj hm _ h).1
   grind
 have hle0:=hT0.le;have hle1:=hb.1;have hle2:=TA hm;have hq0:∀e∈q,WQ w' φ s0.next s0.heap e:=fun e he=>((hq e he).mono (Ren.refl _) hle0 hT0.gj).ahc hfrm.N0
 have hlent2:Ep SB w' φ (q.map (·.1)) lent:=by
  have:∀{vs:List V}{xs:List Value},Ep S w φ vs xs->Ep SB w' φ vs xs:=by
   intro vs;induction vs with
   |nil=>intro xs h;cases xs<;>exact h
   |cons v vs ih=>intro xs h;cases xs with|nil=>exact h.elim|cons x xs=>exact⟨h.1.mono hstS (Ren.refl _),ih h.2⟩
  exact this hlent
 obtain⟨ub,φ1,hB,_⟩:=hb.2.2 hrt hlent2 hq0 hqn hI2 (fun i hi=>by rw[hH2];simp[hi]) (fun j a b=>hfr j (by omega) (by omega)) hfree.left (hT0.DZ hS)
 obtain⟨um,φ2,hL,hxs,hokx⟩:=ach hm hrr hB.inv (fun j a b=>by
  cases e:φ1 j with
  |none=>rfl
  |some m=>have:=hB.new j m e (hfr j (by omega) b);omega) (hB.V8 hfree)
 refine⟨ub,um,hB.heap,hL.heap,by omega,SB,φ2,hstS,hB.K_.trans hL.K_,fun i lo a b=>?_,afv hxs,?_⟩
 .cases e:φ1 i with|none=>have:=hL.new i lo a e;omega|some m=>have:=hB.new i m e b;omega
 .have e1:up (up H2 ub) um=up H (um++(ub++uf)):=by
   rw[mj,mj];congr 1;funext j;by_cases e:j∈q.flatMap (·.2)
   .obtain ⟨x,hx⟩:=hB.E2 j e;simp only[up,hx]
   grind [iV,up]
  rw[<-e1];exact hL.inv
end
def PRG(P:Program)(o:Oper)(args:List Operand)(vs:List V)(s:S2){β:Type}(k:V->S2->List Nat->Option β)(r:β):Prop:=∃v u n' l,k v (HG s u n') l=some r/\Hz P o args vs s.heap s.next n' v u l
section
variable{P:Program}{S S' K:Nat->Prop}{w0 w w':World}{φ φ':iq}{H:Hf}{n:Nat}{h:H2}{sp:cR}{tb:Lv}{s:S2}{β:Type}{k:V->S2->List Nat->Option β}{r:β}{o:Oper}
theorem ab0{xs:List V}(h1:∀v∈xs,fG n h v):fG n h (X2 xs):=by
 match xs,h1 with|[x],h1=>exact h1 x (by simp)|[],_=>trivial|x::y::r,h1=>exact Nb h1
theorem R7{h:H2}{l:List Nat}{s':S2}(he:h=s.heap)(hS:DX s.next s.heap)(hf:AR h l s=some s'):∃u,wu s s' u/\s'.next=s.next/\u.map (·.1)=l/\∀p∈u,E7 s.heap p.1=some p.2:=by subst he;obtain⟨u,rfl,h1,h2⟩:=E8 hf;obtain⟨g1,g2⟩:=Ke hS h2;exact⟨u,⟨aw _,rfl,g1,fun p hp=>.inl ⟨(g2 p hp).1,R6 (h2 p hp)⟩,fun p hp t c e=>absurd e ((g2 p hp).2 t c)⟩,rfl,h1,h2⟩
theorem Tb{c:Go.Call}{fop:Operand}{ro:Bool}{D2:List Bool}{f:V}{vs:List V}(ho:o.op=.call c)(hcal:c.callee=.value fop)(hT:vi P tb)(hS:DX s.next s.heap)(hok:∀v∈f::vs,fG s.next s.heap v)(hal:∀v∈f::vs,tM s.heap v=true)
  (h:Gj tb ro D2 f vs s k=some r):PRG P o (fop::c.args.toList) (f::vs) s k r:=by
 unfold Gj at h;split at h<;>first|(cases h;done)|skip
 rename_i zz fid caps;split at h
 .rename_i hk hf;exact(hT _ (Wa hf)) ho hcal hS (fun x hx=>⟨hok x hx,hal x hx⟩) h
 split at h<;>first|(cases h;done)|skip
 rename_i sp pay ids q hfind;obtain⟨e,h2⟩:=aN h;clear h;simp only[ax,Bool.or_eq_true,Bool.not_eq_true']at e;obtain⟨⟨⟨e1,_⟩,e3⟩,e4⟩:=e;split at h2<;>first|(cases h2;done)|skip
 rename_i p hp;obtain⟨z,hz,h3⟩:=zF h2;obtain⟨rs,os,l,hw,hmem,h4⟩:=Uy h3;split at h4<;>first|(cases h4;done)|skip
 rename_i s0 hs0;obtain⟨s1,h5,hb⟩:=KI h4;split at h5<;>first|(cases h5;done)|skip
 rename_i xs bH s2 hm;split at hfind<;>first|(cases hfind;done)|skip
 rename_i cs hcs;obtain⟨hin,hargs⟩:=ZN hfind;have hsp:=hT _ hin;have hqn:=G1 e3;have hqi:∀i∈q.flatMap (·.2),i∉ids:=fun i hi hm=>by have:=cw.1 e4 i hi;simp[hm]at this
 have hokf:=hok (.fn zz fid caps) (by simp);have Iw:=hal (.fn zz fid caps) (by simp);have halc:tM s.heap caps=true:=by cases zz;exact Iw;exact KM Iw
 have hvs:∀v∈vs++cs,tM s.heap v=true/\fG s.next s.heap v:=fun v hv=>by
  rcases aK.1 hv with hv|hv
  .exact ⟨hal v (by simp[hv]),hok v (by simp[hv])⟩
  .exact ⟨Sz hcs halc v hv,Vt hcs hokf v hv⟩
 have htx:∃uf,wu s s0 uf/\s0.next=s.next/\(ro=true->uf=[])/\(ro=false->uf.map (·.1)=ids/\∀p∈uf,E7 s.heap p.1=some p.2):=by cases ro with|true=>cases hs0;exact⟨[],wu.refl _,rfl,fun _=>rfl,by simp⟩|false=>obtain⟨u,a1,a2,a3,a4⟩:=R7 rfl hS hs0;exact⟨u,a1,a2,(by simp),fun _=>⟨a3,a4⟩⟩
 obtain⟨uf,hT0,hn0,hu1,hu2⟩:=htx;obtain⟨ub,hT1⟩:=hb.2.1 (hT0.DZ hS);obtain⟨um,hT2,hokx⟩:=Y7 hm;have hTT:=(hT0.BC hT1).BC hT2;refine⟨X2 xs,um++(ub++uf),s2.next,ids++q.flatMap (·.2),?_,hTT.le,hTT.QJ,?_,hTT.bx,hTT.lt,?_⟩
 .rw [<-h5];congr 1;exact hTT.eq.symm
 .rw [<-hTT.heap];exact ab0 hokx
 .intro a S K w0 w φ H hI hsh har hag hfr next Q hn
  obtain⟨c1,k1,k2⟩:=har.1;obtain⟨d,rfl,k3⟩:=k1;have hfe:a.eval fop=.func (.func fid) #[] d.toArray:=by have:[Value.func (.func fid) #[] d.toArray]=[a.eval fop]:=k2;exact(aE this).1.symm
  have hrw:=Ep.append har.2.rwl (XQ hcs k3);let BR:List Value:=c.args.toList.map a.eval++d;obtain⟨fp,f1,f2,f3⟩:=Ww hI hS.bx (SF.QK (H:=H) (φ:=φ) ids) hargs hrw hvs hag (fun b hb=>hb) hqn;have hq:=aaB hI hS hargs hrw (fun v hv=>(hvs v hv).2) (fun i hi=>hag i (by simp[hi]))
  have hSFlt:∀b,SF S w φ H ids b->b<w.heap.size:=by
   rintro b (hb|⟨i,hi,o,lo,ho,hlo,hb⟩)
   .exact hI.IQ b hb
   .obtain ⟨l2,a1,_,a4⟩:=hI.o9 i o ho;obtain rfl:=af (hlo.symm.trans a1);exact(a4 b hb).2.2
  have hfpS:∀b∈fp,¬SF S w φ H ids b/\b<w.heap.size:=by
   intro b hb;obtain⟨i,hi,o,lo,ho,hlo,hb2⟩:=f2.2 b hb;obtain⟨l2,a1,_,a4⟩:=hI.o9 i o ho;obtain rfl:=af (hlo.symm.trans a1);refine⟨?_,(a4 b hb2).2.2⟩;rintro(hb3|⟨j,hj,o2,lo2,ho2,hlo2,hb3⟩)
   .exact (a4 b hb2).1 hb3
   .exact hI.jz i j o o2 lo lo2 ho ho2 hlo hlo2 (fun e=>hqi i hi (e▸hj)) b hb2 hb3
  have hent:=hsp.2 (SF S w φ H ids) w BR fp p z hSFlt (by rw[zS hp];exact f1) f2.1 hfpS (hI.R5.mono (SF.QK ids)) hz
  have hfin:∀val w',Left (SF S w φ H ids) w fp sp z (Ai sp.ps BR) val w'->next (a.put o.dst val) w':=by
   rintro val w' ⟨S1,rv,fp1,fp2,rs',os',l',hw',rfl,gj,hS1,hS1lt,hrr,hrt,hnd,hfp,hfrm⟩;rw[hw]at hw';cases hw';refine hn _ w' ?_;have hm':JY rs (l.take (uk rs).length++[]) s1=some (xs,bH,s2):=by rw[bO];exact hm
   cases hro:ro with
   |false=>
    obtain⟨u1,u2⟩:=hu2 hro;have hA:=hI.R8 u1 u2 fun i hi=>hag i (by simp[hi])
    obtain⟨ub',um',g1,g2,g3⟩:=Hw hA f2 (fun i hi=>by
     cases e:iV uf i with
     |none=>rfl
     |some y=>exact absurd (u1▸aR.2 ⟨_,nE.1 y e,rfl⟩) (hqi i hi)) gj hS1 hS1lt hrr hrt hnd hfp hfrm hqn f3 ((SF.QK ids).trans gj) hq hS hT0 hn0 hb hm' hfr
    obtain rfl:=hT1.zH g1;obtain rfl:=hT2.zH g2;exact g3
   |true=>
    obtain rfl:=hu1 hro;have hrok:=hsp.1 (e1.resolve_left (by simp[hro]));have:=cw.1 hrok _ hmem;simp only[ax]at this;have hrr2:=hrr.VK (S':=S) this.1;have hrt2:=hrt.VK (S':=S) this.2;have hfpS2:∀b∈fp,¬S b:=fun b hb h=>(hfpS b hb).1 (.inl h)
    obtain⟨ub',um',g1,g2,g3⟩:=Hw (SA:=S) (SB:=S) (uf:=[]) (by rw[GH];exact hI) f2 (fun _ _=>rfl) ⟨fun _ h=>h,fun b hb=>gj.mg b (.inl hb)⟩ (fun b hb=>.inl hb) (fun b hb=>bY (hI.IQ b hb) hfrm.grow) hrr2 hrt2 hnd (fun b hb=>by
     obtain⟨q1,q2,q3⟩:=hfp b hb;refine⟨fun hS3=>?_,q2,q3⟩;rcases q2 with q|q
     .exact hfpS2 b q hS3
     .have:=hI.IQ b hS3;omega) hfrm hqn f3 ⟨fun _ h=>h,fun b hb=>gj.mg b (.inl hb)⟩ hq hS hT0 hn0 hb hm' hfr
    obtain rfl:=hT1.zH g1;obtain rfl:=hT2.zH g2;exact g3
  have hrun:∀r,(callFunc fid BR.toArray).run P w=r->(execOp a.eval o).run P w=r:=by
   intro r hr;have e1:(#[]++c.args.map a.eval)++d.toArray=BR.toArray:=by apply Array.ext';simp[BR]
   simp only[execOp,ho,Sem.run_bind,resolve,hcal,hfe,Deferred.ofValue,Sem.run_pure,Result.andThen_ok,invoke,e1];exact hr
  rcases hent with⟨g,as',hr,hc⟩|⟨val,hr,hleft⟩
  .unfold Oper.wp;rw[hrun _ hr,Oper.upon_enter];refine hc.mono fun en w' hR=>?_;obtain⟨val,rfl,hleft⟩:=hR;exact hfin val w' hleft
  .unfold Oper.wp;rw[hrun _ hr];exact hfin val w hleft
end
section
variable{P:Program}{S S' K:Nat->Prop}{w0 w w':World}{φ φ':iq}{H:Hf}{n:Nat}{h:H2}{tb:Lv}{s:S2}{β:Type}{k:V->S2->List Nat->Option β}{r:β}{o:Oper}{E:oc}{q:Rg}{bI:II}{nt:Nat}{all:Array Oper}
structure Lx(e:List (Nat×V))(q:Rg)(E:oc):Prop where
 ev:∀t v,iV e t=some v->v=.gn\/E t=some v
 kn:∀g c,iV q.kn g=some c->LA E g=some c
 cd:∀t g b v,iV q.cd t=some (g,b,v)->∃c,LA E g=some c/\(c=b->E t=some v)/\(c≠b->E t=some .no)
def SI(E:oc)(gc:Option (Nat×Bool)):Prop:=∀g b,gc=some (g,b)->LA E g=some b
theorem anH{c:Value}{v:V}(hc:cvV c=some v):tM h v=true/\fG n h v:=by
 unfold cvV at hc;split at hc<;>first|(cases hc;done)|(cases hc;exact⟨rfl,trivial⟩)|skip
 split at hc<;>cases hc;exact⟨by assumption,trivial⟩
theorem ads:∀{v:V},Qw v=true->fG n h v:=by intro v;induction v with|co a r iha ihr=>intro hv;simp[Qw]at hv;exact⟨iha hv.1,ihr hv.2⟩|pt t v=>intro _;trivial|ni=>intro _;trivial|_=>intro hv;cases hv
theorem M9{E:oc}{e:List (Nat×V)}{a:Operand}{v:V}(hev:∀t v,iV e t=some v->v=.gn\/E t=some v)(hE:∀t v,E t=some v->fG n h v)(ho:Vq e h a=some v):OpE E a v/\tM h v=true/\fG n h v:=by
 cases a with
 |tmp t=>
  simp[Vq]at ho;split at ho<;>first|(cases ho)|skip
  rename_i x hx;obtain⟨e1,h2⟩:=aN ho;cases h2;rcases hev t v hx with rfl|h3
  .cases e1
  .exact ⟨.inr h3,e1,hE t v h3⟩
 |const c=>exact⟨.inr ho,anH ho⟩
 |global g=>
  simp[Vq]at ho;split at ho<;>first|(cases ho)|skip
  rename_i x hx;obtain⟨e1,h2⟩:=aN ho;cases h2;exact⟨.inr hx,KM e1,ads e1⟩
 |func f=>cases ho;exact⟨.inr rfl,rfl,trivial⟩
theorem M_{gc:Option (Nat×Bool)}{a:Operand}{v:V}(hq:Lx s.jl q E)(hE:∀t v,E t=some v->fG s.next s.heap v)(hg:SI E gc)(ho:opG s q gc a=some v):OpE E a v/\tM s.heap v=true/\fG s.next s.heap v:=by
 cases a with
 |tmp t=>
  simp[opG]at ho;split at ho
  .rename_i g b x hx;obtain⟨e,h2⟩:=aN ho;obtain⟨e2,h3⟩:=aN h2;cases h3;obtain⟨c,c1,c2,_⟩:=hq.cd t g b v hx
   have hb:LA E g=some b:=by
    simp at e;rcases e with e|e
    .exact hg g b e
    .exact hq.kn g b e
   rw[c1]at hb;have:=c2 (af hb);exact⟨.inr this,e2,hE t v this⟩
  .exact M9 hq.ev hE ho
 |_=>exact M9 hq.ev hE ho
theorem Ta{gc:Option (Nat×Bool)}(hq:Lx s.jl q E)(hE:∀t v,E t=some v->fG s.next s.heap v)(hg:SI E gc):∀{as:List Operand}{vs:List V},Yw s q gc as=some vs->QH E as vs/\∀v∈vs,tM s.heap v=true/\fG s.next s.heap v:=by intro as;induction as with|nil=>intro vs h;cases h;exact⟨trivial,by simp⟩|cons a as ih=>intro vs h;simp[Yw]at h;split at h<;>cases h;rename_i x xs h1 h2;obtain⟨p1,p2⟩:=M_ hq hE hg h1;obtain⟨p3,p4⟩:=ih h2;exact⟨⟨p1,p3⟩,fun v hv=>by grind⟩
theorem Hz.val{args:List Operand}{vs:List V}{v:V}{l:List Nat}(hv:fG n h v)(hr:∀(a:Act)(S K:Nat->Prop)(w0 w:World)(φ:iq)(H:Hf),Inv S K w0 φ H w->A6 φ h->Ar S w φ a.eval args vs->(∀i∈l,H i=fO h i)->ip P o a.eval S K w0 w φ H n n v []):Hz P o args vs h n n v [] l:=⟨aw _,mA.nil,hv,by simp,by simp,fun a S K w0 w φ H h1 h2 h3 h4 _=>(hr a S K w0 w φ H h1 h2 h3 h4).agd⟩
theorem OA{c a b:Operand}{ρ:Operand->Value}{x:Bool}(ho:o.op=.pick c a b)(hc:ρ c=.bool x):(execOp ρ o).run P w=.ok (.value (if x then ρ a else ρ b)) w:=by cases x<;>simp[execOp,ho,hc,asBool]
theorem af0{c:Bool}{x y v:V}(hm:mgV c x y=some v){z:Value}(hz:RW S w φ (bif c then x else y) z):RW S w φ v z:=by
 have one:∀{t:Ty}{p:El t}{u:V},zN t u=some p->RW S w φ u z->RW S w φ (.x t p) z:=by intro t p u hu hr;obtain⟨c,h1,rfl,h2⟩:=yi hu hr;exact(R1.of (v:=.x t p) h1 rfl h2).rw
 have kb:∀{b:Bool},RW S w φ (.kb b) z->RW S w φ (.x .b b) z:=fun h=>h;unfold mgV at hm
 grind
theorem ack{c:Bool}{x y v:V}(hm:mgV c x y=some v):fG n h v:=by
 unfold mgV at hm
 repeat' split at hm
 all_goals first|(cases hm;done)|(cases hm;trivial)
theorem abL{gc:Option (Nat×Bool)}{cc ca cb:Operand}{v:V}(ho:o.op=.pick cc ca cb)(hq:Lx s.jl q E)(hE:∀t v,E t=some v->fG s.next s.heap v)(hg:SI E gc)(hp:Yk s q gc [cc,ca,cb]=some v):
  ∃vs,QH E [cc,ca,cb] vs/\Hz P o [cc,ca,cb] vs s.heap s.next s.next v [] []:=by
 have key:∀{x:Bool}{cv y:V},OpE E cc cv->tg cv=some (.bool x)->OpE E (bif x then ca else cb) y->fG s.next s.heap v->(∀{S:Nat->Prop}{w:World}{φ:iq}{z:Value},RW S w φ y z->RW S w φ v z)->∃vs,QH E [cc,ca,cb] vs/\Hz P o [cc,ca,cb] vs s.heap s.next s.next v [] []:=by intro x cv y h1 h2 h3 h4 h5;cases x with|true=>refine⟨[cv,y,.gn],⟨h1,h3,.inl rfl,trivial⟩,Hz.val h4 fun a S K w0 w φ H hI _ har _=>?_⟩;exact ip.pure hI (OA ho (xV h2 har.1)) (h5 har.2.1)|false=>refine⟨[cv,.gn,y],⟨h1,.inl rfl,h3,trivial⟩,Hz.val h4 fun a S K w0 w φ H hI _ har _=>?_⟩;exact ip.pure hI (OA ho (xV h2 har.1)) (h5 har.2.2.1)
 have known:∀{x:Bool}{cv:V},OpE E cc cv->tg cv=some (.bool x)->opG s q gc _=some v->∃vs,QH E [cc,ca,cb] vs/\Hz P o [cc,ca,cb] vs s.heap s.next s.next v [] []:=fun h1 h2 h3=>by obtain⟨p1,p2,p3⟩:=M_ hq hE hg h3;exact key h1 h2 p1 p3 fun h=>h
 cases cc<;>first|(cases hp)|skip
 .rename_i g;simp[Yk]at hp;split at hp<;>first|(cases hp)|skip
  .rename_i c hkn;have ht:=hq.kn g c hkn;unfold LA at ht;split at ht<;>cases ht
   .rename_i he;exact known (.inr he) rfl hp
   .rename_i he;exact known (.inr he) rfl hp
  .rename_i c _ he;rcases hq.ev g _ he with h|h
   .cases h
   .exact known (.inr h) rfl hp
  .rename_i c _ he;split at hp<;>first|(cases hp)|skip
   rename_i x y h1 h2;rcases hq.ev g _ he with h|h
   .cases h
   .have htv:LA E g=some c:=by simp[LA,h]
    refine key (.inr h) rfl ?_ (ack hp) fun hz=>af0 hp hz;cases c with|true=>exact(M_ hq hE (fun g' b' e=>by cases e;exact htv) h1).1|false=>exact(M_ hq hE (fun g' b' e=>by cases e;exact htv) h2).1
 .rename_i c;cases c<;>first|(cases hp)|skip
  rename_i c;exact known (.inr rfl) rfl hp
def Zr:Ev.K->Bool
 |.lookup _ _ _ _ false=>true
 |_=>false
def aeS(k:Ev.K)(P:Program)(o:Oper)(args:List Operand)(vs:List V)(h:H2)(n n':Nat)(v:V)(u:xm)(l:List Nat):Prop:=Zr k=true->∀id∈l,∀kT vT m q,fO h id=some (.mp kT vT m)->aaT P o args vs ((id,some (.mp kT vT (pp m (pM vT) q).1))::h) n n' v u l
def PRE(nt:Nat)(kd:Ev.K)(P:Program)(o:Oper)(args:List Operand)(E:oc)(s:S2){β:Type}(k:V->S2->List Nat->Option β)(r:β):Prop:=∃vs v u n' l,QH E args vs/\k v (HG s u n') l=some r/\Hz P o args vs s.heap s.next n' v u l/\(∀d,o.dst=some d->d<nt)/\(2<=Iu kd\/u=[]/\n'=s.next/\(Iu kd=0->l=[]))/\aeS kd P o args vs s.heap s.next n' v u l/\(Md kd=true->WH s.heap u)
theorem RM{κ ν:Type}[DecidableEq κ]{k:κ}{e:κ×ν×Nat}:∀{l:List (κ×ν×Nat)}{i:Nat},d_ k (l++[e]) i=match d_ k l i with|some r=>some r|none=>if k=e.1 then some (i+l.length,e)else none:=by
 intro l;induction l with
 |nil=>simp[d_]
 |cons x l ih=>
  intro i;simp only[List.cons_append,d_];split
  .rfl
  .rw [ih];split
   .rfl
   .simp;rw[show i+1+l.length=i+(l.length+1)by omega]
theorem VD{κ ν:Type}[DecidableEq κ](m:Mp κ ν)(z:ν)(q k:κ):lS (pp m z q).1 z k=lS m z k:=by
 grind [pp,lS,RM,d_]
theorem Xd{op:OP}{vs:List V}{v:V}{l:List Nat}{id:Nat}{kT vT:Ty}{m:Mp (El kT) (El vT)}{q:El kT}(hk:Zr op.o.k=true)(h1:CK op vs h=some (v,l))(hid:id∈l)(ho:fO h id=some (.mp kT vT m)):CK op vs ((id,some (.mp kT vT (pp m (pM vT) q).1))::h)=some (v,l):=by
 obtain⟨⟨d,kk,as,g⟩,t0,fi⟩:=op;cases kk<;>first|(cases hk)|skip
 rename_i ka ks va z ok;cases ok<;>first|(cases hk)|skip
 rcases vs with _|⟨a,_|⟨b,_|⟨c,vr⟩⟩⟩<;>first|(cases h1)|skip
 have e1:∀hh:H2,CK ⟨⟨d,.lookup ka ks va z false,as,g⟩,t0,fi⟩ [a,b] hh=(match Y9 hh a with
  |some ⟨kt,vt,mp,l⟩=>(match zN kt b with
   |some k=>bif(kR kt==ka)&&(kR vt==va)&&decide _&&zG _ z&&oq vt&&(va||ei vt==1)then
     some (.x vt _,l)else none
   |none=>none)
  |none=>none):=fun _=>rfl
 rw[e1]at h1|-;cases a<;>first|(cases h1)|skip
 rename_i id';simp[Y9]at h1|-;cases ho':fO h id' with
 |none=>rw[ho']at h1;cases h1
 |some o=>
  rw[ho']at h1
  have hl:l=[id']:=by
   grind
  subst hl;obtain rfl:=aB.1 hid;rw[ho]at ho';cases ho';have e2:fO ((id,some (O.mp kT vT (pp m (pM vT) q).1))::h) id=some (.mp kT vT (pp m (pM vT) q).1):=by simp[fO,iV]
  rw[e2];simp only[VD];exact h1
theorem aba{op:OP}{vs:List V}{v:V}{l:List Nat}{hh:H2}(hk:Iu op.o.k=0)(h:CK op vs hh=some (v,l)):l=[]:=by
 unfold CK at h;split at h
 all_goals(repeat' split at h)
 all_goals first
  |(cases h;done)
  |(obtain⟨_,rfl⟩:=aq (af h);rfl)
  |(obtain⟨_,rfl⟩:=aq (af (aN h).2);rfl)
  |(cases(aN h).2;done)
  |(split at this
    .cases this)
  |(rename_i hkk _ _;rw[hkk]at hk;cases hk;done)
  |(exfalso;simp_all[Iu];done)
theorem aal{op:Op}{ro:Bool}{D2:List Bool}{args:List Operand}(hk:En P bI op=(.call ro D2,args)):∃c fop,op=.call c/\c.callee=.value fop/\args=fop::c.args.toList:=by
 have bld:∀{b:Builtin}{a:List Operand}{ts:List TypeId},mQ P b a ts≠(.call ro D2,args):=by
  intro b a ts e;unfold mQ at e
  repeat' split at e
  all_goals cases e
 have NK:∀{b:BinOp}{t:TypeId}{x y:Operand},Co P b t x y≠(.call ro D2,args):=by
  intro b t x y e;unfold Co s_ at e
  grind
 unfold En at hk;split at hk
 all_goals first
  |(cases hk;done)
  |exact absurd hk NK
  |skip
 all_goals(repeat' split at hk)
 all_goals first
  |(cases hk;done)
  |exact absurd hk bld
  |(cases hk;exact⟨_,_,rfl,by assumption,rfl⟩)
theorem ZR{t:Ty}{fi:List Nat}(hT:vi P tb)(hS:DX s.next s.heap)(hq:Lx s.jl q E)(hE:∀t v,E t=some v->fG s.next s.heap v)(hg:SI E (df P bI nt all o).guard)
  (h:exe tb ⟨df P bI nt all o,t,fi⟩ s q (df P bI nt all o).guard k=some r):PRE nt (df P bI nt all o).k P o (df P bI nt all o).args E s k r:=by
 obtain⟨kk,hkk⟩:∃kk,kk=(df P bI nt all o).k:=⟨_,rfl⟩
 have hcases:kk=.gY\/En P bI o.op=(kk,(df P bI nt all o).args)/\∀d,o.dst=some d->d<nt:=by
  grind [df]
 unfold exe at h;rw[<-hkk];have eta:∀co:IM,co.k=kk->co=⟨co.dst,kk,co.args,co.guard⟩:=fun co e=>by rw[<-e]
 have hco:=eta _ hkk.symm;generalize df P bI nt all o=co at*;subst hkk;rcases hcases with hbad|⟨hcomp,hdst⟩
 .exfalso;split at h
  .rename_i v l ht;unfold abf at ht;rw[hbad]at ht;simp only[E5,cond_false]at ht;split at ht<;>first|(cases ht;done)|skip
   unfold CK at ht;rw[hbad]at ht;cases ht
  .split at h<;>first|(cases h;done)|skip
   split at h
   .grind
   .unfold part at h;rw[hbad]at h;cases h
 .split at h
  .rename_i v l ht;unfold abf at ht;cases hp:E5 co.k with
   |true=>
    rw[hp]at ht;simp only[cond_true]at ht;split at ht<;>cases ht;rename_i hv;have hk:co.k=.pick:=by generalize co.k=kq at hp|-;cases kq<;>first|rfl|cases hp
    have hop:∃a b c,o.op=.pick a b c/\co.args=[a,b,c]:=by
     rw[hk]at hcomp;generalize o.op=op at hcomp|-
     have bld:∀{b:Builtin}{a:List Operand}{ts:List TypeId},mQ P b a ts≠(.pick,co.args):=by
      intro b a ts e;unfold mQ at e
      grind
     have NK:∀{b:BinOp}{t:TypeId}{x y:Operand},Co P b t x y≠(.pick,co.args):=by
      intro b t x y e;unfold Co s_ at e
      grind
     unfold En at hcomp;split at hcomp
     all_goals first
      |(cases hcomp;done)
      |exact⟨_,_,_,rfl,(aq hcomp).2.symm⟩
      |exact absurd hcomp NK
      |skip
     all_goals(repeat' split at hcomp)
     all_goals first
      |(cases hcomp;done)
      |exact absurd hcomp bld
    obtain⟨ca,cb,cc,h1,h2⟩:=hop;rw[h2]at hv|-;obtain⟨vs,g1,g2⟩:=abL h1 hq hE hg hv;exact⟨vs,v,[],s.next,[],g1,h,g2,hdst,.inr ⟨rfl,rfl,fun _=>rfl⟩,(fun e=>by rw[hk]at e;cases e),(fun e=>by rw[hk]at e;cases e)⟩
   |false=>
    rw[hp]at ht;simp only[cond_false]at ht;split at ht<;>first|(cases ht;done)|skip
    rename_i vs hvs;obtain⟨a1,a2⟩:=Ta hq hE hg hvs;refine⟨vs,v,[],s.next,l,a1,h,Hz.val (aa_ hS.bx (fun v hv=>(a2 v hv).2) ht) fun a S K w0 w φ H hI hsh har hag=>?_,hdst,?_,?_,?_⟩
    .rw [hco]at ht;exact LC hcomp (fun _=>rfl) hI hsh har hag hp ht
    .by_cases hc:2<=Iu co.k
     .exact .inl hc
     .exact .inr ⟨rfl,rfl,fun h0=>aba h0 ht⟩
    .intro hlk id hid kT vT m q hm;have ht2:=Xd (q:=q) hlk ht hid hm;rw[hco]at ht2;exact fun a S K w0 w φ H hI hsh har hag _=>(LC hcomp (fun _=>rfl) hI hsh har hag hp ht2:iA P o a.eval S K w0 w φ H s.next v).agd
    .intro he;exfalso;rw[hco]at ht;generalize co.k=kq at ht he;cases kq<;>first|(cases he;done)|(cases ht;done)
  .split at h<;>first|(cases h;done)|skip
   rename_i vs hvs;obtain⟨a1,a2⟩:=Ta hq hE hg hvs;split at h
   .rename_i ro D2 f vs' hk
    replace hk:co.k=.call ro D2:=hk
    rw[hk]at hcomp;obtain⟨c,fop,h1,h2,h3⟩:=aal hcomp;rw[h3]at a1|-;obtain⟨v,u,n',l,h4,h5⟩:=Tb h1 h2 hT hS (fun v hv=>(a2 v hv).2) (fun v hv=>(a2 v hv).1) h;exact⟨_,v,u,n',l,a1,h4,h5,hdst,.inl (by rw[hk];exact aw _),(fun e=>by rw[hk]at e;cases e),(fun e=>by rw[hk]at e;cases e)⟩
   .rename_i vs _ _ _
    have hp:E5 co.k=false:=by
     cases hp:E5 co.k with
     |false=>rfl
     |true=>
      exfalso;have hk:co.k=.pick:=by generalize co.k=kq at hp|-;cases kq<;>first|rfl|cases hp
      unfold part at h;rw[hk]at h;cases h
    rw[hco]at h;obtain⟨v,u,n',l,h4,h5,h6,h7⟩:=Rp hcomp hp hS (fun v hv=>(a2 v hv).2) (fun v hv=>(a2 v hv).1) a1.len h;refine⟨vs,v,u,n',l,a1,h4,h5.aon,hdst,h6.imp id fun⟨q1,q2,q3⟩=>⟨q1,q3,fun _=>q2⟩,fun e=>?_,h7⟩;exfalso;clear h5 h6 h7;generalize co.k=kq at h e;cases kq<;>first|(cases e;done)|(cases h;done)
end
abbrev Ef:=Option (V×xm×List Nat×Nat)
def We:Ef->V
 |some (v,_)=>v
 |none=>.no
def E_:Ef->xm
 |some (_,u,_)=>u
 |none=>[]
def Nt:Ef->List Nat
 |some (_,_,l,_)=>l
 |none=>[]
def vH(P:Program)(nt:Nat)(o:Oper)(co:IM)(E:oc)(h:H2)(n m:Nat)(f:Ef)(E':oc)(h':H2):Prop:=n<=m/\E'=sg E co.dst (We f)/\h'=E_ f++h/\(2<=Iu co.k\/E_ f=[]/\(Iu co.k=0->Nt f=[]))/\match f with|some (v,u,l,n')=>pO E co.guard=some true/\n'<=m/\(∀d,o.dst=some d->d<nt)/\∃vs,QH E co.args vs/\Hz P o co.args vs h n n' v u l/\aeS co.k P o co.args vs h n n' v u l/\(Md co.k=true->WH h u)|none=>pO E co.guard=some false
structure SD(n:Nat)(h:H2)(E:oc):Prop where
 DZ:DX n h
 jl:∀t v,E t=some v->fG n h v
section
variable{P:Program}{n m:Nat}{h h':H2}{tb:Lv}{s:S2}{β:Type}{k:S2->WO->Option β}{r:β}{o:Oper}{E E':oc}{q:Rg}{bI:II}{nt:Nat}{all:Array Oper}{dr:Option Nat}{co:IM}{f:Ef}
theorem DX.mono(hS:DX n h)(hn:n<=m):DX m h:=⟨fun id=>(hS.ln id).mono hn,fun id o ho=>bY (hS.lt id o ho) hn,fun id t c ho=>eA hn (D_.refl _ _) (hS.bx id t c ho)⟩
theorem SD.mono(hT:SD n h E)(hn:n<=m):SD m h E:=⟨hT.DZ.mono hn,fun t v hv=>eA hn (D_.refl _ _) (hT.jl t v hv)⟩
theorem vH.gj(hs:vH P nt o co E h n m f E' h'):D_ n h h':=by obtain⟨_,_,rfl,_,h4⟩:=hs;cases f with|none=>exact D_.refl _ _|some p=>obtain⟨_,_,_,vs,_,h5,_⟩:=h4;exact h5.QJ.gj
theorem vH.ok(hs:vH P nt o co E h n m f E' h')(hT:SD n h E):SD m h' E':=by
 have gj:=hs.gj;obtain⟨hle,rfl,rfl,_,h4⟩:=hs;cases f with
 |none=>
  refine⟨hT.DZ.mono hle,fun t v hv=>?_⟩;unfold sg at hv;split at hv
  .cases hv;trivial
  .exact eA hle gj (hT.jl t v hv)
 |some p=>
  obtain⟨_,hle',_,vs,_,h5,_⟩:=h4;refine⟨(hT.DZ.iT h5.le h5.QJ h5.lt h5.bx).mono hle',fun t v hv=>?_⟩;unfold sg at hv;split at hv
  .cases hv;exact eA hle' (D_.refl _ _) h5.okv
  .exact eA hle gj (hT.jl t _ hv)
def agY(E:oc)(g:Option (Nat×Bool)):GV->Prop
 |.run=>SI E g/\pO E g=some true
 |.skip=>pO E g=some false
 |.sym g' b c=>g=some (g',b)/\E g'=some (.x .b c)
theorem anq{e:List (Nat×V)}{g:Option (Nat×Bool)}{gv:GV}(hq:Lx e q E)(h:gdV e q.kn g=some gv):agY E g gv:=by
 cases g with
 |none=>cases h;exact⟨(fun _ _ e=>by cases e),rfl⟩
 |some p=>
  obtain⟨g,b⟩:=p
  have tv:∀{c:Bool},LA E g=some c->pO E (some (g,b))=some (c==b):=by
   grind [LA,pO]
  have known:∀{c:Bool},LA E g=some c->(bif c==b then GV.run else GV.skip)=gv->agY E (some (g,b)) gv:=by
   intro c ht e;have hw:=tv ht;cases hc:(c==b)<;>rw[hc]at e hw<;>cases e
   .exact hw
   .refine ⟨fun g' b' e=>?_,hw⟩;simp_all
  simp[gdV]at h;split at h
  .rename_i c hk;exact known (hq.kn g c hk) (af h)
  .split at h<;>first|(cases h;done)|skip
   .rename_i c he;rcases hq.ev g _ he with h1|h1
    .cases h1
    .exact known (by simp[LA,h1]) (af h)
   .rename_i c he;cases h;rcases hq.ev g _ he with h1|h1
    .cases h1
    .exact ⟨rfl,h1⟩
   .rename_i he;cases h;rcases hq.ev g _ he with h1|h1
    .cases h1
    .show pO E _=_;simp[pO,h1]
theorem mJ{α:Type}(a:Nat)(x:α)(l:List (Nat×α))(k:Nat):iV ((a,x)::l) k=if a=k then some x else iV l k:=by
 grind [iV]
theorem R9{α:Type}{p:Nat×α->Bool}{k:Nat}{x:α}:∀{l:List (Nat×α)},(∀y,p (k,y)=true)->iV (l.filter p) k=some x->iV l k=some x:=by
 intro l hp;induction l with
 |nil=>intro h;cases h
 |cons a l ih=>
  obtain⟨j,y⟩:=a;intro h;rw[mJ];by_cases e:j=k
  .subst e;rw[dN,if_pos (hp y),mJ,if_pos rfl]at h;simp[h]
  .rw [if_neg e];rw[dN]at h;split at h
   .rw [mJ,if_neg e]at h;exact ih h
   .exact ih h
theorem ac8{d:Option Nat}{q2:Rg}(hc:clr q d=some q2):q2.kn=q.kn/\(∀t,(d=some t->iV q2.cd t=none)/\∀x,iV q2.cd t=some x->iV q.cd t=some x)/\∀t,d=some t->(∀g,iV q.kn g≠none->g≠t)/\∀t' g b v,iV q.cd t'=some (g,b,v)->g≠t:=by
 cases d with
 |none=>cases hc;exact⟨rfl,(fun t=>⟨(fun e=>by cases e),fun _ h=>h⟩),(fun t e=>by cases e)⟩
 |some d=>
  unfold clr at hc;cases e:(q.cd.any (fun e=>e.2.1==d)||q.kn.any (fun e=>e.1==d))<;>simp[e]at hc<;>cases hc;simp only[Bool.or_eq_false_iff]at e;obtain⟨e1,e2⟩:=e;refine⟨rfl,fun t=>⟨fun e=>?_,fun x h=>?_⟩,fun t e=>?_⟩
  .cases e;cases hx:iV _ d with|none=>rfl|some y=>have:=dy.1 (nE.1 y hx);simp at this
  .have:t≠d:=by rintro rfl;have:=dy.1 (nE.1 x h);simp at this
   exact R9 (fun y=>by simpa using this) h
  .cases e;refine⟨fun g hg=>?_,fun t' g b v hv=>?_⟩
   .cases hx:iV q.kn g with|none=>exact absurd hx hg|some y=>have:=vw.1 e2 _ (nE.1 y hx);simpa using this
   .have:=vw.1 e1 _ (nE.1 _ hv);simpa using this
theorem Lx.put{e:List (Nat×V)}{d:Option Nat}{v v':V}{q2:Rg}(hq:Lx e q E)(hc:clr q d=some q2)(hv:v'=.gn\/v'=v):Lx (arY ⟨e,h,n,[],.ni⟩ d v').jl q2 (sg E d v):=by
 obtain⟨c1,c2,c3⟩:=ac8 hc;have hne:∀{t:Nat},d≠some t->sg E d v t=E t:=fun h=>by simp[sg,h]
 have hkn:∀g c,iV q2.kn g=some c->d≠some g:=fun g c hk e=>by grind
 have tv:∀{g:Nat},d≠some g->LA (sg E d v) g=LA E g:=fun h=>by simp only[LA,hne h]
 refine⟨fun t x hx=>?_,fun g c hk=>?_,fun t g b x hx=>?_⟩
 .cases d with
  |none=>simpa[sg]using hq.ev t x hx
  |some d=>
   simp only[arY,mJ]at hx;by_cases e:d=t
   .rw [if_pos e]at hx;cases hx;rcases hv with rfl|rfl
    .exact .inl rfl
    .exact .inr (by simp[sg,e])
   .rw [if_neg e]at hx;rw[hne (by simpa using e)];exact hq.ev t x hx
 .rw [tv (hkn g c hk)];exact hq.kn g c (c1▸hk)
 .have hd:d≠some t:=fun e=>by rw[(c2 t).1 e]at hx;cases hx
  have hx2:=(c2 t).2 _ hx;have hg:=fun e=>(c3 g e).2 t g b x hx2 rfl;obtain⟨c,q1,q2,q3⟩:=hq.cd t g b x hx2;simp_all
theorem Lx.kn1{e:List (Nat×V)}{g:Nat}{c:Bool}(hq:Lx e q E)(ht:LA E g=some c):Lx e ⟨(g,c)::q.kn,q.cd⟩ E:=
 ⟨hq.ev,fun g' c' hk=>by
  rw[mJ]at hk;split at hk
  .simp_all
  .exact hq.kn g' c' hk,hq.cd⟩
theorem Lx.cd1{e:List (Nat×V)}{d g:Nat}{b c:Bool}{v:V}(hq:Lx e q E)(ht:LA E g=some c)(h1:c=b->E d=some v)(h2:c≠b->E d=some .no):Lx e ⟨q.kn,(d,g,b,v)::q.cd⟩ E:=
 ⟨hq.ev,hq.kn,fun t g' b' v' hx=>by
  rw[mJ]at hx;split at hx
  .grind
  .exact hq.cd t g' b' v' hx⟩
structure Eo(P:Program)(bI:II)(nt:Nat)(all:Array Oper)(dr:Option Nat)(l:List Oper)(i:Nat)(s0:S2)(E0:oc)(E:Nat->oc)(Hp:Nat->H2)(N:Nat->Nat)(ef:Nat->Ef)(s':S2)(q':Rg)(tr:WO):Prop where
 e0:E 0=E0
 h0:Hp 0=s0.heap
 rg:Lx s'.jl q' (E l.length)
 hp:s'.heap=Hp l.length
 gh:s'.gh=s0.gh
 wo:∃U:xm,s'.heap=U++s0.heap/\s'.wo=U.map (·.1)++s0.wo
 fr:∀t,(∀o∈l,o.dst≠some t)->iV s'.jl t=iV s0.jl t
 nd:∀b,dr=some b->s'.next<=b+AI*(i+l.length)/\∀j,j<=l.length->N j=b+AI*(i+j)
 nn:dr=none->N 0=s0.next/\N l.length=s'.next
 ok:∀j,j<=l.length->SD (N j) (Hp j) (E j)
 st:∀j o,l[j]?=some o->vH P nt o (df P bI nt all o) (E j) (Hp j) (N j) (N (j+1)) (ef j) (E (j+1)) (Hp (j+1))/\∃lj,tr[j]?=some (lj,(E_ (ef j)).map (·.1))/\∀x∈Nt (ef j),x∈lj
def Pm(dr:Option Nat)(i m:Nat):Nat:=match dr with|some b=>b+AI*(i+1)|none=>m
theorem Eo.cons{l:List Oper}{i:Nat}{s0 s1:S2}{E0 E1:oc}{f:Ef}{lj:List Nat}{Es:Nat->oc}{Hp:Nat->H2}{N:Nat->Nat}{ef:Nat->Ef}{s':S2}{q':Rg}{tr:WO}(hT:Eo P bI nt all dr l (i+1) s1 E1 Es Hp N ef s' q' tr)
  (hok:SD (xJ dr i s0).next s0.heap E0) (gj:vH P nt o (df P bI nt all o) E0 s0.heap (xJ dr i s0).next (Pm dr i s1.next) f E1 s1.heap) (hl:∀x∈Nt f,x∈lj) (hgh:s1.gh=s0.gh)
  (hwo:s1.heap=E_ f++s0.heap/\s1.wo=(E_ f).map (·.1)++s0.wo) (hfr:∀t,o.dst≠some t->iV s1.jl t=iV s0.jl t):
  Eo P bI nt all dr (o::l) i s0 E0 (fun j=>match j with|0=>E0|j+1=>Es j) (fun j=>match j with|0=>s0.heap|j+1=>Hp j) (fun j=>match j with|0=>(xJ dr i s0).next|j+1=>N j) (fun j=>match j with|0=>f|j+1=>ef j) s' q' ((lj,(E_ f).map (·.1))::tr):=by
 have hN0:N 0=Pm dr i s1.next:=by cases hd:dr with|none=>exact(hT.nn hd).1|some b=>have:=(hT.nd b hd).2 0 (Nat.zero_le _);show N 0=b+AI*(i+1);simpa using this
 refine⟨rfl,rfl,hT.rg,hT.hp,hT.gh.trans hgh,?_,fun t ht=>?_,fun b hb=>⟨?_,fun j hj=>?_⟩,fun hd=>⟨?_,?_⟩,fun j hj=>?_,fun j o' hj=>?_⟩
 .obtain ⟨U,u1,u2⟩:=hT.wo
  grind
 .rw [hT.fr t fun o ho=>ht o (by simp[ho]),hfr t (ht o (by simp))]
 .have:=(hT.nd b hb).1;rw[List.length_cons,show i+(l.length+1)=i+1+l.length by omega];exact this
 .cases j with
  |zero=>subst hb;rfl
  |succ j=>
   have:=(hT.nd b hb).2 j (by simpa using hj)
   grind
 .subst hd;rfl
 .exact (hT.nn hd).2
 .cases j with|zero=>exact hok|succ j=>exact hT.ok j (by simpa using hj)
 .cases j with
  |zero=>
   obtain rfl:o=o':=by simpa using hj
   refine⟨?_,lj,rfl,hl⟩;simp[hT.e0,hT.h0,hN0];exact gj
  |succ j=>obtain⟨a1,a2⟩:=hT.st j o' (by simpa using hj);exact⟨a1,by simpa using a2⟩
theorem L3(hT:vi P tb):∀(l:List Oper)(i:Nat)(s0:S2)(q:Rg)(E0:oc)(tr:WO),AT tb dr (l.map (AN P bI nt all)) i s0 q tr k=some r->Lx s0.jl q E0->SD s0.next s0.heap E0->(∀b,dr=some b->s0.next<=b+AI*i)->
  ∃E Hp N ef s' q' tr',k s' (tr++tr')=some r/\Eo P bI nt all dr l i s0 E0 E Hp N ef s' q' tr':=by
 intro l;induction l with
 |nil=>
  intro i s0 q E0 tr h hq hok hb;refine⟨fun _=>E0,fun _=>s0.heap,fun _=>(match dr with|some b=>b+AI*i|none=>s0.next),fun _=>none,s0,q,[],by rw[bO];exact h,rfl,rfl,hq,rfl,rfl,⟨[],rfl,rfl⟩,fun t _=>rfl,fun b e=>?_,fun e=>?_,fun j hj=>?_,fun j o hj=>by simp at hj⟩
  .subst e;exact⟨hb b rfl,fun j hj=>by
    obtain rfl:j=0:=by simpa using hj
    rfl⟩
  .subst e;exact⟨rfl,rfl⟩
  .cases dr with|none=>exact hok|some b=>exact hok.mono (hb b rfl)
 |cons o l ih=>
  intro i s0 q E0 tr h hq hok hb;have hle:s0.next<=(xJ dr i s0).next:=by cases dr with|none=>exact aw _|some b=>exact hb b rfl
  have hok1:SD (xJ dr i s0).next (xJ dr i s0).heap E0:=by cases dr with|none=>exact hok|some b=>exact hok.mono hle
  have hq1:Lx (xJ dr i s0).jl q E0:=by cases dr<;>exact hq
  have hsame:(xJ dr i s0).jl=s0.jl/\(xJ dr i s0).heap=s0.heap/\(xJ dr i s0).wo=s0.wo/\(xJ dr i s0).gh=s0.gh:=by cases dr<;>exact⟨rfl,rfl,rfl,rfl⟩
  have next:∀{q2:Rg}{d:Option Nat}{v v':V}{u:xm}{n':Nat}{f:Ef}{lj:List Nat},AT tb dr (l.map (AN P bI nt all)) (i+1) (arY (HG (xJ dr i s0) u n') d v') q2 (tr++[(lj,u.map (·.1))]) k=some r->d=o.dst->E_ f=u->We f=v->(∀x∈Nt f,x∈lj)->
    Lx (arY (HG (xJ dr i s0) u n') d v').jl q2 (sg E0 d v)->(∀b,dr=some b->n'<=b+AI*(i+1))->(xJ dr i s0).next<=n'->
    vH P nt o (df P bI nt all o) E0 s0.heap (xJ dr i s0).next (Pm dr i n') f (sg E0 d v) (u++s0.heap)->SD n' (u++s0.heap) (sg E0 d v)->
    ∃E Hp N ef s' q' tr',k s' (tr++tr')=some r/\Eo P bI nt all dr (o::l) i s0 E0 E Hp N ef s' q' tr':=by
   intro q2 d v v' u n' f lj h1 hd hu hv hl h2 h3 h4 h5 h6;have eh:(arY (HG (xJ dr i s0) u n') d v').heap=u++s0.heap:=by cases d<;>simp[arY,HG,hsame.2.1]
   have en:(arY (HG (xJ dr i s0) u n') d v').next=n':=by cases d<;>rfl
   obtain⟨E,Hp,N,ef,s',q',tr',g1,g2⟩:=ih (i+1) _ q2 _ _ h1 h2 (by rw[en,eh];exact h6) (fun b e=>by rw[en];exact h3 b e)
   have:=g2.cons (o:=o) (s0:=s0) (E0:=E0) (f:=f) (lj:=lj) (by rw[<-hsame.2.1];exact hok1) (by rw[eh,en];exact h5) hl (by cases d<;>simp[arY,HG,hsame.2.2.2]) (by rw[eh,hu];refine⟨rfl,?_⟩;cases d<;>simp[arY,HG,hsame.2.2.1]) (fun t ht=>by
    cases d with
    |none=>simp[arY,HG,hsame.1]
    |some d=>simp only[arY,HG,mJ,hsame.1];rw[if_neg (fun e=>ht (by rw[<-hd,e]))])
   rw[hu]at this;exact⟨_,_,_,_,s',q',_,by rw[<-g1];simp,this⟩
  have go:∀{q2:Rg},Lx (xJ dr i s0).jl q2 E0->SI E0 (df P bI nt all o).guard->pO E0 (df P bI nt all o).guard=some true->(exe tb (AN P bI nt all o) (xJ dr i s0) q2 (df P bI nt all o).guard fun v s1 lk=>
    bif inB dr i s1 then(match clr q2 o.dst with
     |some q=>AT tb dr (l.map (AN P bI nt all)) (i+1) (arY s1 o.dst v) q (tr++[(lk,s1.wo.take (s1.wo.length-(xJ dr i s0).wo.length))]) k
     |none=>none)else none)=some r->∃E Hp N ef s' q' tr',k s' (tr++tr')=some r/\Eo P bI nt all dr (o::l) i s0 E0 E Hp N ef s' q' tr':=by
   intro q2 hq2 hgc hw hx;obtain⟨vs,v,u,n',lk,h1,h2,h3,hdst,h4,hs1,hs2⟩:=ZR hT hok1.DZ hq2 hok1.jl hgc hx;obtain⟨e1,h5⟩:=aN h2;split at h5<;>first|(cases h5;done)|skip
   rename_i q3 hc;have ewo:(HG (xJ dr i s0) u n').wo.take ((HG (xJ dr i s0) u n').wo.length-(xJ dr i s0).wo.length)=u.map (·.1):=by simp[HG]
   rw[ewo]at h5;have hn:∀b,dr=some b->n'<=b+AI*(i+1):=fun b e=>by subst e;simpa[inB,HG]using e1
   have hm:n'<=Pm dr i n':=by cases dr with|none=>exact aw _|some b=>exact hn b rfl
   rw[hsame.2.1]at h3 hs1 hs2;have gj:vH P nt o (df P bI nt all o) E0 s0.heap (xJ dr i s0).next (Pm dr i n') (some (v,u,lk,n')) (sg E0 o.dst v) (u++s0.heap):=⟨bg h3.le hm,rfl,rfl,h4.imp id fun⟨a,_,c⟩=>⟨a,c⟩,hw,hm,hdst,vs,h1,h3,hs1,hs2⟩
   have hst':vH P nt o (df P bI nt all o) E0 s0.heap (xJ dr i s0).next n' (some (v,u,lk,n')) (sg E0 o.dst v) (u++s0.heap):=⟨h3.le,rfl,rfl,h4.imp id fun⟨a,_,c⟩=>⟨a,c⟩,hw,aw _,hdst,vs,h1,h3,hs1,hs2⟩
   refine next (f:=some (v,u,lk,n')) (lj:=lk) (n':=n') h5 rfl rfl rfl (fun x hx=>hx) ?_ hn h3.le gj (hst'.ok (by rw[<-hsame.2.1];exact hok1))
   have:=hq2.put (n:=n') (h:=u++s0.heap) (v:=v) hc (.inr rfl);cases hd:o.dst<;>simpa[arY,HG,hd,We]using this
  have no:∀{q2:Rg},Lx (xJ dr i s0).jl q2 E0->pO E0 (df P bI nt all o).guard=some false->(match clr q2 o.dst with|some q=>AT tb dr (l.map (AN P bI nt all)) (i+1) (arY (xJ dr i s0) o.dst .no) q (tr++[([],[])]) k|none=>none)=some r->
    ∃E Hp N ef s' q' tr',k s' (tr++tr')=some r/\Eo P bI nt all dr (o::l) i s0 E0 E Hp N ef s' q' tr':=by
   intro q2 hq2 hw hx;split at hx<;>first|(cases hx;done)|skip
   rename_i q3 hc;have hm:(xJ dr i s0).next<=Pm dr i (xJ dr i s0).next:=by cases dr with|none=>exact aw _|some b=>exact rL (jh _ (cA _)) _
   have gj:∀m,(xJ dr i s0).next<=m->vH P nt o (df P bI nt all o) E0 s0.heap (xJ dr i s0).next m none (sg E0 o.dst .no) ([]++s0.heap):=fun m hm=>⟨hm,rfl,rfl,.inr ⟨rfl,fun _=>rfl⟩,hw⟩
   refine next (f:=none) (lj:=[]) (u:=[]) (n':=(xJ dr i s0).next) (v':=.no) hx rfl rfl rfl (fun x hx=>hx) ?_ (fun b e=>by subst e;exact hm) (aw _) (gj _ hm) ((gj _ (aw _)).ok (by rw[<-hsame.2.1];exact hok1))
   have:=hq2.put (n:=0) (h:=[]) (v:=.no) hc (.inr rfl);cases hd:o.dst<;>simpa[arY,HG,hd,We]using this
  rw[List.map_cons]at h;simp only[AT]at h;have hgd:∀{gv:GV},gdV (xJ dr i s0).jl q.kn (AN P bI nt all o).o.guard=some gv->agY E0 (df P bI nt all o).guard gv:=fun hg=>anq hq1 hg;split at h
  .cases h
  .rename_i hg;obtain⟨g1,g2⟩:=hgd hg;exact go hq1 g1 g2 h
  .rename_i hg;exact no hq1 (hgd hg) h
  .rename_i g b c hg;obtain⟨g1,g2⟩:=hgd hg;have htv:LA E0 g=some c:=by simp[LA,g2]
   have hw:pO E0 (df P bI nt all o).guard=some (c==b):=by rw[g1];simp[pO,g2]
   have hgc:c=b->SI E0 (df P bI nt all o).guard:=fun e g' b' e'=>by rw[g1]at e';cases e';rw[htv,e]
   split at h
   .rename_i v lk hx;cases hwt:adB (AN P bI nt all o).o.dst (l.map (AN P bI nt all))<;>rw[hwt]at hx
    .simp only[cond_false]at hx;split at h<;>first|(cases h;done)|skip
     rename_i q3 d hc hd;cases hgd2:Nat.beq g d<;>rw[hgd2]at h
     .simp only[cond_false]at h;have hne:g≠d:=fun e=>by subst e;simp at hgd2
      have hd':o.dst=some d:=hd;have htv2:∀{x:V},LA (sg E0 (some d) x) g=some c:=fun{x}=>by simp only[LA,sg,g2];rw[if_neg (fun e=>hne (af e).symm)]
      have hput:∀x:V,Lx (arY (HG (xJ dr i s0) [] (xJ dr i s0).next) (some d) .gn).jl q3 (sg E0 (some d) x):=fun x=>by have:=hq1.put (n:=0) (h:=[]) (v:=x) (v':=.gn) (d:=some d) (by rw[<-hd'];exact hc) (.inl rfl);simpa[arY,HG]using this
      by_cases hcb:c=b
      .have hret:exe tb (AN P bI nt all o) (xJ dr i s0) q (df P bI nt all o).guard (fun v s l=>some (v,s,l))=some (v,xJ dr i s0,lk):=by unfold exe;rw[g1,hx]
       obtain⟨vs,v2,u,n',lk2,h1,h2,h3,hdst,h4,hs1,hs2⟩:=ZR hT hok1.DZ hq1 hok1.jl (hgc hcb) hret;have h2':=af h2;simp only[Prod.mk.injEq]at h2';obtain⟨rfl,e2,rfl⟩:=h2';have eu:u=[]:=by have:=congrArg S2.heap e2;simp only[HG]at this;exact sK (this.trans (e_ _).symm)
       have en:n'=(xJ dr i s0).next:=congrArg S2.next e2
       subst eu;subst en;rw[hsame.2.1]at h3 hs1 hs2;have hm:(xJ dr i s0).next<=Pm dr i (xJ dr i s0).next:=by cases dr with|none=>exact aw _|some b=>exact rL (jh _ (cA _)) _
       have gj:∀m,(xJ dr i s0).next<=m->vH P nt o (df P bI nt all o) E0 s0.heap (xJ dr i s0).next m (some (v2,[],lk2,(xJ dr i s0).next)) (sg E0 (some d) v2) ([]++s0.heap):=fun m hm=>⟨hm,by rw[<-hd'];rfl,rfl,h4.imp id fun⟨a,_,c⟩=>⟨a,c⟩,by rw[hw,hcb];simp,hm,hdst,vs,h1,h3,hs1,hs2⟩
       refine next (f:=some (v2,[],lk2,(xJ dr i s0).next)) (lj:=lk2) (u:=[]) (n':=(xJ dr i s0).next) (v':=.gn) h hd'.symm rfl rfl (fun x hx=>hx) ?_ (fun b e=>by subst e;exact hm) (aw _) (gj _ hm) ((gj _ (aw _)).ok (by rw[<-hsame.2.1];exact hok1))
       exact(hput v2).cd1 htv2 (fun _=>by simp[sg]) (fun e=>absurd hcb e)
      .have hm:(xJ dr i s0).next<=Pm dr i (xJ dr i s0).next:=by cases dr with|none=>exact aw _|some b=>exact rL (jh _ (cA _)) _
       have gj:∀m,(xJ dr i s0).next<=m->vH P nt o (df P bI nt all o) E0 s0.heap (xJ dr i s0).next m none (sg E0 (some d) .no) ([]++s0.heap):=fun m hm=>⟨hm,by rw[<-hd'];rfl,rfl,.inr ⟨rfl,fun _=>rfl⟩,by rw[hw];cases c<;>cases b<;>simp_all⟩
       refine next (f:=none) (lj:=lk) (u:=[]) (n':=(xJ dr i s0).next) (v':=.gn) h hd'.symm rfl rfl (fun x hx=>by simp[Nt]at hx) ?_ (fun b e=>by subst e;exact hm) (aw _) (gj _ hm) ((gj _ (aw _)).ok (by rw[<-hsame.2.1];exact hok1))
       exact(hput .no).cd1 htv2 (fun e=>absurd e hcb) (fun _=>by simp[sg])
     .cases h
    .cases hx
   .cases b with
    |true=>cases c with|true=>exact go (hq1.kn1 htv) (hgc rfl) (by rw[hw];rfl) h|false=>exact no (hq1.kn1 htv) (by rw[hw];rfl) h
    |false=>cases c with|true=>exact no (hq1.kn1 htv) (by rw[hw];rfl) h|false=>exact go (hq1.kn1 htv) (hgc rfl) (by rw[hw];rfl) h
end
structure NT(S K:Nat->Prop)(w0:World)(φ:iq)(gv:List Value)(nt:Nat)(E:oc)(H:Hf)(gh:V)(a:Act)(w:World):Prop where
 inv:Inv S K w0 φ H w
 jl:kB S w φ E a.tmps
 size:a.tmps.size=nt
 defers:a.defers=[]
 gh:∀(i:Nat)(c:V)(v:Value),(kO gh)[i]?=some c->gv[i]?=some v->RW S w φ c v
structure Ax(S K:Nat->Prop)(w0:World)(φ:iq)(gv:List Value)(nt:Nat)(s:S2)(a:Act)(w:World):Prop where
 rx:NT S K w0 φ gv nt (iV s.jl) (fO s.heap) s.gh a w
 zk:∀j,s.next<=j->φ j=none
 HR:A6 φ s.heap
 ok:SD s.next s.heap (iV s.jl)
 ZC:∀c∈kO s.gh,fG s.next s.heap c
section
variable{P:Program}{n m:Nat}{h h':H2}{tb:Lv}{s:S2}{β:Type}{k:S2->WO->Option β}{r:β}{o:Oper}{E E' Ei Ei':oc}{bI:II}{nt:Nat}{all:Array Oper}{f:Ef}
 {S K:Nat->Prop} {w0 w:World} {φ:iq} {gv:List Value} {H:Hf} {gh:V} {a:Act}
theorem QH.congr:∀{as:List Operand}{vs:List V},QH Ei as vs->(∀t∈as.filterMap opT,E t=Ei t)->QH E as vs:=by
 intro as;induction as with
 |nil=>intro vs h _;cases vs<;>exact h
 |cons x as ih=>
  intro vs h he;cases vs with
  |nil=>exact h.elim
  |cons v vs=>
   refine⟨h.1.imp id fun h1=>?_,ih h.2 fun t ht=>he t ?_⟩
   .grind [opT,trans]
   simp_all
theorem HN{g:Option (Nat×Bool)}(h:∀t∈(match g with|some (t,_)=>[t]|none=>([]:List Nat)),E t=Ei t):pO E g=pO Ei g:=by
 grind [pO]
theorem Yg{d:Option Nat}{v:Value}{t:Nat}(h:d≠some t):(a.put d v).tmps.getD t undef=a.tmps.getD t undef:=by cases d with|none=>rfl|some d=>simp_all[Act.put]
theorem Oy(hnt:nt<1000000000)(hs:vH P nt o (df P bI nt all o) Ei h n m f Ei' h')(hR:NT S K w0 φ gv nt E H gh a w)(hE:∀t∈Nl (df P bI nt all o),E t=Ei t){i:Nat}(ho:all[i]?=some o)
  (hG:∀v u l n',f=some (v,u,l,n')->∃G vs,QH Ei (df P bI nt all o).args vs/\aaT P o (df P bI nt all o).args vs G n n' v u l/\A6 φ G/\∀id∈l,H id=fO G id) (hfr:∀j,n<=j->j<m->φ j=none) {Q:Exit->Act->World->Prop} {KK:Act->World->Prop}
  (hK:∀S' φ' a' w',iW S w S' w'->Ren φ φ'->(∀i l,φ' i=some l->φ i=none->n<=i/\i<m)->NT S' K w0 φ' gv nt (sg E o.dst (We f)) (up H (E_ f)) gh a' w'->(∀t,o.dst≠some t->a'.tmps.getD t undef=a.tmps.getD t undef)->KK a' w'):wpOp P all Q i KK a w:=by
 obtain⟨hle,_,_,_,h4⟩:=hs;have hg:=fun t ht=>hE t (List.mem_append_right _ ht);have hsz:a.tmps.size<1000000000:=by rw[hR.size];exact hnt
 simp[wpOp,ho];cases f with|none=>have hw:=h4;rw[<-HN hg]at hw;rw[if_neg (by simp[HJ hR.jl hsz hw])];exact hK S φ _ w (iW.refl _ _) (Ren.refl _) (fun i l h1 h2=>by rw[h1]at h2;cases h2) ⟨hR.inv,hR.jl.drop,by rw[OY];exact hR.size,by rw[JE];exact hR.defers,hR.gh⟩ fun t ht=>Yg ht|some p=>obtain⟨v,u,l,n'⟩:=p;obtain⟨hw,hn',hdst,_⟩:=h4;rw[<-HN hg]at hw;rw[if_pos (HJ hR.jl hsz hw)];left;obtain⟨G,vs,h5,h6,h7,h8⟩:=hG v u l n' rfl;have har:=(h5.congr fun t ht=>hE t (List.mem_append_left _ ht)).ar hR.jl hR.inv.R5;refine h6 a S K w0 w φ H hR.inv h7 har h8 (fun j h1 h2=>hfr j h1 (by omega)) _ _ fun val w' hD=>?_;obtain⟨hle2,S',φ',d1,d2,d3,d4,d5⟩:=hD;exact hK S' φ' _ w' d1 d2 (fun i l h1 h2=>by have:=d3 i l h1 h2;omega) ⟨d5,hR.jl.put d1 d2 (fun x hx=>by rw[hR.size];exact hdst x hx) d4,by rw[OY];exact hR.size,by rw[JE];exact hR.defers,fun i c v h1 h2=>(hR.gh i c v h1 h2).mono d1 d2⟩ fun t ht=>Yg ht
theorem XK{φ':iq}{H':Hf}{S':Nat->Prop}{w':World}(hs:A6 φ h)(gj:D_ n h h')(hfr:∀j,n<=j->φ j=none)(hr:Ren φ φ')(hI:Inv S' K w0 φ' H' w')(hH:H'=fO h'):A6 φ' h':=by
 intro id l o h1 h2;cases e:φ id with
 |none=>rw[<-hH]at h2;obtain⟨l2,a1,a2,_⟩:=hI.o9 id o h2;obtain rfl:=af (h1.symm.trans a1);exact a2.HR
 |some l0=>
  obtain rfl:=af ((hr id l0 e).symm.trans h1)
  have hlt:id<n:=by
   grind
  exact FC gj hlt (fun o ho=>hs id l0 o e ho) o h2
structure Ly(os:List Oper)(n:Nat)(φ0 φ:iq)(a0 a:Act):Prop where
 tmp:∀t,(∀o∈os,o.dst≠some t)->a.tmps.getD t undef=a0.tmps.getD t undef
 plc:∀i,i<n->φ i=φ0 i
theorem Ly.iT{os:List Oper}{n m m':Nat}{φ0 φ φ':iq}{a0 a a':Act}(h:Ly os n φ0 φ a0 a)(ho:o∈os)(hr:Ren φ φ')(hn:∀i l,φ' i=some l->φ i=none->m<=i/\i<m')(hm:n<=m)(ha:∀t,o.dst≠some t->a'.tmps.getD t undef=a.tmps.getD t undef):Ly os n φ0 φ' a0 a':=by
 refine⟨fun t ht=>(ha t (ht o ho)).trans (h.tmp t ht),fun i hi=>?_⟩;rw[<-h.plc i hi];cases e:φ i with
 |some l=>exact hr i l e
 |none=>cases e2:φ' i with|none=>rfl|some l=>have:=hn i l e2 e;omega
theorem afq{E0:oc}{Es:Nat->oc}{Hp:Nat->H2}{N:Nat->Nat}{ef:Nat->Ef}{s0 s':S2}{q':Rg}{tr:WO}{os:List Oper}{i0:Nat}(hnt:nt<1000000000)(hT:Eo P bI nt all none os i0 s0 E0 Es Hp N ef s' q' tr){Q:Exit->Act->World->Prop}{S0:Nat->Prop}{ws:World}{gh:V}{a0:Act}{φ0:iq}
  (hQ:∀S' φ' a' w',iW S0 ws S' w'->NT S' K w0 φ' gv nt (Es os.length) (fO (Hp os.length)) gh a' w'->(∀j,N os.length<=j->φ' j=none)->A6 φ' (Hp os.length)->Ly os (N 0) φ0 φ' a0 a'->Q .normal a' w'):
  ∀(l:List Nat)(p:Nat)(S:Nat->Prop)(φ:iq)(a:Act)(w:World),(∀i j,l[i]?=some j->all[j]?=os[p+i]?)->l.length+p=os.length->NT S K w0 φ gv nt (Es p) (fO (Hp p)) gh a w->(∀j,N p<=j->φ j=none)->A6 φ (Hp p)->iW S0 ws S w->Ly os (N 0) φ0 φ a0 a->N 0<=N p->wpOps P all Q l a w:=by
 intro l;induction l with
 |nil=>
  intro p S φ a w _ hl hR hfr hsh gj hkp _;have e:=by simpa using hl
  subst e;exact hQ S φ a w gj hR hfr hsh hkp
 |cons i l ih=>
  intro p S φ a w hi hl hR hfr hsh gj hkp hN;have hp:p<os.length:=by simp at hl;omega
  have ho:all[i]?=some os[p]:=by rw[hi 0 i rfl];simp
  obtain⟨st,_⟩:=hT.st p os[p] (bf hp);have hhst:=st.gj;have eE:=st.2.1;have eH:=st.2.2.1;refine Oy hnt st hR (fun t _=>rfl) ho (fun v u l n' e=>?_) (fun j h1 _=>hfr j h1) fun S' φ' a' w' h1 h2 h3 h4 h9=>?_
  .obtain ⟨_,_,_,_,h5⟩:=st;rw[e]at h5;obtain⟨_,_,_,vs,h6,h7,_⟩:=h5;exact⟨Hp p,vs,h6,h7.act,hsh,fun _ _=>rfl⟩
  .have e1:up (fO (Hp p)) (E_ (ef p))=fO (Hp (p+1)):=by rw[eH,oz]
   have e2:sg _ os[p].dst _=Es _:=eE.symm;rw[e1,e2]at h4
   exact ih _ S' φ' a' w' (fun i' j hj=>by have:=hi (i'+1) j (by simpa using hj);rw[this];congr 1;omega) (by simp at hl;omega) h4 (fun j hj=>by
    have hle:=st.1;cases e:φ' j with
    |none=>rfl
    |some m=>grind) (XK hsh hhst hfr h2 h4.inv rfl) (gj.trans h1) (hkp.iT (List.mem_of_getElem? (bf hp)) h2 h3 hN h9) (bg hN st.1)
end
end Go.Ev
