/- What was lent is laid back, second part. Conditions: the relation of XPa. -/
import Derived.Test.YtoekkpmeeclpeaaGreatUi
open Bool renaming and_eq_true->aw,not_eq_true'->fq,or_eq_true->dE
open List renaming all_eq_true->cm,any_eq_false->pR,append_assoc->aQ,append_cancel_right->oh,append_nil->bo,filter_cons->di,flatMap_cons->eF,getElem?_eq_getElem->bf,length_cons->ck,mem_append->aF,mem_cons->aI,mem_cons_of_mem->bd,mem_cons_self->aG,mem_filter->cY,mem_filterMap->oP,mem_map->aL,mem_singleton->az,nil_append->fI,nodup_cons->eR
open List.cons renaming inj->aB
open Nat renaming add_le_add_left->nH,le_refl->aq,le_succ->aO,le_trans->bg,lt_of_lt_of_le->bY,lt_succ_self->aM,mul_le_mul_left->gH
open Option.some renaming inj->ac,injEq->fh
open Prod.mk renaming inj->ap
namespace Go.Ev
section
variable{S S' K:Nat->Prop}{w0 w w':World}{φ φ':fM}{H:Hf}{n:Nat}{h:H2}
theorem zk{n id:Nat}{h h':H2}{l:nF}(hh:xX n h h')(hi:id<n)(hs:∀o,fO h id=some o->BO l o):∀o,fO h' id=some o->BO l o:=fun o' ho=>by
 rcases hh id o' hi ho with q|⟨o,h1,h2⟩
 .cases o'<;>first|(cases q;done)|trivial
 .have:=hs o h1;cases o<;>cases o'<;>simp only[BK]at h2<;>first|exact h2.elim|skip
  all_goals simp only[BO]at this|-
  .exact ⟨this.1.trans h2.2.1,this.2.trans h2.2.2.1⟩
  .exact ⟨this.1.trans h2.2.1,this.2.trans h2.2.2.1⟩
  .exact ⟨this.1.trans h2.2.1,this.2.trans h2.2.2.1⟩
  .exact ⟨this.1.trans (by rw[h2.1]),this.2.trans h2.2⟩
def LL(w:World)(l:nF):Prop:=∀m,l.n=some m->∃bz,pi w l.bP bz/\bz.size=l.ext/\m<=l.cap/\l.gN+m*df l.t<=l.ext
def OH(w:World)(φ:fM)(n:Nat)(h:H2)(e:V×List Nat):Prop:=(∀i∈e.2,i<n)/\dZ n h e.1/\match e.1 with|.so id=>e.2=[id]/\∃l,φ id=some l/\LL w l/\kS l.t=true/\0<df l.t/\∀o,fO h id=some o->BO l o|.sr id=>e.2=[id]/\∃l t,φ id=some l/\LL w l/\l.t=.sl t/\kS t=true/\0<df t/\∀o,fO h id=some o->BO l o|.op id _ []=>∃r,e.2=id::r|.nl _=>e.2=[]|_=>True
theorem OH.mono{n n':Nat}{h h':H2}{e:V×List Nat}(hr:Ren φ φ')(hn:n<=n')(hs:xX n h h')(hq:OH w φ n h e):OH w φ' n' h' e:=by
 obtain⟨v,i⟩:=e;obtain⟨h0,h1,h2⟩:=hq;refine⟨fun i hi=>bY (h0 i hi) hn,dQ hn hs h1,?_⟩;cases v<;>first|trivial|exact h2|skip
 rotate_right
 .rename_i id t p;cases p<;>first|exact h2|trivial
 .obtain ⟨q1,l,q2,q3,q4,q5,q6⟩:=h2;exact⟨q1,l,hr _ _ q2,q3,q4,q5,zk hs h1 q6⟩
 .obtain ⟨q1,l,t,q2,q3,q4,q5,q6,q7⟩:=h2;exact⟨q1,l,t,hr _ _ q2,q3,q4,q5,q6,zk hs h1 q7⟩
theorem sj{α:Type}{a b:Sl α}{u:Unit}(h:my a b=some u):kx a=kx b:=by
 cases a<;>cases b<;>first|rfl|cases h|skip
 have:=Fd.1 h;simp[kx,this]
theorem LX{l lo:nF}{m:Nat}{x:Value}(h1:yH l 0 (some m) [x])(h2:yH lo 0 (some m) [x]):l.bP=lo.bP/\(0<m->l.gN=lo.gN)/\l.cap=lo.cap:=by obtain⟨a,c,e,p1,p2,p3,p4⟩:=h1;obtain⟨a',c',e',q1,q2,q3,q4⟩:=h2;rw[e]at e';have:=(aB e').1;simp only[Value.slice.injEq,fh,Addr.mk.injEq]at this;obtain⟨⟨b1,b2,_⟩,_,b3⟩:=this;refine⟨b1,fun hm=>?_,by omega⟩;have r1:=p3 (by omega);have r2:=q3 (by omega);simp only[Nat.zero_mul,Nat.add_zero]at r1 r2;omega
theorem U6{l lo:nF}{t:Ty}{s:Sl (El t)}{v v':Nat}{x:Value}(h:RO S w φ lo (.ar t s v))(hx:yH lo 0 lo.n [x])(ht:l.t=t)(hn:l.n=kx s)(hl:LL w l)(hx':yH l 0 l.n [x]):RO S w φ l (.ar t s v')/\ob w l (.ar t s v')=ob w lo (.ar t s v):=by
 obtain⟨h1,h2,h3,h4,h5⟩:=h;cases s with
 |nil=>exact⟨⟨ht,hn,h3,h4,fun r e=>by cases e⟩,rfl⟩
 |mk r=>obtain⟨bz,d,k1,k2,k3,k4,k5,k6⟩:=h5 r rfl;rw[hn]at hx';rw[h2]at hx;obtain⟨e1,e2,e3⟩:=LX hx' hx;obtain⟨arr2,m1,m2,m3,m4⟩:=hl _ hn;rw[ht]at m4;have m1':=m1;rw[e1]at m1;obtain rfl:=m1.xK k1;refine⟨⟨ht,hn,h3,h4,fun r' e=>?_⟩,by simp only[ob,e1]⟩;cases e;refine⟨arr2,d,m1',m2,m3,m4,k5,?_⟩;rw[e1];cases r with|nil=>obtain rfl:d=[]:=k5;trivial|cons y r=>rw[e2 (by simp)];exact k6
theorem Dy{f g:Nat->List Nat}:∀{L:List Nat},(∀i∈L,f i=g i)->L.flatMap f=L.flatMap g:=by intro L;induction L with|nil=>intro _;rfl|cons a L ih=>intro h;rw[eF,eF,h a (by simp),ih fun i hi=>h i (by simp[hi])]
theorem SP{l lo:nF}{t:Ty}{s:Sl (Sl (El t))}{x:Value}(h:RO S w φ lo (.rw t s none))(hx:yH lo 0 lo.n [x])(ht:l.t=.sl t)(hn:l.n=kx s)(hl:LL w l)(hx':yH l 0 l.n [x]):RO S w φ l (.rw t s none)/\ob w l (.rw t s none)=ob w lo (.rw t s none):=by
 obtain⟨h1,h2,h3,h4,h5⟩:=h;cases s with
 |nil=>exact⟨⟨ht,hn,h3,h4,fun r e=>by cases e⟩,rfl⟩
 |mk r=>
  obtain⟨bz,k1,k2,k3,k4,k5,k6⟩:=h5 r rfl;rw[hn]at hx';rw[h2]at hx;obtain⟨e1,e2,e3⟩:=LX hx' hx;obtain⟨arr2,m1,m2,m3,m4⟩:=hl _ hn;rw[ht]at m4;have e0:df (.sl t)=1:=rfl;rw[e0,Nat.mul_one]at m4;have m1':=m1;rw[e1]at m1;obtain rfl:=m1.xK k1;have hrow:∀i,i<r.length->qk w l none i=qk w lo none i:=fun i hi=>by simp only[qk,rN,e1,e2 (show 0<r.length by omega)]
  refine⟨⟨ht,hn,h3,h4,fun r' e=>?_⟩,?_⟩
  .cases e;refine⟨arr2,m1',m2,m3,m4,fun i j b hi hj hb=>?_,fun i y hi=>?_⟩
   .rw [hrow i hi]at hb;rw[hrow j hj,e1];exact k5 i j b hi hj hb
   .rw [e2 (by have:=(List.getElem?_eq_some_iff.1 hi).1;omega)];exact k6 i y hi
  .simp only[ob,e1,CS];congr 1;exact Dy fun i hi=>hrow i (by simpa using hi)
structure qG(s s1:S2)(u:ri):Prop where
 le:s.next<=s1.next
 eq:s1=⟨s.gX,u++s.heap,s1.next,u.map (·.1)++s.wo,s.gh⟩
 Jk:jS s.next s.heap u
 lt:∀p∈u,X1 s1.next p
 bx:∀p∈u,∀t c,p.2=some (.bx t c)->dZ s1.next (u++s.heap) c
theorem qG.heap{s s1:S2}{u:ri}(h:qG s s1 u):s1.heap=u++s.heap:=by rw[h.eq]
theorem qG.fe{s s1:S2}{u:ri}(h:qG s s1 u):xX s.next s.heap s1.heap:=by rw[h.heap];exact h.Jk.fe
theorem qG.Az{s s1:S2}{u:ri}(h:qG s s1 u)(hS:xI s.next s.heap):xI s1.next s1.heap:=by have:=hS.gM h.le h.Jk h.lt h.bx;rwa[<-h.heap]at this
theorem qG.refl(s:S2):qG s s []:=⟨aq _,rfl,jS.nil,by simp,by simp⟩
theorem qG.u9{s s1 s2:S2}{u1 u2:ri}(h1:qG s s1 u1)(h2:qG s1 s2 u2):qG s s2 (u2++u1):=by
 have l1:=h1.le;have l2:=h2.le;refine⟨by omega,?_,h1.Jk.u9 l1 (by rw[<-h1.heap];exact h2.Jk),fun p hp=>?_,fun p hp t c e=>?_⟩
 .have e1:=h1.eq;have e2:=h2.eq;rw[e2];simp only[S2.mk.injEq,aQ,List.map_append];rw[e1];simp
 .rcases aF.1 hp with hp|hp
  .exact h2.lt p hp
  .exact (h1.lt p hp).mono l2
 .rw [aQ,<-h1.heap,<-h2.heap];rcases aF.1 hp with hp|hp
  .have:=h2.bx p hp t c e;rwa[<-h2.heap]at this
  .have:=h1.bx p hp t c e;rw[<-h1.heap]at this;exact dQ l2 h2.fe this
theorem qG.xK{s s1:S2}{u u':ri}(h:qG s s1 u)(h':s1.heap=u'++s.heap):u'=u:=oh (h'.symm.trans h.heap)
theorem qG.skip{s s1:S2}(hle:s.next<=s1.next)(he:s1=⟨s.gX,s.heap,s1.next,s.wo,s.gh⟩):qG s s1 []:=⟨hle,he,jS.nil,by simp,by simp⟩
theorem qG.new(s:S2)(o:O)(ho:∀t c,o≠.bx t c)(hln:AT (s.next+1) (some o):=by trivial):qG s (oH s o) [(s.next,some o)]:=⟨aO _,rfl,jS.cons (fun _ _=>.inl (aq _)) jS.nil,fun p hp=>by obtain rfl:=az.1 hp;exact .inl ⟨aM _,hln⟩,fun p hp t c e=>by obtain rfl:=az.1 hp;exact absurd (ac e) (ho t c)⟩
theorem qG.put{s:S2}{id:Nat}{o:O}(hid:id<s.next)(fe:Sj o=true\/∃o0,fO s.heap id=some o0/\BK o0 o)(hbx:∀t c,o=.bx t c->dZ s.next ((id,some o)::s.heap) c)(hln:AT s.next (some o):=by trivial):qG s (g_ s id (some o)) [(id,some o)]:=⟨aq _,rfl,jS.cons (fun o' e=>.inr (by cases e;exact fe)) jS.nil,fun p hp=>by obtain rfl:=az.1 hp;exact .inl ⟨hid,hln⟩,fun p hp t c e=>by obtain rfl:=az.1 hp;exact hbx t c (ac e)⟩
theorem qG.BZ(s:S2)(i:List Nat):qG s (mj i s) (i.map (fun j=>(j,none))):=by
 refine⟨by rw[kg];exact aq _,by rw[kg];simp[Function.comp_def],fun p hp o' e=>?_,fun p hp=>?_,fun p hp t c e=>?_⟩
 all_goals
  obtain⟨j,_,rfl⟩:=aL.1 hp
  first|(cases e;done)|exact .inr rfl
theorem qG.box{s:S2}{id:Nat}{t:Ty}{c:V}(hid:id<s.next)(hc:dZ s.next s.heap c):qG s (g_ s id (some (.bx t c))) [(id,some (.bx t c))]:=qG.put hid (.inl rfl) fun t' c' e=>by cases e;have:jS s.next s.heap [(id,some (O.bx t c))]:=jS.cons (fun _ h=>.inr (.inl (by cases h;rfl))) jS.nil;exact dQ (aq _) this.fe hc
theorem F8:∀{sh:Sh}{b:Bool}{l bh:List V}{s s':S2}{v:V},Co sh b l s=some (v,bh,s')->∃u,qG s s' u/\dZ s'.next s'.heap v:=by
 intro sh;induction sh with
 |pb t c ih=>
  intro b l bh s s' v h;cases b<;>first|(cases h;done)|skip
  change (match Co c false l {s with next:=s.next+1}with
   |some (w,l,s')=>bif dF w false t then some (V.op s.next t [],l,g_ s' s.next (some (.bx t w)))else none
   |none=>none)=_ at h
  split at h<;>first|(cases h;done)|skip
  rename_i w1 l1 s1 h1;obtain⟨u,hT,hok⟩:=ih h1;have hle:=hT.le;simp only at hle;cases(aC h).2;have h2:qG s s1 u:=by have:=qG.u9 (qG.skip (s:=s) (s1:={s with next:=s.next+1}) (aO _) rfl) hT;rwa[bo]at this
  exact⟨_,h2.u9 (qG.box (by omega) hok),by show s.next<s1.next;omega⟩
 |st c ih=>
  intro b l bh s s' v h;cases b<;>first|(cases h;done)|skip
  change (match Co c true l s with|some (w,l,s)=>some (V.rc w,l,s)|none=>none)=_ at h;split at h<;>first|(cases h;done)|skip
  rename_i h1;cases h;obtain⟨u,hT,ho⟩:=ih h1;exact⟨u,hT,ho⟩
 |pr a c iha ihc=>
  intro b l bh s s' v h;cases b<;>first|(cases h;done)|skip
  change (match Co a false l s with
   |some (x,l,s)=>(match Co c true l s with|some (r,l,s)=>some (V.co x r,l,s)|none=>none)
   |none=>none)=_ at h
  split at h<;>first|(cases h;done)|skip
  rename_i h1;split at h<;>first|(cases h;done)|skip
  rename_i h2;cases h;obtain⟨u1,t1,o1⟩:=iha h1;obtain⟨u2,t2,o2⟩:=ihc h2;exact⟨_,t1.u9 t2,dQ t2.le t2.fe o1,o2⟩
 |nl k=>
  intro b l bh s s' v h;cases b<;>first|(cases h;done)|skip
  cases h;exact⟨_,qG.skip (aO _) rfl,trivial⟩
 |ni=>
  intro b l bh s s' v h;cases b<;>first|(cases h;done)|skip
  cases h;exact⟨_,qG.refl _,trivial⟩
 |x t=>
  intro b l bh s s' v h;cases b<;>first|(cases h;done)|skip
  rcases l with _|⟨a,l⟩
  .cases h
  cases a<;>first|(cases h;done)|skip
  cases(aC h).2;exact⟨_,qG.skip (Nat.le_add_right _ _) rfl,trivial⟩
 |os t=>
  intro b l bh s s' v h;cases b<;>first|(cases h;done)|skip
  rcases l with _|⟨a,l⟩
  .cases h
  cases a<;>first|(cases h;done)|skip
  rename_i ta _;cases ta<;>first|(cases h;done)|skip
  cases(aC h).2;exact⟨_,qG.new _ _ (by simp),aM _⟩
 |rw t=>
  intro b l bh s s' v h;cases b<;>first|(cases h;done)|skip
  rcases l with _|⟨a,l⟩
  .cases h
  cases a<;>first|(cases h;done)|skip
  rename_i ta _;cases ta<;>first|(cases h;done)|skip
  rename_i ta _;cases ta<;>first|(cases h;done)|skip
  cases(aC h).2;exact⟨_,qG.new _ _ (by simp),aM _⟩
 |mp k v=>
  intro b l bh s s' v h;cases b<;>first|(cases h;done)|skip
  rcases l with _|⟨a,l⟩
  .cases h
  cases a<;>first|(cases h;done)|skip
  rename_i ta _;cases ta<;>first|(cases h;done)|skip
  cases(aC h).2;exact⟨_,qG.new _ _ (by simp),aM _⟩
 |_=>intro b l bh s s' v h;cases b<;>cases h
theorem Qs:∀{rs:List Sh}{l bh:List V}{s s':S2}{xs:List V},Dg rs l s=some (xs,bh,s')->∃u,qG s s' u/\∀v∈xs,dZ s'.next s'.heap v:=by
 intro rs;induction rs with
 |nil=>intro l bh s s' xs h;cases h;exact⟨_,qG.refl _,by simp⟩
 |cons c r ih=>
  intro l bh s s' xs h;simp only[Dg]at h;split at h<;>first|(cases h;done)|skip
  rename_i h1;split at h<;>first|(cases h;done)|skip
  rename_i h2;cases h;obtain⟨u1,t1,o1⟩:=F8 h1;obtain⟨u2,t2,o2⟩:=ih h2;refine⟨_,t1.u9 t2,fun v hv=>?_⟩;rcases aI.1 hv with rfl|hv
  .exact dQ t2.le t2.fe o1
  .exact o2 v hv
end
section
variable{S S' K:Nat->Prop}{w0 w w':World}{φ φ':fM}{H:Hf}{n:Nat}{h:H2}{β:Type}{k:S2->Option β}{r:β}
def ku(os:List Sh)(q:List (V×List Nat))(l:List V)(s s1:S2):Prop:=s.next<=s1.next/\(xI s.next s.heap->∃u,qG s s1 u)/\
 ∀{S K:Nat->Prop}{w0 w:World}{φ:fM}{H:Hf}{lent:List Value}{fp:List Nat},GO S w os l lent fp->Ah S w φ (q.map (·.1)) lent->(∀e∈q,OH w φ s.next s.heap e)->(q.flatMap (·.2)).Nodup->Inv S K w0 φ H w->(∀i∈q.flatMap (·.2),H i=none)->
  (∀j,s.next<=j->j<s1.next->φ j=none)->wy S K w φ H fp->xI s.next s.heap->∃u φ',Bk S K w0 w φ H s s1 (q.flatMap (·.2)) fp u φ'
theorem ku.cons{c:Sh}{os:List Sh}{e:V×List Nat}{q:List (V×List Nat)}{la l:List V}{s sm s1:S2}(hrec:ku os q l sm s1)(htxt:xI s.next s.heap->∃u,qG s sm u)(hle:s.next<=sm.next)
  (hstep:∀{S K:Nat->Prop}{w0 w:World}{φ:fM}{H:Hf}{x:Value}{l1 l2:List V}{f1:List Nat},la=l1++l2->EF S w c l1 x f1->RW S w φ e.1 x->OH w φ s.next s.heap e->e.2.Nodup->Inv S K w0 φ H w->(∀i∈e.2,H i=none)->(∀j,s.next<=j->j<sm.next->φ j=none)->wy S K w φ H f1->xI s.next s.heap->
   l2=l/\∃u φ',Bk S K w0 w φ H s sm e.2 f1 u φ'/\∀p∈u,p.1∈e.2\/s.next<=p.1):ku (c::os) (e::q) la s s1:=by
 have hle2:=hrec.1;refine⟨by omega,fun hS=>?_,?_⟩
 .obtain ⟨u1,t1⟩:=htxt hS;obtain⟨u2,t2⟩:=hrec.2.1 (t1.Az hS);exact⟨_,t1.u9 t2⟩
 intro S K w0 w φ H lent fp hr hw hq hn hI hk hfr hf hS;cases lent with
 |nil=>exact hr.elim
 |cons x lent=>
  obtain⟨l1,l2,f1,f2,e1,rfl,h1,h2⟩:=hr;simp only[eF]at hn hk;obtain⟨n1,n2,n3⟩:=List.nodup_append.1 hn;obtain⟨rfl,u1,φ1,hB1,ho⟩:=hstep e1 h1 hw.1 (hq e (by simp)) n1 hI (fun i hi=>hk i (by simp[hi])) (fun j a b=>hfr j a (by omega)) hf.left hS
  have hkeep:∀i∈q.flatMap (·.2),up H u1 i=none:=fun i hi=>by
   have:gB u1 i=none:=by
    cases e2:gB u1 i with
    |none=>rfl
    |some y=>
     rcases ho _ (lg.1 y e2)with h|h
     .exact absurd rfl (n3 i h i hi)
     .obtain ⟨e',he',hi'⟩:=List.mem_flatMap.1 hi;have:=(hq e' (by simp[he'])).1 i hi';simp only at h;omega
   simp only[up,this];exact hk i (by simp[hi])
  obtain⟨u2,φ2,hB2⟩:=hrec.2.2 h2 (hw.2.GL hB1.GL) (fun e' he'=>(hq e' (by simp[he'])).mono hB1.GL hB1.le hB1.fe) n2 hB1.inv hkeep (fun j a b=>by
   have:=hB1.le;cases e2:φ1 j with
   |none=>rfl
   |some m=>have:=hB1.new j m e2 (hfr j (by omega) b);omega) (hB1.N2 hf) (let⟨_,t1⟩:=htxt hS;t1.Az hS)
  exact⟨u2++u1,φ2,hB1.u9 hB2⟩
theorem ku.of{c:Sh}{os:List Sh}{e:V×List Nat}{q:List (V×List Nat)}{la l:List V}{s sm:S2}(h:∃s1,k s1=some r/\ku os q l sm s1)(hf:∀s1,ku os q l sm s1->ku (c::os) (e::q) la s s1):∃s1,k s1=some r/\ku (c::os) (e::q) la s s1:=let⟨s1,h1,h2⟩:=h;⟨s1,h1,hf s1 h2⟩
theorem UZ{t u w1:Ty}{id ver:Nat}{old:Sl (El w1)}{v:El (.sl u)}{v1:El (.sl t)}{v2:El (.sl w1)}{un:Unit}{i:List Nat}{os:List Sh}{q:List (V×List Nat)}{l:List V}{s s1:S2}(ho:fO s.heap id=some (.ar w1 old ver))(h1:dR (.sl u) (.sl t) v=some v1)(h2:dR (.sl t) (.sl w1) v1=some v2)
  (h3:my (v2:Sl (El w1)) old=some un) (hrec:ku os q l (g_ s id (some (.ar w1 v2 (ver+1)))) s1):ku (.os t::os) ((.so id,i)::q) (.x (.sl u) v::l) s s1:=by
 obtain⟨rfl,rfl⟩:=tf h1;obtain⟨rfl,rfl⟩:=tf h2;refine hrec.cons (fun hS=>⟨_,qG.put (hS.lt _ _ ho) (.inr ⟨_,ho,aO _,rfl,(sj h3).symm,fun e=>absurd e (by omega)⟩) (by simp)⟩) (aq _) ?_;rintro S K w0 w φ H x l1 l2 f1 e1 hr hw ⟨q0,q1,q2,lo,q3,q4,q5,q6,q7⟩ hn hI hk hfr hf hS;obtain rfl:i=[id]:=q2;have hlen:=sj h3;rcases hr with⟨e,_⟩|⟨c,⟨sv,rfl,hc⟩,hx⟩
 .cases e
 obtain rfl:c=[x]:=hx;obtain⟨e2,rfl⟩:=aB e1;cases e2;refine⟨rfl,?_⟩;obtain⟨l',k1,k2⟩:=R1.fT (v:=.so id) hw;obtain rfl:=ac (q3.symm.trans k1);have hsh:=q7 _ ho;have hn2:lo.n=kx v:=hsh.2.trans hlen.symm
 have key:RO S w φ lo (.ar u v (ver+1))/\ob w lo (.ar u v (ver+1))=f1:=by
  rcases hc with⟨e,_,rfl⟩|⟨lo2,c1,c2,rfl⟩
  .have e':v=(Sl.nil:Sl (El u)):=e;subst e';exact⟨⟨hsh.1,hn2,hsh.1▸q5,hsh.1▸q6,fun r e=>by cases e⟩,rfl⟩
  .exact U6 (φ:=φ) (v':=ver+1) c1.z c2 hsh.1 hn2 q4 k2
 obtain⟨k3,rfl⟩:=key;refine⟨_,_,Bk.put hI q3 k3 hf (.inr ⟨_,ho,aO _,rfl,hlen.symm,fun e=>absurd e (by omega)⟩) (by simp),?_⟩;intro p hp;obtain rfl:=az.1 hp;exact .inl (by simp)
theorem UY{t u w1:Ty}{id:Nat}{ln:Option (Nat×Nat)}{old:Sl (Sl (El w1))}{v:El (.sl (.sl u))}{v1:El (.sl (.sl t))}{v2:El (.sl (.sl w1))}{un:Unit}{i:List Nat}{os:List Sh}{q:List (V×List Nat)}{l:List V}{s s1:S2}(ho:fO s.heap id=some (.rw w1 old ln))(h1:dR (.sl (.sl u)) (.sl (.sl t)) v=some v1)
  (h2:dR (.sl (.sl t)) (.sl (.sl w1)) v1=some v2) (h3:my (v2:Sl (Sl (El w1))) old=some un) (hrec:ku os q l (g_ s id (some (.rw w1 v2 none))) s1):ku (.rw t::os) ((.sr id,i)::q) (.x (.sl (.sl u)) v::l) s s1:=by
 obtain⟨rfl,rfl⟩:=Ac h1;obtain⟨rfl,rfl⟩:=Ac h2;refine hrec.cons (fun hS=>⟨_,qG.put (hS.lt _ _ ho) (.inr ⟨_,ho,rfl,(sj h3).symm⟩) (by simp)⟩) (aq _) ?_;rintro S K w0 w φ H x l1 l2 f1 e1 hr hw ⟨q0,q1,q2,lo,t',q3,q4,q5,q6,q7,q8⟩ hn hI hk hfr hf hS;obtain rfl:i=[id]:=q2;have hlen:=sj h3;rcases hr with⟨e,_⟩|⟨c,⟨sv,rfl,hc⟩,hx⟩
 .cases e
 obtain rfl:c=[x]:=hx;obtain⟨e2,rfl⟩:=aB e1;cases e2;refine⟨rfl,?_⟩;obtain⟨l',k1,k2⟩:=R1.fT (v:=.sr id) hw;obtain rfl:=ac (q3.symm.trans k1);have hsh:=q8 _ ho;have hn2:lo.n=kx v:=hsh.2.trans hlen.symm
 have key:RO S w φ lo (.rw u v none)/\ob w lo (.rw u v none)=f1:=by
  rcases hc with⟨e,_,rfl⟩|⟨lo2,c1,c2,rfl⟩
  .have e':v=(Sl.nil:Sl (Sl (El u))):=e;subst e';have et:t'=u:=by have:=q5.symm.trans hsh.1;cases this;rfl
   subst et;exact⟨⟨hsh.1,hn2,q6,q7,fun r e=>by cases e⟩,rfl⟩
  .exact SP (φ:=φ) c1.z c2 hsh.1 hn2 q4 k2
 obtain⟨k3,rfl⟩:=key;refine⟨_,_,Bk.put hI q3 k3 hf (.inr ⟨_,ho,rfl,hlen.symm⟩) (by simp),?_⟩;intro p hp;obtain rfl:=az.1 hp;exact .inl (by simp)
theorem DS{c:Sh}{v:V}{la:List V}{os:List Sh}{q:List (V×List Nat)}{l:List V}{s s1:S2}(hc:∀{S:Nat->Prop}{w:World}{l1 l2:List V}{x:Value}{f:List Nat},EF S w c l1 x f->la=l1++l2->l2=l/\f=[])(hrec:ku os q l s s1):ku (c::os) ((v,[])::q) la s s1:=by refine hrec.cons (fun _=>⟨_,qG.refl _⟩) (aq _) ?_;rintro S K w0 w φ H x l1 l2 f1 e1 hr hw hq hn hI hk hfr hf hS;obtain⟨rfl,rfl⟩:=hc hr e1;exact⟨rfl,[],φ,Bk.refl hI,by simp⟩
theorem U1{v:V}{i:List Nat}{os:List Sh}{q:List (V×List Nat)}{l:List V}{s s1:S2}(hrec:ku os q l (mj i s) s1):ku (.gn::os) ((v,i)::q) l s s1:=by
 refine hrec.cons (fun _=>⟨_,qG.BZ _ _⟩) (by rw[kg];exact aq _) ?_;rintro S K w0 w φ H x l1 l2 f1 e1 hr hw hq hn hI hk hfr hf hS
 have:l1=[]/\f1=[]:=by
  rcases hr with⟨_,h⟩|⟨c,h,_⟩
  .exact h
  .exact h
 obtain⟨rfl,rfl⟩:=this;exact⟨e1.symm,_,_,Bk.BZ hI hk,fun p hp=>by obtain⟨j,hj,rfl⟩:=aL.1 hp;exact .inl hj⟩
theorem U0{t u:Ty}{c:Sh}{id:Nat}{i:List Nat}{x1:V}{la l:List V}{os:List Sh}{q:List (V×List Nat)}{s s' s1:S2}{o0:O}(ho:fO s.heap id=some o0)(hm:Co c false la s=some (x1,l,s'))(hfit:dF x1 false t=true)(hu:u=t)(hrec:ku os q l (g_ (mj i s') id (some (.bx t x1))) s1):
  ku (.pb t c::os) ((.op id u [],i)::q) la s s1:=by
 have hle:=Ki hm;refine hrec.cons (fun hS=>?_) (by rw[kg];exact hle) ?_
 .obtain ⟨u1,t1,hok⟩:=F8 hm;have hidlt:=hS.lt _ _ ho;have t2:=qG.BZ s' i;exact⟨_,(t1.u9 t2).u9 (qG.box (by have:=t2.le;omega) (dQ t2.le t2.fe hok))⟩
 rintro S K w0 w φ H x l1 l2 f1 e1 hr hw ⟨q0,q1,r',hi⟩ hn hI hk hfr hf hS;subst hu;rcases hr with⟨e,_⟩|⟨cs,⟨b,bz,f,rfl,rfl,k1,k2⟩,hx⟩
 .cases e
 rw[e1]at hm;obtain⟨n1,n2⟩:=eR.1 hf.1;rw[kg]at hfr|-;obtain⟨rfl,_,u1,φ1,hL,hc,hok⟩:=Kh hm k2 hI hfr (hf.of n2 fun b hb=>by simp[hb]);refine⟨rfl,?_⟩;have hid:id∈i:=by rw[show i=id::r' from hi];simp
 have hidlt:=hS.lt _ _ ho;obtain⟨lo,j1,j2,_,j4⟩:=R1.fT (v:=.op id u []) hw;have hx':x=.pointer (some ⟨b,0,none⟩):=by have:[Value.pointer (some ⟨b,0,none⟩)]=[x]:=hx;exact(aB this).1.symm
 have e0:wm u []=0:=by cases u<;>rfl
 rw[e0,hx']at j4;have hblk:lo.bP=b:=by have:=(aB j4).1;simp only[Value.pointer.injEq,fh,Addr.mk.injEq]at this;exact this.1.symm
 have hB1:=hL.bk
 have hk2:∀j∈i,up H u1 j=none:=fun j hj=>by
  have:gB u1 j=none:=by cases e2:gB u1 j with|none=>rfl|some y=>have:=(hL.B0 _ (lg.1 y e2)).1;have:=q0 j hj;simp only at*;omega
  simp only[up,this];exact hk j hj
 have hB2:=hB1.u9 (Bk.BZ (s:=s') hL.inv hk2);have hnext:(mj i s').next=s'.next:=by rw[kg]
 have hB3:=hB2.u9 (Bk.put (s:=mj i s') (id:=id) (o:=.bx u x1) (lo:=lo) (H:=up H (i.map (fun j=>(j,none))++u1)) hB2.inv (hL.GL _ _ j1) ⟨j2,hfit,bz,by rw[hblk];exact k1,hc⟩ (by
  refine⟨by simp[ob],fun b' hb'=>?_⟩;have e3:b'=b:=by simpa[ob,hblk]using hb'
  subst e3;obtain⟨c1,c2,c3,c4⟩:=hf.2 b' (by simp);refine⟨c1,c2,c3,fun j a m p1 p2 p3=>?_⟩;rcases hB2.bP j a m b' p1 p2 p3 with p|⟨p,p'⟩
  .rw [bo]at p;exact n1 p
  .exact c4 j a m p p' p3) (.inl rfl) fun t' c' e=>by
   cases e
   have fe:xX s'.next s'.heap ((id,some (.bx u x1))::(mj i s').heap):=by
    rw[kg];have:jS s'.next s'.heap ((id,some (O.bx u x1))::i.map (fun j=>(j,none))):=jS.cons (fun _ h=>.inr (.inl (by cases h;rfl))) fun p hp o' e=>by obtain⟨j,_,rfl⟩:=aL.1 hp;cases e
    exact this.fe
   rw[hnext];exact dQ (aq _) fe hok)
 rw[fI,bo]at hB3;refine⟨[(id,some (.bx u x1))]++(i.map (fun j=>(j,none))++u1),φ1,?_,fun p hp=>?_⟩
 .have e5:mj i s'=⟨s'.gX,i.map (fun j=>(j,none))++s'.heap,s'.next,i++s'.wo,s'.gh⟩:=kg;rw[e5]at hB3;refine⟨hB3.le,hB3.eq,hB3.GL,hB3.new,hB3.Jk,hB3.bx,fun j hj=>hB3.B0 j (by simp[hj]),hB3.inv,fun j a m b' p1 p2 p3=>?_⟩;refine(hB3.bP j a m b' p1 p2 p3).imp (fun h=>?_) (fun h=>h);simp only[ob,hblk,aF,az]at h;exact aI.2 h.symm
 .simp only[aF,az,aL]at hp;rcases hp with rfl|⟨j,hj,rfl⟩|hp
  .exact .inl hid
  .exact .inl hj
  .exact .inr (hL.B0 p hp).1
theorem I6:∀{os:List Sh}{q:List (V×List Nat)}{l:List V}{s:S2},t7 os q l s k=some r->∃s1,k s1=some r/\ku os q l s s1:=by
 intro os;induction os with
 |nil=>
  intro q l s h;cases q with
  |cons e q=>cases h
  |nil=>
   cases l with
   |cons x l=>cases h
   |nil=>refine⟨s,h,aq _,fun _=>⟨_,qG.refl _⟩,?_⟩;intro S K w0 w φ H lent fp hr _ _ _ hI _ _ _ _;cases lent with|cons x lent=>exact hr.elim|nil=>obtain⟨_,rfl⟩:=hr;exact⟨[],φ,Bk.refl hI⟩
 |cons c os ih=>
  intro q l s h;cases q with
  |nil=>cases c<;>cases h
  |cons e q=>
  obtain⟨v,i⟩:=e;cases c<;>first|(cases h;done)|skip
  case nl k'=>
   cases i<;>first|(cases h;done)|skip
   refine ku.of (ih h) fun s1 hs=>DS (fun{S w l1 l2 x f}hr e=>?_) hs;rcases hr with⟨e',_⟩|⟨c,⟨rfl,_,rfl⟩,_⟩
   .cases e'
   .exact ⟨e.symm,rfl⟩
  case gn=>exact ku.of (ih h) fun s1 hs=>U1 hs
  case os t=>
   cases v<;>first|(cases h;done)|skip
   .rename_i k';cases k'<;>first|(cases h;done)|skip
    cases i<;>first|(cases h;done)|skip
    rcases l with _|⟨a,l⟩<;>first|(cases h;done)|skip
    cases a<;>first|(cases h;done)|skip
    rename_i ta v;cases ta<;>first|(cases h;done)|skip
    rename_i u;change (match dR (.sl u) (.sl t) v with|some v=>(my v (Sl.nil:Sl (El t))).bind fun _=>t7 os q l s k|none=>none)=_ at h;split at h<;>first|(cases h;done)|skip
    rename_i v1 h1;obtain⟨un,h2,h3⟩:=tn h;obtain⟨rfl,rfl⟩:=tf h1;refine ku.of (ih h3) fun s1 hs=>DS (fun{S w l1 l2 x f}hr e=>?_) hs;rcases hr with⟨e',_⟩|⟨c,⟨sv,rfl,hc⟩,_⟩
    .cases e'
    obtain⟨e2,rfl⟩:=aB e;cases e2;refine⟨rfl,?_⟩;rcases hc with⟨_,_,rfl⟩|⟨lo,_,_,rfl⟩
    .rfl
    .have:=sj h2;have e3:v=(Sl.nil:Sl (El u)):=by cases v with|nil=>rfl|mk r=>cases this
     subst e3;rfl
   .rename_i id;rcases l with _|⟨a,l⟩<;>first|(cases h;done)|skip
    cases a<;>first|(cases h;done)|skip
    rename_i ta v;cases ta<;>first|(cases h;done)|skip
    rename_i u
    change (match fO s.heap id,dR (.sl u) (.sl t) v with
     |some (.ar w old ver),some v=>(match dR (.sl t) (.sl w) v with
      |some v=>(my v old).bind fun _=>t7 os q l (g_ s id (some (.ar w v (ver+1)))) k
      |none=>none)
     |_,_=>none)=_ at h
    split at h<;>first|(cases h;done)|skip
    rename_i w1 old ver v1 ho h1;split at h<;>first|(cases h;done)|skip
    rename_i v2 h2;obtain⟨un,h3,h4⟩:=tn h;exact ku.of (ih h4) fun s1 hs=>UZ ho h1 h2 h3 hs
  case rw t=>
   cases v<;>first|(cases h;done)|skip
   .rename_i k';cases k'<;>first|(cases h;done)|skip
    cases i<;>first|(cases h;done)|skip
    rcases l with _|⟨a,l⟩<;>first|(cases h;done)|skip
    cases a<;>first|(cases h;done)|skip
    rename_i ta v;cases ta<;>first|(cases h;done)|skip
    rename_i ta;cases ta<;>first|(cases h;done)|skip
    rename_i u;change (match dR (.sl (.sl u)) (.sl (.sl t)) v with|some v=>(my (v:Sl (Sl (El t))) (Sl.nil:Sl (Sl (El t)))).bind fun _=>t7 os q l s k|none=>none)=_ at h;split at h<;>first|(cases h;done)|skip
    rename_i v1 h1;obtain⟨un,h2,h3⟩:=tn h;obtain⟨rfl,rfl⟩:=Ac h1;refine ku.of (ih h3) fun s1 hs=>DS (fun{S w l1 l2 x f}hr e=>?_) hs;rcases hr with⟨e',_⟩|⟨c,⟨sv,rfl,hc⟩,_⟩
    .cases e'
    obtain⟨e2,rfl⟩:=aB e;cases e2;refine⟨rfl,?_⟩;rcases hc with⟨_,_,rfl⟩|⟨lo,_,_,rfl⟩
    .rfl
    .have:=sj h2;have e3:v=(Sl.nil:Sl (Sl (El u))):=by cases v with|nil=>rfl|mk r=>cases this
     subst e3;rfl
   .rename_i id;rcases l with _|⟨a,l⟩<;>first|(cases h;done)|skip
    cases a<;>first|(cases h;done)|skip
    rename_i ta v;cases ta<;>first|(cases h;done)|skip
    rename_i ta;cases ta<;>first|(cases h;done)|skip
    rename_i u
    change (match fO s.heap id,dR (.sl (.sl u)) (.sl (.sl t)) v with
     |some (.rw w old _),some v=>(match dR (.sl (.sl t)) (.sl (.sl w)) v with
      |some v=>(my (v:Sl (Sl (El w))) old).bind fun _=>t7 os q l (g_ s id (some (.rw w v none))) k
      |none=>none)
     |_,_=>none)=_ at h
    split at h<;>first|(cases h;done)|skip
    rename_i w1 old ln v1 ho h1;split at h<;>first|(cases h;done)|skip
    rename_i v2 h2;obtain⟨un,h3,h4⟩:=tn h;exact ku.of (ih h4) fun s1 hs=>UY ho h1 h2 h3 hs
  case pb t c=>
   cases v<;>first|(cases h;done)|skip
   rename_i id u p;cases p<;>first|(cases h;done)|skip
   change (match fO s.heap id with
    |some _=>(match Co c false l s with
     |some (w,l,s')=>bif dF w false t&&decide (u=t)then t7 os q l (g_ (mj i s') id (some (.bx t w))) k else none
     |none=>none)
    |none=>none)=_ at h
   split at h<;>first|(cases h;done)|skip
   rename_i o0 ho;split at h<;>first|(cases h;done)|skip
   rename_i x1 l1 s' hm;obtain⟨e,h2⟩:=aC h;simp only[aw,decide_eq_true_eq]at e;exact ku.of (ih h2) fun s1 hs=>U0 ho hm e.1 e.2 hs
end
def GJ(P:Program)(f:FuncId)(args:Array Value)(w:World)(R:Value->World->Prop):Prop:=
 (∃g as,(callFunc f args).run P w=.ok (.enter g as) w/\Calls P g as w fun e w'=>∃v,e=.returned v/\R v w')\/
 (∃v,(callFunc f args).run P w=.ok (.value v) w/\R v w)
abbrev OM(al:Wy)(z:xT al):Option (List Sh×List Sh×List V):=Wh (fun a b c=>some (a,b,c)) al z
def Left(S:Nat->Prop)(w:World)(fp:List Nat)(sp:dC)(z:xT sp.al)(lent:List Value)(v:Value)(w':World):Prop:=
 ∃(S':Nat->Prop)(vu:List Value)(fp1 fp2:List Nat)(rs os:List Sh)(l:List V),OM sp.al z=some (rs,os,l)/\v=yv vu/\gC S w S' w'/\(∀b,S' b->S b\/b∈fp\/w.heap.size<=b)/\(∀b,S' b->b<w'.heap.size)/\
  GO S' w' rs (l.take (pe rs).length) vu fp1/\GO S' w' os (l.drop (pe rs).length) lent fp2/\(fp1++fp2).Nodup/\(∀b∈fp1++fp2,¬S' b/\(b∈fp\/w.heap.size<=b)/\b<w'.heap.size)/\Jf (fun b=>b<w.heap.size/\b∉fp) w w'
def NH:Ty->Bool
 |.i _|.b|.s|.f _|.un=>true
 |.pr a c=>NH a&&NH c
 |.st t|.ar _ t=>NH t
 |_=>false
def NI:Sh->Bool
 |.x t|.os t=>NH t
 |.gn=>true
 |_=>false
def ZG(sp:dC):Bool:=sp.al.all (fun w=>w.1.all NI&&w.2.all NI)
def aN(P:Program)(f:FuncId)(sp:dC):Prop:=
 (sp.ro=true->ZG sp=true)/\∀(S:Nat->Prop)(w:World)(xs:List Value)(fp:List Nat)(p:xV (pe (sp.ps.map (·.2))))(z:xT sp.al),(∀b,S b->b<w.heap.size)->KY S w sp.ps (vg _ p) xs fp->fp.Nodup->(∀b∈fp,¬S b/\b<w.heap.size)->D2 S w->sp.fn p=some z->
  GJ P f xs.toArray w (Left S w fp sp z (tU sp.ps xs))
def EJ(P:Program)(fid:FuncId)(hk:Hk):Prop:=∀{o:Oper}{c:Go.Call}{fop:Operand}{z:Bool}{caps:V}{vs:List V}{h:H2}{n:Nat}{β:Type}{kk:V->ri->Nat->List Nat->Option β}{r:β},o.op=.call c->c.callee=.value fop->xI n h->
 (∀x∈V.fn z fid caps::vs,dZ n h x/\oN h x=true)->hk.run (.fn z fid caps) vs h n kk=some r->∃v u n' l,kk v u n' l=some r/\Bj P o (fop::c.args.toList) (.fn z fid caps::vs) h n n' v u l
def ae7(P:Program)(f:FuncId):TE->Prop
 |.sp sp=>aN P f sp
 |.hk hk=>EJ P f hk
def qc(P:Program)(tb:EE):Prop:=∀e∈tb,ae7 P e.1 e.2
theorem qc.nil{P:Program}:qc P []:=fun e he=>by simp at he
theorem qc.QS{P:Program}{f:FuncId}{hk:Hk}{tb:EE}(h:EJ P f hk)(ht:qc P tb):qc P ((f,.hk hk)::tb):=fun e he=>by
 rcases aI.1 he with rfl|he
 .exact @h
 .exact ht e he
theorem qc.cons{P:Program}{f:FuncId}{sp:dC}{tb:EE}(h:aN P f sp)(ht:qc P tb):qc P ((f,.sp sp)::tb):=fun e he=>by
 rcases aI.1 he with rfl|he
 .exact h
 .exact ht e he
theorem MA{β:Type}{k:List Sh->List Sh->List V->Option β}{b:β}:∀{w:Wy}{z:xT w},Wh k w z=some b->∃r o l,OM w z=some (r,o,l)/\(r,o)∈w/\k r o l=some b:=by
 have key:∀(w:Wy)(r o:List Sh)(z:xT.Ou r o w),ON k r o w z=some b->∃r' o' l,ON (fun a b c=>some (a,b,c)) r o w z=some (r',o',l)/\(r',o')∈(r,o)::w/\k r' o' l=some b:=by
  intro w;induction w with
  |nil=>intro r o z hz;exact⟨r,o,_,rfl,by simp,hz⟩
  |cons p w ih=>intro r o z hz;cases z with|inl z=>exact⟨r,o,_,rfl,by simp,hz⟩|inr z=>obtain⟨r',o',l,h1,h2,h3⟩:=ih p.1 p.2 z hz;exact⟨r',o',l,h1,bd _ h2,h3⟩
 intro w z hz;cases w with|nil=>exact nomatch z|cons p w=>exact key w p.1 p.2 z hz
theorem DP{u:Ty}{v:V}{y:El u}(h:DQ u v=some y):v=.x u y:=by cases v with|x t v=>obtain⟨rfl,rfl⟩:=iu h;rfl|_=>cases h
theorem tJ:∀{cs:List Ty}{l:List V}{p:xV cs},wG cs l=some p->vg cs p=l:=by
 have key:∀(r:List Ty)(a:Ty)(l:List V)(p:xV.Sa a r),MG a r l=some p->Sr a r p=l:=by
  intro r;induction r with
  |nil=>
   intro a l p h
   match l with|[]=>exact nomatch h|[v]=>rw[DP h];rfl|_::_::_=>exact nomatch h
  |cons c r ih=>
   intro a l p h
   match l with
   |[]=>exact nomatch h
   |v::l=>
    have h:Wr _ _=some p:=h;cases hx:DQ a v with
    |none=>rw[hx]at h;exact nomatch h
    |some x=>cases hy:MG c r l with|none=>rw[hx,hy]at h;exact nomatch h|some y=>rw[hx,hy]at h;obtain rfl:=ac h;show V.x a x::Sr c r y=v::l;rw[DP hx,ih c l y hy]
 intro cs l p h;cases cs with
 |nil=>cases l<;>first|rfl|exact nomatch h
 |cons a r=>exact key r a l p h
section
variable{P:Program}{S S' K:Nat->Prop}{w0 w w':World}{φ φ':fM}{H:Hf}{n:Nat}{h:H2}
theorem RT.lit:∀{t:Ty},NH t=true->∀{x:El t}{c:List Value},RT S w t x c->RT S' w' t x c:=by intro t;induction t with|pr a a2 iha ihb=>intro ht x c;simp only[NH,aw]at ht;rintro⟨d,e,h1,h2,h3⟩;exact⟨d,e,h1,iha ht.1 h2,ihb ht.2 h3⟩|st t ih=>intro ht x c h;exact ih (x:=x) ht h|ar n t ih=>intro ht x c h;exact lC.imp (fun _ _ _ h=>ih ht h) h|sl t=>intro ht;cases ht|mp k v=>intro ht;cases ht|o k=>intro ht;cases ht|_=>intro _ x c h;exact h
theorem GO.NI:∀{os:List Sh}{l:List V}{xs:List Value}{fp:List Nat},os.all NI=true->GO S w os l xs fp->GO S' w os l xs fp:=by
 intro os;induction os with
 |nil=>intro l xs fp _ h;cases xs<;>exact h
 |cons c rs ih=>
  intro l xs fp ha h;simp only[List.all_cons,aw]at ha;cases xs with
  |nil=>exact h.elim
  |cons x xs=>
   obtain⟨l1,l2,f1,f2,rfl,rfl,h1,h2⟩:=h;refine⟨l1,l2,f1,f2,rfl,rfl,?_,ih ha.2 h2⟩;cases c<;>first|(cases ha.1;done)|skip
   .rcases h1 with⟨e,_⟩|⟨cs,⟨rfl,y,rfl,h4⟩,h5⟩
    .cases e
    .exact .inr ⟨cs,⟨rfl,y,rfl,h4.lit ha.1⟩,h5⟩
   .rcases h1 with⟨e,_⟩|⟨cs,⟨sv,rfl,hc⟩,h5⟩
    .cases e
    .refine .inr ⟨cs,⟨sv,rfl,hc.imp id fun⟨lo,k1,k2⟩=>⟨lo,⟨k1.1,k1.2.1,k1.2.2.1,k1.2.2.2.1,fun r e=>?_⟩,k2⟩⟩,h5⟩;obtain⟨bz,d,q1,q2,q3,q4,q5,q6⟩:=k1.2.2.2.2 r e;exact⟨bz,d,q1,q2,q3,q4,q5.imp fun _ _ _ h=>h.lit ha.1,q6⟩
   .rcases h1 with h1|⟨cs,h1,h5⟩
    .exact .inl h1
    .exact .inl ⟨rfl,h1⟩
theorem LL.of{l:nF}{o:O}{t:Ty}{s:Sl (El t)}{v:Nat}(ho:o=.ar t s v)(h:RO S w φ l o):LL w l:=by subst ho;obtain⟨h1,h2,h3,h4,h5⟩:=h;intro m hm;obtain⟨r,rfl,e⟩:=m_ (h2.symm.trans hm);obtain⟨bz,d,k1,k2,k3,k4,_⟩:=h5 r rfl;rw[e]at k3 k4;exact⟨bz,k1,k2,k3,by rw[h1];exact k4⟩
theorem LL.ofr{l:nF}{t:Ty}{s:Sl (Sl (El t))}{ln:Option (Nat×Nat)}(h:RO S w φ l (.rw t s ln)):LL w l:=by obtain⟨h1,h2,h3,h4,h5⟩:=h;intro m hm;obtain⟨r,rfl,e⟩:=m_ (h2.symm.trans hm);obtain⟨bz,k1,k2,k3,k4,_⟩:=h5 r rfl;rw[e]at k3 k4;exact⟨bz,k1,k2,k3,by rw[h1];show l.gN+m*1<=_;omega⟩
theorem LL.mono{l:nF}(hg:∀b bz,pi w b bz->∃arr',pi w' b arr'/\arr'.size=bz.size)(h:LL w l):LL w' l:=fun m hm=>by obtain⟨bz,k1,k2,k3,k4⟩:=h m hm;obtain⟨arr',q1,q2⟩:=hg _ _ k1;exact⟨arr',q1,q2.trans k2,k3,k4⟩
theorem OH.Yf{e:V×List Nat}(hg:∀b bz,pi w b bz->∃arr',pi w' b arr'/\arr'.size=bz.size)(hq:OH w φ n h e):OH w' φ n h e:=by
 obtain⟨v,i⟩:=e;obtain⟨h0,h1,h2⟩:=hq;refine⟨h0,h1,?_⟩;cases v<;>first|trivial|exact h2|skip
 rotate_right
 .rename_i id t p;cases p<;>first|exact h2|trivial
 .obtain ⟨q1,l,q2,q3,q4⟩:=h2;exact⟨q1,l,q2,q3.mono hg,q4⟩
 .obtain ⟨q1,l,t,q2,q3,q4⟩:=h2;exact⟨q1,l,t,q2,q3.mono hg,q4⟩
theorem RY:∀{sh:Sh}{b:Bool}{v:V}{l:List V}{ids:List Nat},ve h sh b v=some (l,ids)->∀i∈ids,∃o,fO h i=some o:=by
 intro sh;induction sh with
 |pb t c ih=>
  intro b v l ids ha;cases b<;>cases v<;>first|(cases ha;done)|skip
  rename_i id u p;cases p<;>first|(cases ha;done)|skip
  change (match fO h id with|some (.bx w v)=>bif decide (w=u)&&decide (u=t)then(match ve h c false v with|some (l,i)=>some (l,id::i)|none=>none)else none|_=>none)=_ at ha;split at ha<;>first|(cases ha;done)|skip
  rename_i w1 v1 ho;obtain⟨e,h2⟩:=aC ha;split at h2<;>first|(cases h2;done)|skip
  rename_i l' i' hi;obtain⟨rfl,rfl⟩:=ap (ac h2);intro j hj;rcases aI.1 hj with rfl|hj
  .exact ⟨_,ho⟩
  .exact ih hi j hj
 |st c ih=>
  intro b v l ids ha;cases b<;>cases v<;>first|(cases ha;done)|exact ih ha|skip
  rename_i u v;cases u<;>first|(cases ha;done)|skip
  rename_i u;exact ih (v:=O1 u v) ha
 |pr a c iha ihc=>
  intro b v l ids ha;cases b<;>cases v<;>first|(cases ha;done)|skip
  rename_i x r;change (match Mr h a x,ve h c true r with|some (l,i),some (m,j)=>some (l++m,i++j)|_,_=>none)=_ at ha;split at ha<;>first|(cases ha;done)|skip
  rename_i l1 i1 l2 i2 h1 h2;obtain⟨rfl,rfl⟩:=ap (ac ha);intro j hj;rcases aF.1 hj with hj|hj
  .unfold Mr at h1;split at h1
   .unfold TF at h1;split at h1<;>cases h1;cases hj
   .unfold SO at h1;split at h1<;>first|(cases h1;done)|skip
    rename_i ho;have:=(aC h1).2;split at this<;>cases this;obtain rfl:=az.1 hj;exact⟨_,ho⟩
   .exact iha h1 j hj
  .exact ihc h2 j hj
 |os t=>
  intro b v l ids ha;cases b<;>cases v<;>first|(cases ha;done)|skip
  .rename_i k;cases k<;>cases ha;simp
  .rename_i id;change (match fO h id with|some (.ar u s _)=>(match dR (.sl u) (.sl t) s with|some s=>some ([V.x (.sl t) s],[id])|none=>none)|_=>none)=_ at ha;split at ha<;>first|(cases ha;done)|skip
   rename_i ho;split at ha<;>cases ha;intro j hj;obtain rfl:=az.1 hj;exact⟨_,ho⟩
 |rw t=>
  intro b v l ids ha;cases b<;>cases v<;>first|(cases ha;done)|skip
  .rename_i k;cases k<;>cases ha;simp
  .rename_i id;change (match fO h id with|some (.rw u s none)=>(match dR (.sl (.sl u)) (.sl (.sl t)) s with|some s=>some ([V.x (.sl (.sl t)) s],[id])|none=>none)|_=>none)=_ at ha;split at ha<;>first|(cases ha;done)|skip
   rename_i ho;split at ha<;>cases ha;intro j hj;obtain rfl:=az.1 hj;exact⟨_,ho⟩
 |mp kT vT=>
  intro b v l ids ha;cases b<;>cases v<;>first|(cases ha;done)|skip
  rename_i id;change (match fO h id with|some (.mp k' v' m)=>(match dR (.mp k' v') (.mp kT vT) m with|some m=>some ([V.x (.mp kT vT) m],[id])|none=>none)|_=>none)=_ at ha;split at ha<;>first|(cases ha;done)|skip
  rename_i ho;split at ha<;>cases ha;intro j hj;obtain rfl:=az.1 hj;exact⟨_,ho⟩
 |x t=>
  intro b v l ids ha;cases b<;>first|(cases ha;done)|skip
  change (match tF t v with|some y=>some ([V.x t y],[])|none=>none)=_ at ha;split at ha<;>cases ha;simp
 |nl k=>
  intro b v l ids ha;cases b<;>cases v<;>first|(cases ha;done)|skip
  cases(aC ha).2;simp
 |ni=>
  intro b v l ids ha;cases b<;>cases v<;>first|(cases ha;done)|skip
  cases ha;simp
 |_=>intro b v l ids ha;cases b<;>cases v<;>cases ha
theorem XT(hI:Inv S K w0 φ H w)(hS:xI n h){sh:Sh}{v:V}{l:List V}{ids:List Nat}{x:Value}(ha:ve h sh false v=some (l,ids))(hH:∀i∈ids,H i=fO h i)(hok:dZ n h v)(hr:RW S w φ v x):OH w φ n h (v,ids):=by
 refine⟨fun i hi=>by obtain⟨o,ho⟩:=RY ha i hi;exact hS.lt _ _ ho,hok,?_⟩
 have noX:∀{t:Ty}{Q:Prop},(match tF t v with|some y=>some ([V.x t y],([]:List Nat))|none=>none)=some (l,ids)->(∀y:El t,tF t v=some y->ids=[]->Q)->Q:=by
  intro t Q ha hq;split at ha<;>first|(cases ha;done)|skip
  rename_i y hy;cases ha;exact hq y hy rfl
 cases v<;>first|trivial|skip
 .rename_i k;cases sh<;>first|(cases ha;done)|skip
  .exact noX ha fun _ _ e=>e
  .cases k<;>cases ha;rfl
  .cases k<;>cases ha;rfl
  .cases (aC ha).2;rfl
 .rename_i id;cases sh<;>first|(cases ha;done)|skip
  .rename_i t;change (match fO h id with|some (.ar u s _)=>(match dR (.sl u) (.sl t) s with|some s=>some ([V.x (.sl t) s],[id])|none=>none)|_=>none)=_ at ha;split at ha<;>first|(cases ha;done)|skip
   rename_i u s ver ho;split at ha<;>cases ha;obtain⟨l1,k1,k2⟩:=R1.fT (v:=.so id) hr;obtain⟨l2,o1,o2,_⟩:=hI.lS id _ ((hH id (by simp)).trans ho);obtain rfl:=ac (k1.symm.trans o1);exact⟨rfl,l1,k1,LL.of rfl o2,by rw[o2.1];exact o2.2.2.1,by rw[o2.1];exact o2.2.2.2.1,fun o e=>by rw[ho]at e;cases e;exact o2.BO⟩
 .rename_i id;cases sh<;>first|(cases ha;done)|skip
  .rename_i t;change (match fO h id with|some (.rw u s none)=>(match dR (.sl (.sl u)) (.sl (.sl t)) s with|some s=>some ([V.x (.sl (.sl t)) s],[id])|none=>none)|_=>none)=_ at ha;split at ha<;>first|(cases ha;done)|skip
   rename_i u s ho;split at ha<;>cases ha;obtain⟨l1,k1,k2⟩:=R1.fT (v:=.sr id) hr;obtain⟨l2,o1,o2,_⟩:=hI.lS id _ ((hH id (by simp)).trans ho);obtain rfl:=ac (k1.symm.trans o1);exact⟨rfl,l1,u,k1,LL.ofr o2,o2.1,o2.2.2.1,o2.2.2.2.1,fun o e=>by rw[ho]at e;cases e;exact o2.BO⟩
 .rename_i id u p;cases p<;>first|trivial|skip
  cases sh<;>first|(cases ha;done)|skip
  .rename_i t c;change (match fO h id with|some (.bx w v)=>bif decide (w=u)&&decide (u=t)then(match ve h c false v with|some (l,i)=>some (l,id::i)|none=>none)else none|_=>none)=_ at ha;split at ha<;>first|(cases ha;done)|skip
   have:=(aC ha).2;split at this<;>cases this;exact⟨_,rfl⟩
theorem RZ(hI:Inv S K w0 φ H w)(hS:xI n h):∀{ps:List (Bool×Sh)}{vs:List V}{l:List V}{j:List Nat}{q:List (V×List Nat)}{xs:List Value},xl h ps vs=some (l,j,q)->Ah S w φ vs xs->(∀v∈vs,dZ n h v)->(∀i∈q.flatMap (·.2),H i=fO h i)->∀e∈q,OH w φ n h e:=by
 intro ps;induction ps with
 |nil=>intro vs l j q xs ha _ _ _;cases vs<;>cases ha;simp
 |cons p ps ih=>
  obtain⟨b,sh⟩:=p;intro vs l j q xs ha hr hv hH;cases vs with
  |nil=>cases ha
  |cons v vs=>
  cases xs with
  |nil=>exact hr.elim
  |cons x xs=>
   simp only[xl]at ha;split at ha<;>first|(cases ha;done)|skip
   rename_i m j' q' hrec;cases b with
   |true=>
    simp only[cond_true]at ha;split at ha<;>first|(cases ha;done)|skip
    rename_i l1 i1 h1;cases ha;simp only[eF]at hH;intro e he;rcases aI.1 he with rfl|he
    .exact XT hI hS h1 (fun i hi=>hH i (by simp[hi])) (hv v (by simp)) hr.1
    .exact ih hrec hr.2 (fun v hm=>hv v (by simp[hm])) (fun i hi=>hH i (by simp[hi])) e he
   |false=>
    simp only[cond_false]at ha;split at ha<;>first|(cases ha;done)|skip
    cases ha;exact ih hrec hr.2 (fun v hm=>hv v (by simp[hm])) hH
end
section
variable{P:Program}{S S' K:Nat->Prop}{w0 w w':World}{φ φ':fM}{H:Hf}{n:Nat}{h:H2}{sp:dC}{tb:EE}{s:S2}{β:Type}{k:V->S2->List Nat->Option β}{r:β}{o:Oper}
theorem KS:∀{v:V}{cs:List V},wF v=some cs->oN h v=true->∀x∈cs,oN h x=true:=by
 intro v;induction v with
 |ni=>intro cs hu _;cases hu;simp
 |co a r _ ihr=>
  intro cs hu ha;simp only[wF]at hu;have hu:=(aC hu).2;split at hu<;>cases hu;rename_i l hl;simp only[oN,aw]at ha;intro x hx;rcases aI.1 hx with rfl|hx
  .exact ha.1
  .exact ihr hl ha.2 x hx
 |_=>intro cs hu;cases hu
theorem Nt:∀{v:V}{cs:List V},wF v=some cs->dZ n h v->∀x∈cs,dZ n h x:=by
 intro v;induction v with
 |ni=>intro cs hu _;cases hu;simp
 |co a r _ ihr=>
  intro cs hu ha;simp only[wF]at hu;have hu:=(aC hu).2;split at hu<;>cases hu;rename_i l hl;intro x hx;rcases aI.1 hx with rfl|hx
  .exact ha.1
  .exact ihr hl ha.2 x hx
 |_=>intro cs hu;cases hu
theorem Pv:∀{v:V}{cs:List V}{d:List Value},wF v=some cs->RC S w φ v d->Ah S w φ cs d:=by intro v;induction v with|ni=>intro cs d hu hr;cases hu;obtain rfl:d=[]:=hr;trivial|co a r _ ihr=>rintro cs d hu ⟨d1,d2,rfl,h1,h2⟩;simp only[wF]at hu;obtain⟨e,hu⟩:=aC hu;simp only[aw,beq_iff_eq,fq]at e;split at hu<;>cases hu;rename_i l hl;have:=h1.len;rw[e.1]at this;obtain⟨y,rfl⟩:=List.length_eq_one_iff.1 this;exact⟨(R1.wC h1 e.2).rw,ihr hl h2⟩|_=>intro cs d hu;cases hu
theorem Ah.append:∀{vs cs:List V}{xs ds:List Value},Ah S w φ vs xs->Ah S w φ cs ds->Ah S w φ (vs++cs) (xs++ds):=by
 intro vs;induction vs with
 |nil=>intro cs xs ds h1 h2;cases xs with|nil=>exact h2|cons x xs=>exact h1.elim
 |cons v vs ih=>intro cs xs ds h1 h2;cases xs with|nil=>exact h1.elim|cons x xs=>exact⟨h1.1,ih h1.2 h2⟩
theorem Ar.rwl{ρ:Operand->Value}:∀{as:List Operand}{vs:List V},Ar S w φ ρ as vs->Ah S w φ vs (as.map ρ):=by
 intro as;induction as with
 |nil=>intro vs h;cases vs<;>first|trivial|exact h.elim
 |cons a as ih=>intro vs h;cases vs with|nil=>exact h.elim|cons v vs=>exact⟨h.1,ih h.2⟩
theorem E6:∀{l:List Nat},Da l=true->l.Nodup:=by intro l;induction l with|nil=>intro _;exact List.nodup_nil|cons a l ih=>intro h;simp only[Da,aw,fq,List.contains_eq_mem,decide_eq_false_iff_not]at h;exact eR.2 ⟨h.1,ih h.2⟩
theorem Q7:∀{tb:EE}{f:Nat}{vs:List V}{l:List V}{i:List Nat}{q:List (V×List Nat)},yd h f vs tb=some (sp,l,i,q)->(f,.sp sp)∈tb/\xl h sp.ps vs=some (l,i,q):=by
 intro tb;induction tb with
 |nil=>intro f vs l i q hf;cases hf
 |cons e tb ih=>
  obtain⟨g,e'⟩:=e;intro f vs l i q hf;have hrec:yd h f vs tb=some (sp,l,i,q)->(f,.sp sp)∈(g,e')::tb/\xl h sp.ps vs=some (l,i,q):=fun h=>⟨bd _ (ih h).1,(ih h).2⟩;cases e' with
  |hk k=>exact hrec hf
  |sp sp'=>
   simp only[yd]at hf;cases e:(g==f)<;>rw[e]at hf
   .exact hrec hf
   .simp only[cond_true]at hf;split at hf
    .rename_i ha;cases hf;rw[eq_of_beq e];exact⟨aG,ha⟩
    .exact hrec hf
theorem N4:∀{tb:EE}{f:Nat}{k:Hk},IF f tb=some k->(f,.hk k)∈tb:=by
 intro tb;induction tb with
 |nil=>intro f k hf;cases hf
 |cons e tb ih=>
  obtain⟨g,e'⟩:=e;intro f k hf;cases e' with
  |sp sp=>exact bd _ (ih hf)
  |hk k'=>
   simp only[IF]at hf;cases e:(g==f)<;>rw[e]at hf
   .exact bd _ (ih hf)
   .cases hf;rw[eq_of_beq e];exact aG
theorem Bg{SA SB:Nat->Prop}{q:List (V×List Nat)}{fp fp1 fp2:List Nat}{rs os:List Sh}{l1 l2:List V}{uf:ri}{s0 s1 s2:S2}{xs:List V}{bh:List V}{vu lent:List Value}(hA:Inv SA K w0 φ (up H uf) w)(hfps:wz w φ H (q.flatMap (·.2)) fp)
  (hufq:∀i∈q.flatMap (·.2),gB uf i=none) (fe:gC SA w SB w') (hSB:∀b,SB b->SA b\/b∈fp\/w.heap.size<=b) (hSlt:∀b,SB b->b<w'.heap.size) (hrr:GO SB w' rs l1 vu fp1) (hrt:GO SB w' os l2 lent fp2) (hnd:(fp1++fp2).Nodup)
  (hfp:∀b∈fp1++fp2,¬SB b/\(b∈fp\/w.heap.size<=b)/\b<w'.heap.size) (hfrm:Jf (fun b=>b<w.heap.size/\b∉fp) w w') (hqn:(q.flatMap (·.2)).Nodup) (hlent:Ah S w φ (q.map (·.1)) lent) (hstS:gC S w SB w') (hq:∀e∈q,OH w φ s.next s.heap e)
  (hS:xI s.next s.heap) (hT0:qG s s0 uf) (hn0:s0.next=s.next) (hb:ku os q l2 s0 s1) (hm:Dg rs (l1++[]) s1=some (xs,bh,s2)) (hfr:∀j,s.next<=j->j<s2.next->φ j=none):
  ∃ub um,s1.heap=ub++s0.heap/\s2.heap=um++s1.heap/\gO S K w0 w φ H s.next s2.next (PE xs) (um++(ub++uf)) (yv vu) w':=by
 have hobj:∀b∈fp,∃i∈q.flatMap (·.2),∃o lo,up H uf i=some o/\φ i=some lo/\b∈ob w lo o:=by intro b hb;obtain⟨i,hi,o,lo,ho,hlo,hb2⟩:=hfps.2 b hb;exact⟨i,hi,o,lo,by simp only[up,hufq i hi];exact ho,hlo,hb2⟩
 have hfpK:∀b∈fp,¬SA b/\¬K b/\b<w.heap.size:=by intro b hb;obtain⟨i,hi,o,lo,ho,hlo,hb2⟩:=hobj b hb;obtain⟨l2,a1,_,a4⟩:=hA.lS i o ho;obtain rfl:=ac (hlo.symm.trans a1);exact a4 b hb2
 have hKlt:∀b,K b->b<w.heap.size/\b∉fp:=fun b hk=>⟨by have:=hA.sq.OD b hk;have:=hA.sq.grow;omega,fun hb=>(hfpK b hb).2.1 hk⟩
 have hsk:∀b,SB b->¬K b:=by
  intro b hb hk;rcases hSB b hb with h|h|h
  .exact hA.sk b h hk
  .exact (hfpK b h).2.1 hk
  .have:=(hKlt b hk).1;omega
 have hFrm:Jf K w0 w':=by refine⟨hA.sq.OD,fun b hk=>(hfrm.uu b (hKlt b hk)).trans (hA.sq.uu b hk),bg hA.sq.grow hfrm.grow,fun a hlt=>(hfrm.Sk a (bY hlt hA.sq.grow)).trans (hA.sq.Sk a hlt),fun b bz h=>?_,hA.sq.io.trans hfrm.io⟩;obtain⟨arr',k1,k2⟩:=hA.sq.HI b bz h;obtain⟨arr2,k3,k4⟩:=hfrm.HI b arr' k1;exact⟨arr2,k3,k4.trans k2⟩
 obtain⟨H2,hH2⟩:∃H2:Hf,H2=fun i=>if i∈q.flatMap (·.2)then none else up H uf i:=⟨_,rfl⟩
 have hH2get:∀{i o},H2 i=some o->i∉q.flatMap (·.2)/\up H uf i=some o:=by
  intro i o h;rw[hH2]at h;by_cases e:i∈q.flatMap (·.2)
  .simp [e]at h
  .exact ⟨e,by simpa[e]using h⟩
 have hsame:∀i o lo,H2 i=some o->φ i=some lo->∀b∈ob w lo o,w'.heap[b]?=w.heap[b]?/\¬SB b/\b<w.heap.size/\b∉fp:=by
  intro i o lo hi hlo b hb;obtain⟨hiq,hi⟩:=hH2get hi;obtain⟨l2,a1,_,a4⟩:=hA.lS i o hi;obtain rfl:=ac (hlo.symm.trans a1);obtain⟨c1,c2,c3⟩:=a4 b hb;have hbfp:b∉fp:=by intro hbf;obtain⟨j,hj,o2,lo2,ho2,hlo2,hb2⟩:=hobj b hbf;exact hA.iY i j o o2 lo lo2 hi ho2 hlo hlo2 (fun e=>hiq (e▸hj)) b hb hb2
  refine⟨hfrm.uu b ⟨c3,hbfp⟩,fun h1=>?_,c3,hbfp⟩;rcases hSB b h1 with h|h|h
  .exact c1 h
  .exact hbfp h
  .omega
 have hK2:Inv SA K w0 φ H2 w:=hA.BZ fun i o h=>(hH2get h).2;have hI2:Inv SB K w0 φ H2 w':=hK2.gM (fun _=>False) fe (Ren.refl _) hSlt hsk hFrm (fun _ _ _ h=>h) (fun i o lo _ ho hlo b hb=>⟨(hsame i o lo ho hlo b hb).1,(hsame i o lo ho hlo b hb).2.1⟩) fun _ _ h=>h.elim
 have hfree:wy SB K w' φ H2 (fp2++fp1):=by
  refine⟨(List.perm_append_comm.nodup_iff).1 hnd,fun b hb=>?_⟩;obtain⟨c1,c2,c3⟩:=hfp b (by rcases aF.1 hb with h|h<;>simp[h]);refine⟨c1,fun hk=>?_,c3,fun j a m hj hm hbm=>?_⟩
  .rcases c2 with h|h
   .exact (hfpK b h).2.1 hk
   .have:=(hKlt b hk).1;omega
  .have e:ob w' m a=ob w m a:=LB fun h=>(hsame j a m hj hm _ h).1;rw[e]at hbm;obtain⟨_,_,d3,d4⟩:=hsame j a m hj hm b hbm;rcases c2 with h|h
   .exact d4 h
   .omega
 have hle0:=hT0.le;have hle1:=hb.1;have hle2:=LH hm;have hq0:∀e∈q,OH w' φ s0.next s0.heap e:=fun e he=>((hq e he).mono (Ren.refl _) hle0 hT0.fe).Yf hfrm.HI
 have hlent2:Ah SB w' φ (q.map (·.1)) lent:=by
  have:∀{vs:List V}{xs:List Value},Ah S w φ vs xs->Ah SB w' φ vs xs:=by
   intro vs;induction vs with
   |nil=>intro xs h;cases xs<;>exact h
   |cons v vs ih=>intro xs h;cases xs with|nil=>exact h.elim|cons x xs=>exact⟨h.1.mono hstS (Ren.refl _),ih h.2⟩
  exact this hlent
 obtain⟨ub,φ1,hB⟩:=hb.2.2 hrt hlent2 hq0 hqn hI2 (fun i hi=>by rw[hH2];simp[hi]) (fun j a b=>hfr j (by omega) (by omega)) hfree.left (hT0.Az hS)
 obtain⟨um,φ2,hL,hxs,hokx⟩:=TL hm hrr hB.inv (fun j a b=>by
  cases e:φ1 j with
  |none=>rfl
  |some m=>have:=hB.new j m e (hfr j (by omega) b);omega) (hB.N2 hfree)
 refine⟨ub,um,hB.heap,hL.heap,by omega,SB,φ2,hstS,hB.GL.trans hL.GL,fun i lo a b=>?_,WL hxs,?_⟩
 .cases e:φ1 i with|none=>have:=hL.new i lo a e;omega|some m=>have:=hB.new i m e b;omega
 .have e1:up (up H2 ub) um=up H (um++(ub++uf)):=by
   rw[jA,jA];congr 1;funext j;by_cases e:j∈q.flatMap (·.2)
   .obtain ⟨x,hx⟩:=hB.B0 j e;simp only[up,hx]
   .show (match gB ub j with|some o=>o|none=>H2 j)=(match gB ub j with|some o=>o|none=>up H uf j)
    rw[hH2];simp[e]
  rw[<-e1];exact hL.inv
end
def PRG(P:Program)(o:Oper)(args:List Operand)(vs:List V)(s:S2){β:Type}(k:V->S2->List Nat->Option β)(r:β):Prop:=∃v u n' l,k v (Bm s u n') l=some r/\Bj P o args vs s.heap s.next n' v u l
section
variable{P:Program}{S S' K:Nat->Prop}{w0 w w':World}{φ φ':fM}{H:Hf}{n:Nat}{h:H2}{sp:dC}{tb:EE}{s:S2}{β:Type}{k:V->S2->List Nat->Option β}{r:β}{o:Oper}
theorem Tk{xs:List V}(h1:∀v∈xs,dZ n h v):dZ n h (PE xs):=by
 match xs,h1 with|[x],h1=>exact h1 x (by simp)|[],_=>trivial|x::y::r,h1=>exact F3 h1
theorem Kt{h:H2}{l:List Nat}{s':S2}(he:h=s.heap)(hS:xI s.next s.heap)(hf:uv h l s=some s'):∃u,qG s s' u/\s'.next=s.next/\u.map (·.1)=l/\∀p∈u,yI s.heap p.1=some p.2:=by subst he;obtain⟨u,rfl,h1,h2⟩:=yJ hf;obtain⟨g1,g2⟩:=Dv hS h2;exact⟨u,⟨aq _,rfl,g1,fun p hp=>.inl ⟨(g2 p hp).1,Ks (h2 p hp)⟩,fun p hp t c e=>absurd e ((g2 p hp).2 t c)⟩,rfl,h1,h2⟩
theorem Lw{c:Go.Call}{fop:Operand}{ro:Bool}{xM:List Bool}{f:V}{vs:List V}(ho:o.op=.call c)(hcal:c.callee=.value fop)(hT:qc P tb)(hS:xI s.next s.heap)(hok:∀v∈f::vs,dZ s.next s.heap v)(hal:∀v∈f::vs,oN s.heap v=true)
  (h:zY tb ro xM f vs s k=some r):PRG P o (fop::c.args.toList) (f::vs) s k r:=by
 unfold zY at h;split at h<;>first|(cases h;done)|skip
 rename_i zz fid caps;split at h
 .rename_i hk hf;exact(hT _ (N4 hf)) ho hcal hS (fun x hx=>⟨hok x hx,hal x hx⟩) h
 split at h<;>first|(cases h;done)|skip
 rename_i sp pay ids q hfind;obtain⟨e,h2⟩:=aC h;clear h;simp only[aw,dE,fq]at e;obtain⟨⟨⟨e1,_⟩,e3⟩,e4⟩:=e;split at h2<;>first|(cases h2;done)|skip
 rename_i p hp;obtain⟨z,hz,h3⟩:=tn h2;obtain⟨rs,os,l,hw,hmem,h4⟩:=MA h3;split at h4<;>first|(cases h4;done)|skip
 rename_i s0 hs0;obtain⟨s1,h5,hb⟩:=I6 h4;split at h5<;>first|(cases h5;done)|skip
 rename_i xs bh s2 hm;split at hfind<;>first|(cases hfind;done)|skip
 rename_i cs hcs;obtain⟨hin,hargs⟩:=Q7 hfind;have hsp:=hT _ hin;have hqn:=E6 e3;have hqi:∀i∈q.flatMap (·.2),i∉ids:=fun i hi hm=>by have:=cm.1 e4 i hi;simp[hm]at this
 have hokf:=hok (.fn zz fid caps) (by simp);have T_:=hal (.fn zz fid caps) (by simp);have halc:oN s.heap caps=true:=by cases zz;exact T_;exact DU T_
 have hvs:∀v∈vs++cs,oN s.heap v=true/\dZ s.next s.heap v:=fun v hv=>by
  rcases aF.1 hv with hv|hv
  .exact ⟨hal v (by simp[hv]),hok v (by simp[hv])⟩
  .exact ⟨KS hcs halc v hv,Nt hcs hokf v hv⟩
 have htx:∃uf,qG s s0 uf/\s0.next=s.next/\(ro=true->uf=[])/\(ro=false->uf.map (·.1)=ids/\∀p∈uf,yI s.heap p.1=some p.2):=by cases ro with|true=>cases hs0;exact⟨[],qG.refl _,rfl,fun _=>rfl,by simp⟩|false=>obtain⟨u,a1,a2,a3,a4⟩:=Kt rfl hS hs0;exact⟨u,a1,a2,(by simp),fun _=>⟨a3,a4⟩⟩
 obtain⟨uf,hT0,hn0,hu1,hu2⟩:=htx;obtain⟨ub,hT1⟩:=hb.2.1 (hT0.Az hS);obtain⟨um,hT2,hokx⟩:=Qs hm;have hTT:=(hT0.u9 hT1).u9 hT2;refine⟨PE xs,um++(ub++uf),s2.next,ids++q.flatMap (·.2),?_,hTT.le,hTT.Jk,?_,hTT.bx,hTT.lt,?_⟩
 .rw [<-h5];congr 1;exact hTT.eq.symm
 .rw [<-hTT.heap];exact Tk hokx
 .intro a S K w0 w φ H hI hsh har hag hfr next Q hn
  obtain⟨c1,k1,k2⟩:=har.1;obtain⟨d,rfl,k3⟩:=k1;have hfe:a.eval fop=.func (.func fid) #[] d.toArray:=by have:[Value.func (.func fid) #[] d.toArray]=[a.eval fop]:=k2;exact(aB this).1.symm
  have hrw:=Ah.append har.2.rwl (Pv hcs k3);let vu:List Value:=c.args.toList.map a.eval++d;obtain⟨fp,f1,f2,f3⟩:=Om hI hS.bx (SF.Jl (H:=H) (φ:=φ) ids) hargs hrw hvs hag (fun b hb=>hb) hqn;have hq:=RZ hI hS hargs hrw (fun v hv=>(hvs v hv).2) (fun i hi=>hag i (by simp[hi]))
  have hSFlt:∀b,SF S w φ H ids b->b<w.heap.size:=by
   rintro b (hb|⟨i,hi,o,lo,ho,hlo,hb⟩)
   .exact hI.Cg b hb
   .obtain ⟨l2,a1,_,a4⟩:=hI.lS i o ho;obtain rfl:=ac (hlo.symm.trans a1);exact(a4 b hb).2.2
  have hfpS:∀b∈fp,¬SF S w φ H ids b/\b<w.heap.size:=by
   intro b hb;obtain⟨i,hi,o,lo,ho,hlo,hb2⟩:=f2.2 b hb;obtain⟨l2,a1,_,a4⟩:=hI.lS i o ho;obtain rfl:=ac (hlo.symm.trans a1);refine⟨?_,(a4 b hb2).2.2⟩;rintro(hb3|⟨j,hj,o2,lo2,ho2,hlo2,hb3⟩)
   .exact (a4 b hb2).1 hb3
   .exact hI.iY i j o o2 lo lo2 ho ho2 hlo hlo2 (fun e=>hqi i hi (e▸hj)) b hb2 hb3
  have hent:=hsp.2 (SF S w φ H ids) w vu fp p z hSFlt (by rw[tJ hp];exact f1) f2.1 hfpS (hI.Kr.mono (SF.Jl ids)) hz
  have hfin:∀val w',Left (SF S w φ H ids) w fp sp z (tU sp.ps vu) val w'->next (a.put o.dst val) w':=by
   rintro val w' ⟨S1,rv,fp1,fp2,rs',os',l',hw',rfl,fe,hS1,hS1lt,hrr,hrt,hnd,hfp,hfrm⟩;rw[hw]at hw';cases hw';refine hn _ w' ?_;have hm':Dg rs (l.take (pe rs).length++[]) s1=some (xs,bh,s2):=by rw[bo];exact hm
   cases hro:ro with
   |false=>
    obtain⟨u1,u2⟩:=hu2 hro;have hA:=hI.Ku u1 u2 fun i hi=>hag i (by simp[hi])
    obtain⟨ub',um',g1,g2,g3⟩:=Bg hA f2 (fun i hi=>by
     cases e:gB uf i with
     |none=>rfl
     |some y=>exact absurd (u1▸aL.2 ⟨_,lg.1 y e,rfl⟩) (hqi i hi)) fe hS1 hS1lt hrr hrt hnd hfp hfrm hqn f3 ((SF.Jl ids).trans fe) hq hS hT0 hn0 hb hm' hfr
    obtain rfl:=hT1.xK g1;obtain rfl:=hT2.xK g2;exact g3
   |true=>
    obtain rfl:=hu1 hro;have hrok:=hsp.1 (e1.resolve_left (by simp[hro]));have:=cm.1 hrok _ hmem;simp only[aw]at this;have hrr2:=hrr.NI (S':=S) this.1;have hrt2:=hrt.NI (S':=S) this.2;have hfpS2:∀b∈fp,¬S b:=fun b hb h=>(hfpS b hb).1 (.inl h)
    obtain⟨ub',um',g1,g2,g3⟩:=Bg (SA:=S) (SB:=S) (uf:=[]) (by rw[Au];exact hI) f2 (fun _ _=>rfl) ⟨fun _ h=>h,fun b hb=>fe.ju b (.inl hb)⟩ (fun b hb=>.inl hb) (fun b hb=>bY (hI.Cg b hb) hfrm.grow) hrr2 hrt2 hnd (fun b hb=>by
     obtain⟨q1,q2,q3⟩:=hfp b hb;refine⟨fun hS3=>?_,q2,q3⟩;rcases q2 with q|q
     .exact hfpS2 b q hS3
     .have:=hI.Cg b hS3;omega) hfrm hqn f3 ⟨fun _ h=>h,fun b hb=>fe.ju b (.inl hb)⟩ hq hS hT0 hn0 hb hm' hfr
    obtain rfl:=hT1.xK g1;obtain rfl:=hT2.xK g2;exact g3
  have hrun:∀r,(callFunc fid vu.toArray).run P w=r->(execOp a.eval o).run P w=r:=by
   intro r hr;have e1:(#[]++c.args.map a.eval)++d.toArray=vu.toArray:=by apply Array.ext';simp[vu]
   simp only[execOp,ho,Sem.run_bind,resolve,hcal,hfe,Deferred.ofValue,Sem.run_pure,Result.andThen_ok,invoke,e1];exact hr
  rcases hent with⟨g,as',hr,hc⟩|⟨val,hr,hleft⟩
  .unfold Oper.wp;rw[hrun _ hr,Oper.upon_enter];refine hc.mono fun en w' hR=>?_;obtain⟨val,rfl,hleft⟩:=hR;exact hfin val w' hleft
  .unfold Oper.wp;rw[hrun _ hr];exact hfin val w hleft
end
section
variable{P:Program}{S S' K:Nat->Prop}{w0 w w':World}{φ φ':fM}{H:Hf}{n:Nat}{h:H2}{tb:EE}{s:S2}{β:Type}{k:V->S2->List Nat->Option β}{r:β}{o:Oper}{E:kN}{q:Rg}{aR:Cu}{nt:Nat}{all:Array Oper}
structure EG(e:List (Nat×V))(q:Rg)(E:kN):Prop where
 ev:∀t v,gB e t=some v->v=.gn\/E t=some v
 kn:∀g c,gB q.kn g=some c->EK E g=some c
 cd:∀t g b v,gB q.cd t=some (g,b,v)->∃c,EK E g=some c/\(c=b->E t=some v)/\(c≠b->E t=some .no)
def K2(E:kN)(gc:Option (Nat×Bool)):Prop:=∀g b,gc=some (g,b)->EK E g=some b
theorem abH{c:Value}{v:V}(hc:Yb c=some v):oN h v=true/\dZ n h v:=by
 unfold Yb at hc;split at hc<;>first|(cases hc;done)|(cases hc;exact⟨rfl,trivial⟩)|skip
 rename_i cs;split at hc<;>cases hc;exact⟨by assumption,trivial⟩
theorem U8:∀{v:V},I_ v=true->dZ n h v:=by intro v;induction v with|co a r iha ihr=>intro hv;simp only[I_,aw]at hv;exact⟨iha hv.1,ihr hv.2⟩|pt t v=>intro _;trivial|ni=>intro _;trivial|_=>intro hv;cases hv
theorem FZ{E:kN}{e:List (Nat×V)}{a:Operand}{v:V}(hev:∀t v,gB e t=some v->v=.gn\/E t=some v)(hE:∀t v,E t=some v->dZ n h v)(ho:Nr e h a=some v):V7 E a v/\oN h v=true/\dZ n h v:=by
 cases a with
 |tmp t=>
  simp only[Nr]at ho;split at ho<;>first|(cases ho;done)|skip
  rename_i x hx;obtain⟨e1,h2⟩:=aC ho;cases h2;rcases hev t v hx with rfl|h3
  .cases e1
  .exact ⟨.inr h3,e1,hE t v h3⟩
 |const c=>exact⟨.inr ho,abH ho⟩
 |global g=>
  simp only[Nr]at ho;split at ho<;>first|(cases ho;done)|skip
  rename_i x hx;obtain⟨e1,h2⟩:=aC ho;cases h2;exact⟨.inr hx,DU e1,U8 e1⟩
 |func f=>cases ho;exact⟨.inr rfl,rfl,trivial⟩
theorem F0{gc:Option (Nat×Bool)}{a:Operand}{v:V}(hq:EG s.gX q E)(hE:∀t v,E t=some v->dZ s.next s.heap v)(hg:K2 E gc)(ho:Th s q gc a=some v):V7 E a v/\oN s.heap v=true/\dZ s.next s.heap v:=by
 cases a with
 |tmp t=>
  simp only[Th]at ho;split at ho
  .rename_i g b x hx;obtain⟨e,h2⟩:=aC ho;obtain⟨e2,h3⟩:=aC h2;cases h3;obtain⟨c,c1,c2,_⟩:=hq.cd t g b v hx
   have hb:EK E g=some b:=by
    simp only[dE,decide_eq_true_eq]at e;rcases e with e|e
    .exact hg g b e
    .exact hq.kn g b e
   rw[c1]at hb;have:=c2 (ac hb);exact⟨.inr this,e2,hE t v this⟩
  .exact FZ hq.ev hE ho
 |_=>exact FZ hq.ev hE ho
theorem Lv{gc:Option (Nat×Bool)}(hq:EG s.gX q E)(hE:∀t v,E t=some v->dZ s.next s.heap v)(hg:K2 E gc):∀{as:List Operand}{vs:List V},P1 s q gc as=some vs->Ji E as vs/\∀v∈vs,oN s.heap v=true/\dZ s.next s.heap v:=by intro as;induction as with|nil=>intro vs h;cases h;exact⟨trivial,by simp⟩|cons a as ih=>intro vs h;simp only[P1]at h;split at h<;>cases h;rename_i x xs h1 h2;obtain⟨p1,p2⟩:=F0 hq hE hg h1;obtain⟨p3,p4⟩:=ih h2;exact⟨⟨p1,p3⟩,fun v hv=>by rcases aI.1 hv with rfl|hv;exact p2;exact p4 v hv⟩
theorem Bj.val{args:List Operand}{vs:List V}{v:V}{l:List Nat}(hv:dZ n h v)(hr:∀(a:Act)(S K:Nat->Prop)(w0 w:World)(φ:fM)(H:Hf),Inv S K w0 φ H w->uE φ h->Ar S w φ a.eval args vs->(∀i∈l,H i=fO h i)->fL P o a.eval S K w0 w φ H n n v []):Bj P o args vs h n n v [] l:=⟨aq _,jS.nil,hv,by simp,by simp,fun a S K w0 w φ H h1 h2 h3 h4 _=>(hr a S K w0 w φ H h1 h2 h3 h4).Xn⟩
theorem G9{c a b:Operand}{ρ:Operand->Value}{x:Bool}(ho:o.op=.pick c a b)(hc:ρ c=.bool x):(execOp ρ o).run P w=.ok (.value (if x then ρ a else ρ b)) w:=by cases x<;>simp[execOp,ho,hc,asBool]
theorem Xc{c:Bool}{x y v:V}(hm:mgV c x y=some v){z:Value}(hz:RW S w φ (bif c then x else y) z):RW S w φ v z:=by
 have one:∀{t:Ty}{p:El t}{u:V},tF t u=some p->RW S w φ u z->RW S w φ (.x t p) z:=by intro t p u hu hr;obtain⟨c,h1,rfl,h2⟩:=r_ hu hr;exact(R1.of (v:=.x t p) h1 rfl h2).rw
 have kb:∀{b:Bool},RW S w φ (.kb b) z->RW S w φ (.x .b b) z:=fun h=>h;unfold mgV at hm;split at hm
 .cases hm;cases c<;>exact kb hz
 .split at hm<;>cases hm;rename_i b hb;cases c
  .exact one hb hz
  .exact hz
 .split at hm<;>cases hm;rename_i b hb;cases c
  .exact hz
  .exact one hb hz
 .cases hm
theorem TO{c:Bool}{x y v:V}(hm:mgV c x y=some v):dZ n h v:=by
 unfold mgV at hm
 repeat' split at hm
 all_goals first|(cases hm;done)|(cases hm;trivial)
theorem Tc{gc:Option (Nat×Bool)}{cc ca cb:Operand}{v:V}(ho:o.op=.pick cc ca cb)(hq:EG s.gX q E)(hE:∀t v,E t=some v->dZ s.next s.heap v)(hg:K2 E gc)(hp:PW s q gc [cc,ca,cb]=some v):
  ∃vs,Ji E [cc,ca,cb] vs/\Bj P o [cc,ca,cb] vs s.heap s.next s.next v [] []:=by
 have key:∀{x:Bool}{cv y:V},V7 E cc cv->oA cv=some (.bool x)->V7 E (bif x then ca else cb) y->dZ s.next s.heap v->(∀{S:Nat->Prop}{w:World}{φ:fM}{z:Value},RW S w φ y z->RW S w φ v z)->∃vs,Ji E [cc,ca,cb] vs/\Bj P o [cc,ca,cb] vs s.heap s.next s.next v [] []:=by intro x cv y h1 h2 h3 h4 h5;cases x with|true=>refine⟨[cv,y,.gn],⟨h1,h3,.inl rfl,trivial⟩,Bj.val h4 fun a S K w0 w φ H hI _ har _=>?_⟩;exact fL.pure hI (G9 ho (rM h2 har.1)) (h5 har.2.1)|false=>refine⟨[cv,.gn,y],⟨h1,.inl rfl,h3,trivial⟩,Bj.val h4 fun a S K w0 w φ H hI _ har _=>?_⟩;exact fL.pure hI (G9 ho (rM h2 har.1)) (h5 har.2.2.1)
 have known:∀{x:Bool}{cv:V},V7 E cc cv->oA cv=some (.bool x)->Th s q gc (bif x then ca else cb)=some v->∃vs,Ji E [cc,ca,cb] vs/\Bj P o [cc,ca,cb] vs s.heap s.next s.next v [] []:=fun h1 h2 h3=>by obtain⟨p1,p2,p3⟩:=F0 hq hE hg h3;exact key h1 h2 p1 p3 fun h=>h
 cases cc<;>first|(cases hp;done)|skip
 .rename_i g;simp only[PW]at hp;split at hp<;>first|(cases hp;done)|skip
  .rename_i c hkn;have ht:=hq.kn g c hkn;unfold EK at ht;split at ht<;>cases ht
   .rename_i he;exact known (cv:=.kb c) (.inr he) rfl hp
   .rename_i he;exact known (cv:=.x .b c) (.inr he) rfl hp
  .rename_i c _ he;rcases hq.ev g _ he with h|h
   .cases h
   .exact known (cv:=.kb c) (.inr h) rfl hp
  .rename_i c _ he;split at hp<;>first|(cases hp;done)|skip
   rename_i x y h1 h2;rcases hq.ev g _ he with h|h
   .cases h
   .have htv:EK E g=some c:=by simp[EK,h]
    refine key (x:=c) (cv:=.x .b c) (y:=bif c then x else y) (.inr h) rfl ?_ (TO hp) fun hz=>Xc hp hz;cases c with|true=>exact(F0 hq hE (fun g' b' e=>by cases e;exact htv) h1).1|false=>exact(F0 hq hE (fun g' b' e=>by cases e;exact htv) h2).1
 .rename_i c;cases c<;>first|(cases hp;done)|skip
  rename_i c;exact known (x:=c) (cv:=.kb c) (.inr rfl) rfl hp
def QO:Ev.K->Bool
 |.lookup _ _ _ _ false=>true
 |_=>false
def V4(k:Ev.K)(P:Program)(o:Oper)(args:List Operand)(vs:List V)(h:H2)(n n':Nat)(v:V)(u:ri)(l:List Nat):Prop:=QO k=true->∀id∈l,∀kT vT m q,fO h id=some (.mp kT vT m)->Sf P o args vs ((id,some (.mp kT vT (lG m (pV vT) q).1))::h) n n' v u l
def PRE(nt:Nat)(kd:Ev.K)(P:Program)(o:Oper)(args:List Operand)(E:kN)(s:S2){β:Type}(k:V->S2->List Nat->Option β)(r:β):Prop:=∃vs v u n' l,Ji E args vs/\k v (Bm s u n') l=some r/\Bj P o args vs s.heap s.next n' v u l/\(∀d,o.dst=some d->d<nt)/\(2<=B1 kd\/u=[]/\n'=s.next/\(B1 kd=0->l=[]))/\V4 kd P o args vs s.heap s.next n' v u l/\(Fg kd=true->Ox s.heap u)
theorem Kg{κ ν:Type}[DecidableEq κ]{k:κ}{e:κ×ν×Nat}:∀{l:List (κ×ν×Nat)}{i:Nat},dx k (l++[e]) i=match dx k l i with|some r=>some r|none=>if k=e.1 then some (i+l.length,e)else none:=by
 intro l;induction l with
 |nil=>intro i;simp[dx]
 |cons x l ih=>
  intro i;simp only[List.cons_append,dx];split
  .rfl
  .rw [ih];split
   .rfl
   .simp only[ck];rw[show i+1+l.length=i+(l.length+1)by omega]
theorem ND{κ ν:Type}[DecidableEq κ](m:Mp κ ν)(z:ν)(q k:κ):kp (lG m z q).1 z k=kp m z k:=by
 unfold lG;split
 .rfl
 .rename_i hq;simp only[kp,Kg];cases hk:dx k m.es 0 with
  |some r=>rfl
  |none=>
   simp only;split
   .rename_i h2;split at h2<;>cases h2;rfl
   .rfl
theorem OX{op:OP}{vs:List V}{v:V}{l:List Nat}{id:Nat}{kT vT:Ty}{m:Mp (El kT) (El vT)}{q:El kT}(hk:QO op.o.k=true)(h1:wB op vs h=some (v,l))(hid:id∈l)(ho:fO h id=some (.mp kT vT m)):wB op vs ((id,some (.mp kT vT (lG m (pV vT) q).1))::h)=some (v,l):=by
 obtain⟨⟨d,kk,as,g⟩,t0,fi⟩:=op;cases kk<;>first|(cases hk;done)|skip
 rename_i ka ks va z ok;cases ok<;>first|(cases hk;done)|skip
 rcases vs with _|⟨a,_|⟨b,_|⟨c,vr⟩⟩⟩<;>first|(cases h1;done)|skip
 have e1:∀hh:H2,wB ⟨⟨d,.lookup ka ks va z false,as,g⟩,t0,fi⟩ [a,b] hh=(match Qv hh a with
  |some ⟨kt,vt,mp,l⟩=>(match tF kt b with
   |some k=>bif(iD kt==ka)&&(iD vt==va)&&decide (AV kt=some ks)&&tq (xo vt) z&&kS vt&&(va||df vt==1)then
     some (.x vt (kp mp (pV vt) k),l)else none
   |none=>none)
  |none=>none):=fun _=>rfl
 rw[e1]at h1|-;cases a<;>first|(cases h1;done)|skip
 rename_i id';simp only[Qv]at h1|-;cases ho':fO h id' with
 |none=>rw[ho']at h1;cases h1
 |some o=>
  rw[ho']at h1;cases o<;>first|(cases h1;done)|skip
  rename_i k1 v1 m1;simp only at h1
  have hl:l=[id']:=by
   split at h1<;>first|(cases h1;done)|skip
   have:=(aC h1).2;cases this;rfl
  subst hl;obtain rfl:=az.1 hid;rw[ho]at ho';cases ho';have e2:fO ((id,some (O.mp kT vT (lG m (pV vT) q).1))::h) id=some (.mp kT vT (lG m (pV vT) q).1):=by simp[fO,gB]
  rw[e2];simp only[ND];exact h1
theorem Su{op:OP}{vs:List V}{v:V}{l:List Nat}{hh:H2}(hk:B1 op.o.k=0)(h:wB op vs hh=some (v,l)):l=[]:=by
 unfold wB at h;split at h
 all_goals(repeat' split at h)
 all_goals first
  |(cases h;done)
  |(obtain⟨_,rfl⟩:=ap (ac h);rfl)
  |(obtain⟨_,rfl⟩:=ap (ac (aC h).2);rfl)
  |(cases(aC h).2;done)
  |(have:=(aC h).2
    split at this
    .obtain ⟨_,rfl⟩:=ap (ac this);rfl
    .cases this)
  |(rename_i hkk _ _;rw[hkk]at hk;cases hk;done)
  |(exfalso;simp_all[B1];done)
theorem RB{op:Op}{ro:Bool}{xM:List Bool}{args:List Operand}(hk:yg P aR op=(.call ro xM,args)):∃c fop,op=.call c/\c.callee=.value fop/\args=fop::c.args.toList:=by
 have bld:∀{b:Builtin}{a:List Operand}{ts:List TypeId},jR P b a ts≠(.call ro xM,args):=by
  intro b a ts e;unfold jR at e
  repeat' split at e
  all_goals cases e
 have Gv:∀{b:BinOp}{t:TypeId}{x y:Operand},vV P b t x y≠(.call ro xM,args):=by
  intro b t x y e;unfold vV ou at e
  repeat' split at e
  all_goals cases e
 unfold yg at hk;split at hk
 all_goals first
  |(cases hk;done)
  |exact absurd hk Gv
  |skip
 all_goals(repeat' split at hk)
 all_goals first
  |(cases hk;done)
  |exact absurd hk bld
  |(cases hk;exact⟨_,_,rfl,by assumption,rfl⟩)
theorem Ra{t:Ty}{fi:List Nat}(hT:qc P tb)(hS:xI s.next s.heap)(hq:EG s.gX q E)(hE:∀t v,E t=some v->dZ s.next s.heap v)(hg:K2 E (b9 P aR nt all o).guard)
  (h:Ya tb ⟨b9 P aR nt all o,t,fi⟩ s q (b9 P aR nt all o).guard k=some r):PRE nt (b9 P aR nt all o).k P o (b9 P aR nt all o).args E s k r:=by
 obtain⟨kk,hkk⟩:∃kk,kk=(b9 P aR nt all o).k:=⟨_,rfl⟩
 have hcases:kk=.fw\/yg P aR o.op=(kk,(b9 P aR nt all o).args)/\∀d,o.dst=some d->d<nt:=by
  rw[hkk];cases hd:o.dst with
  |none=>right;refine⟨?_,fun d e=>by cases e⟩;simp[b9,hd]
  |some d=>
   by_cases hlt:d<nt
   .right;refine⟨?_,fun d e=>by cases e;exact hlt⟩;simp[b9,hd,hlt]
   .left;simp[b9,hd,hlt]
 unfold Ya at h;rw[<-hkk];have Aq:∀co:Cc,co.k=kk->co=⟨co.dst,kk,co.args,co.guard⟩:=fun co e=>by rw[<-e]
 have hco:=Aq _ hkk.symm;generalize b9 P aR nt all o=co at*;subst hkk;rcases hcases with hbad|⟨hcomp,hdst⟩
 .exfalso;split at h
  .rename_i v l ht;unfold SD at ht;rw[hbad]at ht;simp only[yG,cond_false]at ht;split at ht<;>first|(cases ht;done)|skip
   unfold wB at ht;rw[hbad]at ht;cases ht
  .split at h<;>first|(cases h;done)|skip
   split at h
   .rename_i hk _;rw[hbad]at hk;cases hk
   .unfold part at h;rw[hbad]at h;cases h
 .split at h
  .rename_i v l ht;unfold SD at ht;cases hp:yG co.k with
   |true=>
    rw[hp]at ht;simp only[cond_true]at ht;split at ht<;>cases ht;rename_i hv;have hk:co.k=.pick:=by generalize co.k=kq at hp|-;cases kq<;>first|rfl|cases hp
    have hop:∃a b c,o.op=.pick a b c/\co.args=[a,b,c]:=by
     rw[hk]at hcomp;generalize o.op=op at hcomp|-
     have bld:∀{b:Builtin}{a:List Operand}{ts:List TypeId},jR P b a ts≠(.pick,co.args):=by
      intro b a ts e;unfold jR at e
      repeat' split at e
      all_goals cases e
     have Gv:∀{b:BinOp}{t:TypeId}{x y:Operand},vV P b t x y≠(.pick,co.args):=by
      intro b t x y e;unfold vV ou at e
      repeat' split at e
      all_goals cases e
     unfold yg at hcomp;split at hcomp
     all_goals first
      |(cases hcomp;done)
      |exact⟨_,_,_,rfl,(ap hcomp).2.symm⟩
      |exact absurd hcomp Gv
      |skip
     all_goals(repeat' split at hcomp)
     all_goals first
      |(cases hcomp;done)
      |exact absurd hcomp bld
    obtain⟨ca,cb,cc,h1,h2⟩:=hop;rw[h2]at hv|-;obtain⟨vs,g1,g2⟩:=Tc h1 hq hE hg hv;exact⟨vs,v,[],s.next,[],g1,h,g2,hdst,.inr ⟨rfl,rfl,fun _=>rfl⟩,(fun e=>by rw[hk]at e;cases e),(fun e=>by rw[hk]at e;cases e)⟩
   |false=>
    rw[hp]at ht;simp only[cond_false]at ht;split at ht<;>first|(cases ht;done)|skip
    rename_i vs hvs;obtain⟨a1,a2⟩:=Lv hq hE hg hvs;refine⟨vs,v,[],s.next,l,a1,h,Bj.val (St hS.bx (fun v hv=>(a2 v hv).2) ht) fun a S K w0 w φ H hI hsh har hag=>?_,hdst,?_,?_,?_⟩
    .rw [hco]at ht;exact EM hcomp (fun _=>rfl) hI hsh har hag hp ht
    .by_cases hc:2<=B1 co.k
     .exact .inl hc
     .exact .inr ⟨rfl,rfl,fun h0=>Su h0 ht⟩
    .intro hlk id hid kT vT m q hm;have ht2:=OX (q:=q) hlk ht hid hm;rw[hco]at ht2;exact fun a S K w0 w φ H hI hsh har hag _=>(EM hcomp (fun _=>rfl) hI hsh har hag hp ht2:fS P o a.eval S K w0 w φ H s.next v).Xn
    .intro he;exfalso;rw[hco]at ht;generalize co.k=kq at ht he;cases kq<;>first|(cases he;done)|(cases ht;done)
  .split at h<;>first|(cases h;done)|skip
   rename_i vs hvs;obtain⟨a1,a2⟩:=Lv hq hE hg hvs;split at h
   .rename_i ro xM f vs' hk
    replace hk:co.k=.call ro xM:=hk
    rw[hk]at hcomp;obtain⟨c,fop,h1,h2,h3⟩:=RB hcomp;rw[h3]at a1|-;obtain⟨v,u,n',l,h4,h5⟩:=Lw h1 h2 hT hS (fun v hv=>(a2 v hv).2) (fun v hv=>(a2 v hv).1) h;exact⟨_,v,u,n',l,a1,h4,h5,hdst,.inl (by rw[hk];exact aq _),(fun e=>by rw[hk]at e;cases e),(fun e=>by rw[hk]at e;cases e)⟩
   .rename_i vs _ _ _
    have hp:yG co.k=false:=by
     cases hp:yG co.k with
     |false=>rfl
     |true=>
      exfalso;have hk:co.k=.pick:=by generalize co.k=kq at hp|-;cases kq<;>first|rfl|cases hp
      unfold part at h;rw[hk]at h;cases h
    rw[hco]at h;obtain⟨v,u,n',l,h4,h5,h6,h7⟩:=JT hcomp hp hS (fun v hv=>(a2 v hv).2) (fun v hv=>(a2 v hv).1) a1.len h;refine⟨vs,v,u,n',l,a1,h4,h5.acj,hdst,h6.imp id fun⟨q1,q2,q3⟩=>⟨q1,q3,fun _=>q2⟩,fun e=>?_,h7⟩;exfalso;clear h5 h6 h7;generalize co.k=kq at h e;cases kq<;>first|(cases e;done)|(cases h;done)
end
abbrev Ef:=Option (V×ri×List Nat×Nat)
def N6:Ef->V
 |some (v,_)=>v
 |none=>.no
def yM:Ef->ri
 |some (_,u,_)=>u
 |none=>[]
def Gf:Ef->List Nat
 |some (_,_,l,_)=>l
 |none=>[]
def qd(P:Program)(nt:Nat)(o:Oper)(co:Cc)(E:kN)(h:H2)(n m:Nat)(f:Ef)(E':kN)(h':H2):Prop:=n<=m/\E'=nQ E co.dst (N6 f)/\h'=yM f++h/\(2<=B1 co.k\/yM f=[]/\(B1 co.k=0->Gf f=[]))/\match f with|some (v,u,l,n')=>lY E co.guard=some true/\n'<=m/\(∀d,o.dst=some d->d<nt)/\∃vs,Ji E co.args vs/\Bj P o co.args vs h n n' v u l/\V4 co.k P o co.args vs h n n' v u l/\(Fg co.k=true->Ox h u)|none=>lY E co.guard=some false
structure KU(n:Nat)(h:H2)(E:kN):Prop where
 Az:xI n h
 gX:∀t v,E t=some v->dZ n h v
section
variable{P:Program}{n m:Nat}{h h':H2}{tb:EE}{s:S2}{β:Type}{k:S2->OF->Option β}{r:β}{o:Oper}{E E':kN}{q:Rg}{aR:Cu}{nt:Nat}{all:Array Oper}{dr:Option Nat}{co:Cc}{f:Ef}
theorem xI.mono(hS:xI n h)(hn:n<=m):xI m h:=⟨fun id=>(hS.ln id).mono hn,fun id o ho=>bY (hS.lt id o ho) hn,fun id t c ho=>dQ hn (xX.refl _ _) (hS.bx id t c ho)⟩
theorem KU.mono(hT:KU n h E)(hn:n<=m):KU m h E:=⟨hT.Az.mono hn,fun t v hv=>dQ hn (xX.refl _ _) (hT.gX t v hv)⟩
theorem qd.fe(hs:qd P nt o co E h n m f E' h'):xX n h h':=by obtain⟨_,_,rfl,_,h4⟩:=hs;cases f with|none=>exact xX.refl _ _|some p=>obtain⟨v,u,l,n'⟩:=p;obtain⟨_,_,_,vs,_,h5,_⟩:=h4;exact h5.Jk.fe
theorem qd.ok(hs:qd P nt o co E h n m f E' h')(hT:KU n h E):KU m h' E':=by
 have fe:=hs.fe;obtain⟨hle,rfl,rfl,_,h4⟩:=hs;cases f with
 |none=>
  refine⟨hT.Az.mono hle,fun t v hv=>?_⟩;unfold nQ at hv;split at hv
  .cases hv;trivial
  .exact dQ hle fe (hT.gX t v hv)
 |some p=>
  obtain⟨v,u,l,n'⟩:=p;obtain⟨_,hle',_,vs,_,h5,_⟩:=h4;refine⟨(hT.Az.gM h5.le h5.Jk h5.lt h5.bx).mono hle',fun t v hv=>?_⟩;unfold nQ at hv;split at hv
  .cases hv;exact dQ hle' (xX.refl _ _) h5.okv
  .exact dQ hle fe (hT.gX t _ hv)
def X4(E:kN)(g:Option (Nat×Bool)):GV->Prop
 |.run=>K2 E g/\lY E g=some true
 |.skip=>lY E g=some false
 |.Vm g' b c=>g=some (g',b)/\E g'=some (.x .b c)
theorem abr{e:List (Nat×V)}{g:Option (Nat×Bool)}{gv:GV}(hq:EG e q E)(h:gdV e q.kn g=some gv):X4 E g gv:=by
 cases g with
 |none=>cases h;exact⟨(fun _ _ e=>by cases e),rfl⟩
 |some p=>
  obtain⟨g,b⟩:=p
  have tv:∀{c:Bool},EK E g=some c->lY E (some (g,b))=some (c==b):=by
   intro c ht;unfold EK at ht;simp only[lY];split at ht<;>cases ht
   .rename_i he;rw[he]
   .rename_i he;rw[he]
  have known:∀{c:Bool},EK E g=some c->(bif c==b then GV.run else GV.skip)=gv->X4 E (some (g,b)) gv:=by
   intro c ht e;have hw:=tv ht;cases hc:(c==b)<;>rw[hc]at e hw<;>cases e
   .exact hw
   .refine ⟨fun g' b' e=>?_,hw⟩;cases e;rw[ht];congr 1;exact eq_of_beq hc
  simp only[gdV]at h;split at h
  .rename_i c hk;exact known (hq.kn g c hk) (ac h)
  .split at h<;>first|(cases h;done)|skip
   .rename_i c he;rcases hq.ev g _ he with h1|h1
    .cases h1
    .exact known (c:=c) (by simp[EK,h1]) (ac h)
   .rename_i c he;cases h;rcases hq.ev g _ he with h1|h1
    .cases h1
    .exact ⟨rfl,h1⟩
   .rename_i he;cases h;rcases hq.ev g _ he with h1|h1
    .cases h1
    .show lY E _=_;simp[lY,h1]
theorem jN{α:Type}(a:Nat)(x:α)(l:List (Nat×α))(k:Nat):gB ((a,x)::l) k=if a=k then some x else gB l k:=by
 simp only[gB];by_cases e:a=k
 .simp [e]
 .have:(a==k)=false:=by simpa using e
  simp[e,this]
theorem Kw{α:Type}{p:Nat×α->Bool}{k:Nat}{x:α}:∀{l:List (Nat×α)},(∀y,p (k,y)=true)->gB (l.filter p) k=some x->gB l k=some x:=by
 intro l hp;induction l with
 |nil=>intro h;cases h
 |cons a l ih=>
  obtain⟨j,y⟩:=a;intro h;rw[jN];by_cases e:j=k
  .subst e;rw[di,if_pos (hp y),jN,if_pos rfl]at h;simp[h]
  .rw [if_neg e];rw[di]at h;split at h
   .rw [jN,if_neg e]at h;exact ih h
   .exact ih h
theorem UK{d:Option Nat}{q2:Rg}(hc:VU q d=some q2):q2.kn=q.kn/\(∀t,(d=some t->gB q2.cd t=none)/\∀x,gB q2.cd t=some x->gB q.cd t=some x)/\∀t,d=some t->(∀g,gB q.kn g≠none->g≠t)/\∀t' g b v,gB q.cd t'=some (g,b,v)->g≠t:=by
 cases d with
 |none=>cases hc;exact⟨rfl,(fun t=>⟨(fun e=>by cases e),fun _ h=>h⟩),(fun t e=>by cases e)⟩
 |some d=>
  unfold VU at hc;cases e:(q.cd.any (fun e=>e.2.1==d)||q.kn.any (fun e=>e.1==d))<;>simp only[e,cond_true,cond_false]at hc<;>cases hc;simp only[Bool.or_eq_false_iff]at e;obtain⟨e1,e2⟩:=e;refine⟨rfl,fun t=>⟨fun e=>?_,fun x h=>?_⟩,fun t e=>?_⟩
  .cases e;cases hx:gB (q.cd.filter fun e=>!(e.1==d)) d with|none=>rfl|some y=>have:=cY.1 (lg.1 y hx);simp at this
  .have:t≠d:=by rintro rfl;have:=cY.1 (lg.1 x h);simp at this
   exact Kw (fun y=>by simpa using this) h
  .cases e;refine⟨fun g hg=>?_,fun t' g b v hv=>?_⟩
   .cases hx:gB q.kn g with|none=>exact absurd hx hg|some y=>have:=pR.1 e2 _ (lg.1 y hx);simpa using this
   .have:=pR.1 e1 _ (lg.1 _ hv);simpa using this
theorem EG.put{e:List (Nat×V)}{d:Option Nat}{v v':V}{q2:Rg}(hq:EG e q E)(hc:VU q d=some q2)(hv:v'=.gn\/v'=v):EG (uO ⟨e,h,n,[],.ni⟩ d v').gX q2 (nQ E d v):=by
 obtain⟨c1,c2,c3⟩:=UK hc;have hne:∀{t:Nat},d≠some t->nQ E d v t=E t:=fun h=>by simp[nQ,h]
 have hkn:∀g c,gB q2.kn g=some c->d≠some g:=fun g c hk e=>by rw[c1]at hk;exact(c3 g e).1 g (by rw[hk];simp) rfl
 have tv:∀{g:Nat},d≠some g->EK (nQ E d v) g=EK E g:=fun h=>by simp only[EK,hne h]
 refine⟨fun t x hx=>?_,fun g c hk=>?_,fun t g b x hx=>?_⟩
 .cases d with
  |none=>simpa[nQ]using hq.ev t x hx
  |some d=>
   simp only[uO,jN]at hx;by_cases e:d=t
   .rw [if_pos e]at hx;cases hx;rcases hv with rfl|rfl
    .exact .inl rfl
    .exact .inr (by simp[nQ,e])
   .rw [if_neg e]at hx;rw[hne (by simpa using e)];exact hq.ev t x hx
 .rw [tv (hkn g c hk)];exact hq.kn g c (c1▸hk)
 .have hd:d≠some t:=fun e=>by rw[(c2 t).1 e]at hx;cases hx
  have hx2:=(c2 t).2 _ hx;have hg:d≠some g:=fun e=>(c3 g e).2 t g b x hx2 rfl;obtain⟨c,q1,q2,q3⟩:=hq.cd t g b x hx2;exact⟨c,by rw[tv hg];exact q1,fun e=>by rw[hne hd];exact q2 e,fun e=>by rw[hne hd];exact q3 e⟩
theorem EG.kn1{e:List (Nat×V)}{g:Nat}{c:Bool}(hq:EG e q E)(ht:EK E g=some c):EG e ⟨(g,c)::q.kn,q.cd⟩ E:=
 ⟨hq.ev,fun g' c' hk=>by
  rw[jN]at hk;split at hk
  .rename_i e;cases hk;rw[<-e];exact ht
  .exact hq.kn g' c' hk,hq.cd⟩
theorem EG.cd1{e:List (Nat×V)}{d g:Nat}{b c:Bool}{v:V}(hq:EG e q E)(ht:EK E g=some c)(h1:c=b->E d=some v)(h2:c≠b->E d=some .no):EG e ⟨q.kn,(d,g,b,v)::q.cd⟩ E:=
 ⟨hq.ev,hq.kn,fun t g' b' v' hx=>by
  rw[jN]at hx;split at hx
  .rename_i e;subst e;cases hx;exact⟨c,ht,h1,h2⟩
  .exact hq.cd t g' b' v' hx⟩
structure yh(P:Program)(aR:Cu)(nt:Nat)(all:Array Oper)(dr:Option Nat)(l:List Oper)(i:Nat)(s0:S2)(E0:kN)(E:Nat->kN)(Hp:Nat->H2)(N:Nat->Nat)(ef:Nat->Ef)(s':S2)(q':Rg)(tr:OF):Prop where
 e0:E 0=E0
 h0:Hp 0=s0.heap
 rg:EG s'.gX q' (E l.length)
 hp:s'.heap=Hp l.length
 gh:s'.gh=s0.gh
 wo:∃U:ri,s'.heap=U++s0.heap/\s'.wo=U.map (·.1)++s0.wo
 fr:∀t,(∀o∈l,o.dst≠some t)->gB s'.gX t=gB s0.gX t
 nd:∀b,dr=some b->s'.next<=b+BR*(i+l.length)/\∀j,j<=l.length->N j=b+BR*(i+j)
 nn:dr=none->N 0=s0.next/\N l.length=s'.next
 ok:∀j,j<=l.length->KU (N j) (Hp j) (E j)
 st:∀j o,l[j]?=some o->qd P nt o (b9 P aR nt all o) (E j) (Hp j) (N j) (N (j+1)) (ef j) (E (j+1)) (Hp (j+1))/\∃lj,tr[j]?=some (lj,(yM (ef j)).map (·.1))/\∀x∈Gf (ef j),x∈lj
def H3(dr:Option Nat)(i m:Nat):Nat:=match dr with|some b=>b+BR*(i+1)|none=>m
theorem yh.cons{l:List Oper}{i:Nat}{s0 s1:S2}{E0 E1:kN}{f:Ef}{lj:List Nat}{Es:Nat->kN}{Hp:Nat->H2}{N:Nat->Nat}{ef:Nat->Ef}{s':S2}{q':Rg}{tr:OF}(hT:yh P aR nt all dr l (i+1) s1 E1 Es Hp N ef s' q' tr)
  (hok:KU (rH dr i s0).next s0.heap E0) (fe:qd P nt o (b9 P aR nt all o) E0 s0.heap (rH dr i s0).next (H3 dr i s1.next) f E1 s1.heap) (hl:∀x∈Gf f,x∈lj) (hgh:s1.gh=s0.gh)
  (hwo:s1.heap=yM f++s0.heap/\s1.wo=(yM f).map (·.1)++s0.wo) (hfr:∀t,o.dst≠some t->gB s1.gX t=gB s0.gX t):
  yh P aR nt all dr (o::l) i s0 E0 (fun j=>match j with|0=>E0|j+1=>Es j) (fun j=>match j with|0=>s0.heap|j+1=>Hp j) (fun j=>match j with|0=>(rH dr i s0).next|j+1=>N j) (fun j=>match j with|0=>f|j+1=>ef j) s' q' ((lj,(yM f).map (·.1))::tr):=by
 have hN0:N 0=H3 dr i s1.next:=by cases hd:dr with|none=>exact(hT.nn hd).1|some b=>have:=(hT.nd b hd).2 0 (Nat.zero_le _);show N 0=b+BR*(i+1);simpa using this
 refine⟨rfl,rfl,hT.rg,hT.hp,hT.gh.trans hgh,?_,fun t ht=>?_,fun b hb=>⟨?_,fun j hj=>?_⟩,fun hd=>⟨?_,?_⟩,fun j hj=>?_,fun j o' hj=>?_⟩
 .obtain ⟨U,u1,u2⟩:=hT.wo;exact⟨U++yM f,by rw[u1,hwo.1];simp,by rw[u2,hwo.2];simp⟩
 .rw [hT.fr t fun o ho=>ht o (by simp[ho]),hfr t (ht o (by simp))]
 .have:=(hT.nd b hb).1;rw[ck,show i+(l.length+1)=i+1+l.length by omega];exact this
 .cases j with|zero=>subst hb;rfl|succ j=>have:=(hT.nd b hb).2 j (by simpa using hj);rw[show i+(j+1)=i+1+j by omega];exact this
 .subst hd;rfl
 .exact (hT.nn hd).2
 .cases j with|zero=>exact hok|succ j=>exact hT.ok j (by simpa using hj)
 .cases j with
  |zero=>
   obtain rfl:o=o':=by simpa using hj
   refine⟨?_,lj,rfl,hl⟩;simp only[hT.e0,hT.h0,hN0];exact fe
  |succ j=>obtain⟨a1,a2⟩:=hT.st j o' (by simpa using hj);exact⟨a1,by simpa using a2⟩
theorem E5(hT:qc P tb):∀(l:List Oper)(i:Nat)(s0:S2)(q:Rg)(E0:kN)(tr:OF),ux tb dr (l.map (ur P aR nt all)) i s0 q tr k=some r->EG s0.gX q E0->KU s0.next s0.heap E0->(∀b,dr=some b->s0.next<=b+BR*i)->
  ∃E Hp N ef s' q' tr',k s' (tr++tr')=some r/\yh P aR nt all dr l i s0 E0 E Hp N ef s' q' tr':=by
 intro l;induction l with
 |nil=>
  intro i s0 q E0 tr h hq hok hb;refine⟨fun _=>E0,fun _=>s0.heap,fun _=>(match dr with|some b=>b+BR*i|none=>s0.next),fun _=>none,s0,q,[],by rw[bo];exact h,rfl,rfl,hq,rfl,rfl,⟨[],rfl,rfl⟩,fun t _=>rfl,fun b e=>?_,fun e=>?_,fun j hj=>?_,fun j o hj=>by simp at hj⟩
  .subst e;exact⟨hb b rfl,fun j hj=>by
    obtain rfl:j=0:=by simpa using hj
    rfl⟩
  .subst e;exact⟨rfl,rfl⟩
  .cases dr with|none=>exact hok|some b=>exact hok.mono (hb b rfl)
 |cons o l ih=>
  intro i s0 q E0 tr h hq hok hb;have hle:s0.next<=(rH dr i s0).next:=by cases dr with|none=>exact aq _|some b=>exact hb b rfl
  have hok1:KU (rH dr i s0).next (rH dr i s0).heap E0:=by cases dr with|none=>exact hok|some b=>exact hok.mono hle
  have hq1:EG (rH dr i s0).gX q E0:=by cases dr<;>exact hq
  have hsame:(rH dr i s0).gX=s0.gX/\(rH dr i s0).heap=s0.heap/\(rH dr i s0).wo=s0.wo/\(rH dr i s0).gh=s0.gh:=by cases dr<;>exact⟨rfl,rfl,rfl,rfl⟩
  have next:∀{q2:Rg}{d:Option Nat}{v v':V}{u:ri}{n':Nat}{f:Ef}{lj:List Nat},ux tb dr (l.map (ur P aR nt all)) (i+1) (uO (Bm (rH dr i s0) u n') d v') q2 (tr++[(lj,u.map (·.1))]) k=some r->d=o.dst->yM f=u->N6 f=v->(∀x∈Gf f,x∈lj)->
    EG (uO (Bm (rH dr i s0) u n') d v').gX q2 (nQ E0 d v)->(∀b,dr=some b->n'<=b+BR*(i+1))->(rH dr i s0).next<=n'->
    qd P nt o (b9 P aR nt all o) E0 s0.heap (rH dr i s0).next (H3 dr i n') f (nQ E0 d v) (u++s0.heap)->KU n' (u++s0.heap) (nQ E0 d v)->
    ∃E Hp N ef s' q' tr',k s' (tr++tr')=some r/\yh P aR nt all dr (o::l) i s0 E0 E Hp N ef s' q' tr':=by
   intro q2 d v v' u n' f lj h1 hd hu hv hl h2 h3 h4 h5 h6;have eh:(uO (Bm (rH dr i s0) u n') d v').heap=u++s0.heap:=by cases d<;>simp[uO,Bm,hsame.2.1]
   have en:(uO (Bm (rH dr i s0) u n') d v').next=n':=by cases d<;>rfl
   obtain⟨E,Hp,N,ef,s',q',tr',g1,g2⟩:=ih (i+1) _ q2 _ _ h1 h2 (by rw[en,eh];exact h6) (fun b e=>by rw[en];exact h3 b e)
   have:=g2.cons (o:=o) (s0:=s0) (E0:=E0) (f:=f) (lj:=lj) (by rw[<-hsame.2.1];exact hok1) (by rw[eh,en];exact h5) hl (by cases d<;>simp[uO,Bm,hsame.2.2.2]) (by rw[eh,hu];refine⟨rfl,?_⟩;cases d<;>simp[uO,Bm,hsame.2.2.1]) (fun t ht=>by
    cases d with
    |none=>simp[uO,Bm,hsame.1]
    |some d=>simp only[uO,Bm,jN,hsame.1];rw[if_neg (fun e=>ht (by rw[<-hd,e]))])
   rw[hu]at this;exact⟨_,_,_,_,s',q',_,by rw[<-g1];simp,this⟩
  have go:∀{q2:Rg},EG (rH dr i s0).gX q2 E0->K2 E0 (b9 P aR nt all o).guard->lY E0 (b9 P aR nt all o).guard=some true->(Ya tb (ur P aR nt all o) (rH dr i s0) q2 (b9 P aR nt all o).guard fun v s1 lk=>
    bif inB dr i s1 then(match VU q2 o.dst with
     |some q=>ux tb dr (l.map (ur P aR nt all)) (i+1) (uO s1 o.dst v) q (tr++[(lk,s1.wo.take (s1.wo.length-(rH dr i s0).wo.length))]) k
     |none=>none)else none)=some r->∃E Hp N ef s' q' tr',k s' (tr++tr')=some r/\yh P aR nt all dr (o::l) i s0 E0 E Hp N ef s' q' tr':=by
   intro q2 hq2 hgc hw hx;obtain⟨vs,v,u,n',lk,h1,h2,h3,hdst,h4,hs1,hs2⟩:=Ra hT hok1.Az hq2 hok1.gX hgc hx;obtain⟨e1,h5⟩:=aC h2;split at h5<;>first|(cases h5;done)|skip
   rename_i q3 hc;have ewo:(Bm (rH dr i s0) u n').wo.take ((Bm (rH dr i s0) u n').wo.length-(rH dr i s0).wo.length)=u.map (·.1):=by simp[Bm]
   rw[ewo]at h5;have hn:∀b,dr=some b->n'<=b+BR*(i+1):=fun b e=>by subst e;simpa[inB,Bm]using e1
   have hm:n'<=H3 dr i n':=by cases dr with|none=>exact aq _|some b=>exact hn b rfl
   rw[hsame.2.1]at h3 hs1 hs2;have fe:qd P nt o (b9 P aR nt all o) E0 s0.heap (rH dr i s0).next (H3 dr i n') (some (v,u,lk,n')) (nQ E0 o.dst v) (u++s0.heap):=⟨bg h3.le hm,rfl,rfl,h4.imp id fun⟨a,_,c⟩=>⟨a,c⟩,hw,hm,hdst,vs,h1,h3,hs1,hs2⟩
   have hst':qd P nt o (b9 P aR nt all o) E0 s0.heap (rH dr i s0).next n' (some (v,u,lk,n')) (nQ E0 o.dst v) (u++s0.heap):=⟨h3.le,rfl,rfl,h4.imp id fun⟨a,_,c⟩=>⟨a,c⟩,hw,aq _,hdst,vs,h1,h3,hs1,hs2⟩
   refine next (f:=some (v,u,lk,n')) (lj:=lk) (n':=n') h5 rfl rfl rfl (fun x hx=>hx) ?_ hn h3.le fe (hst'.ok (by rw[<-hsame.2.1];exact hok1))
   have:=hq2.put (n:=n') (h:=u++s0.heap) (v:=v) hc (.inr rfl);cases hd:o.dst<;>simpa[uO,Bm,hd,N6]using this
  have no:∀{q2:Rg},EG (rH dr i s0).gX q2 E0->lY E0 (b9 P aR nt all o).guard=some false->(match VU q2 o.dst with|some q=>ux tb dr (l.map (ur P aR nt all)) (i+1) (uO (rH dr i s0) o.dst .no) q (tr++[([],[])]) k|none=>none)=some r->
    ∃E Hp N ef s' q' tr',k s' (tr++tr')=some r/\yh P aR nt all dr (o::l) i s0 E0 E Hp N ef s' q' tr':=by
   intro q2 hq2 hw hx;split at hx<;>first|(cases hx;done)|skip
   rename_i q3 hc;have hm:(rH dr i s0).next<=H3 dr i (rH dr i s0).next:=by cases dr with|none=>exact aq _|some b=>exact nH (gH _ (aO _)) _
   have fe:∀m,(rH dr i s0).next<=m->qd P nt o (b9 P aR nt all o) E0 s0.heap (rH dr i s0).next m none (nQ E0 o.dst .no) ([]++s0.heap):=fun m hm=>⟨hm,rfl,rfl,.inr ⟨rfl,fun _=>rfl⟩,hw⟩
   refine next (f:=none) (lj:=[]) (u:=[]) (n':=(rH dr i s0).next) (v':=.no) hx rfl rfl rfl (fun x hx=>hx) ?_ (fun b e=>by subst e;exact hm) (aq _) (fe _ hm) ((fe _ (aq _)).ok (by rw[<-hsame.2.1];exact hok1))
   have:=hq2.put (n:=0) (h:=[]) (v:=.no) hc (.inr rfl);cases hd:o.dst<;>simpa[uO,Bm,hd,N6]using this
  rw[List.map_cons]at h;simp only[ux]at h;have hgd:∀{gv:GV},gdV (rH dr i s0).gX q.kn (ur P aR nt all o).o.guard=some gv->X4 E0 (b9 P aR nt all o).guard gv:=fun hg=>abr hq1 hg;split at h
  .cases h
  .rename_i hg;obtain⟨g1,g2⟩:=hgd hg;exact go hq1 g1 g2 h
  .rename_i hg;exact no hq1 (hgd hg) h
  .rename_i g b c hg;obtain⟨g1,g2⟩:=hgd hg;have htv:EK E0 g=some c:=by simp[EK,g2]
   have hw:lY E0 (b9 P aR nt all o).guard=some (c==b):=by rw[g1];simp[lY,g2]
   have hgc:c=b->K2 E0 (b9 P aR nt all o).guard:=fun e g' b' e'=>by rw[g1]at e';cases e';rw[htv,e]
   split at h
   .rename_i v lk hx;cases hwt:Vi (ur P aR nt all o).o.dst (l.map (ur P aR nt all))<;>rw[hwt]at hx
    .simp only[cond_false]at hx;split at h<;>first|(cases h;done)|skip
     rename_i q3 d hc hd;cases hgd2:Nat.beq g d<;>rw[hgd2]at h
     .simp only[cond_false]at h;have hne:g≠d:=fun e=>by subst e;simp at hgd2
      have hd':o.dst=some d:=hd;have htv2:∀{x:V},EK (nQ E0 (some d) x) g=some c:=fun{x}=>by simp only[EK,nQ,g2];rw[if_neg (fun e=>hne (ac e).symm)]
      have hput:∀x:V,EG (uO (Bm (rH dr i s0) [] (rH dr i s0).next) (some d) .gn).gX q3 (nQ E0 (some d) x):=fun x=>by have:=hq1.put (n:=0) (h:=[]) (v:=x) (v':=.gn) (d:=some d) (by rw[<-hd'];exact hc) (.inl rfl);simpa[uO,Bm]using this
      by_cases hcb:c=b
      .have hret:Ya tb (ur P aR nt all o) (rH dr i s0) q (b9 P aR nt all o).guard (fun v s l=>some (v,s,l))=some (v,rH dr i s0,lk):=by unfold Ya;rw[g1,hx]
       obtain⟨vs,v2,u,n',lk2,h1,h2,h3,hdst,h4,hs1,hs2⟩:=Ra hT hok1.Az hq1 hok1.gX (hgc hcb) hret;have h2':=ac h2;simp only[Prod.mk.injEq]at h2';obtain⟨rfl,e2,rfl⟩:=h2';have eu:u=[]:=by have:=congrArg S2.heap e2;simp only[Bm]at this;exact oh (this.trans (fI _).symm)
       have en:n'=(rH dr i s0).next:=congrArg S2.next e2
       subst eu;subst en;rw[hsame.2.1]at h3 hs1 hs2;have hm:(rH dr i s0).next<=H3 dr i (rH dr i s0).next:=by cases dr with|none=>exact aq _|some b=>exact nH (gH _ (aO _)) _
       have fe:∀m,(rH dr i s0).next<=m->qd P nt o (b9 P aR nt all o) E0 s0.heap (rH dr i s0).next m (some (v2,[],lk2,(rH dr i s0).next)) (nQ E0 (some d) v2) ([]++s0.heap):=fun m hm=>⟨hm,by rw[<-hd'];rfl,rfl,h4.imp id fun⟨a,_,c⟩=>⟨a,c⟩,by rw[hw,hcb];simp,hm,hdst,vs,h1,h3,hs1,hs2⟩
       refine next (f:=some (v2,[],lk2,(rH dr i s0).next)) (lj:=lk2) (u:=[]) (n':=(rH dr i s0).next) (v':=.gn) h hd'.symm rfl rfl (fun x hx=>hx) ?_ (fun b e=>by subst e;exact hm) (aq _) (fe _ hm) ((fe _ (aq _)).ok (by rw[<-hsame.2.1];exact hok1))
       exact(hput v2).cd1 htv2 (fun _=>by simp[nQ]) (fun e=>absurd hcb e)
      .have hm:(rH dr i s0).next<=H3 dr i (rH dr i s0).next:=by cases dr with|none=>exact aq _|some b=>exact nH (gH _ (aO _)) _
       have fe:∀m,(rH dr i s0).next<=m->qd P nt o (b9 P aR nt all o) E0 s0.heap (rH dr i s0).next m none (nQ E0 (some d) .no) ([]++s0.heap):=fun m hm=>⟨hm,by rw[<-hd'];rfl,rfl,.inr ⟨rfl,fun _=>rfl⟩,by rw[hw];cases c<;>cases b<;>simp_all⟩
       refine next (f:=none) (lj:=lk) (u:=[]) (n':=(rH dr i s0).next) (v':=.gn) h hd'.symm rfl rfl (fun x hx=>by simp[Gf]at hx) ?_ (fun b e=>by subst e;exact hm) (aq _) (fe _ hm) ((fe _ (aq _)).ok (by rw[<-hsame.2.1];exact hok1))
       exact(hput .no).cd1 htv2 (fun e=>absurd e hcb) (fun _=>by simp[nQ])
     .cases h
    .cases hx
   .cases b with
    |true=>cases c with|true=>exact go (hq1.kn1 htv) (hgc rfl) (by rw[hw];rfl) h|false=>exact no (hq1.kn1 htv) (by rw[hw];rfl) h
    |false=>cases c with|true=>exact no (hq1.kn1 htv) (by rw[hw];rfl) h|false=>exact go (hq1.kn1 htv) (hgc rfl) (by rw[hw];rfl) h
end
structure GE(S K:Nat->Prop)(w0:World)(φ:fM)(gv:List Value)(nt:Nat)(E:kN)(H:Hf)(gh:V)(a:Act)(w:World):Prop where
 inv:Inv S K w0 φ H w
 gX:gV S w φ E a.tmps
 size:a.tmps.size=nt
 defers:a.defers=[]
 gh:∀(i:Nat)(c:V)(v:Value),(iA gh)[i]?=some c->gv[i]?=some v->RW S w φ c v
structure vZ(S K:Nat->Prop)(w0:World)(φ:fM)(gv:List Value)(nt:Nat)(s:S2)(a:Act)(w:World):Prop where
 rx:GE S K w0 φ gv nt (gB s.gX) (fO s.heap) s.gh a w
 we:∀j,s.next<=j->φ j=none
 BO:uE φ s.heap
 ok:KU s.next s.heap (gB s.gX)
 Ub:∀c∈iA s.gh,dZ s.next s.heap c
section
variable{P:Program}{n m:Nat}{h h':H2}{tb:EE}{s:S2}{β:Type}{k:S2->OF->Option β}{r:β}{o:Oper}{E E' Ei Ei':kN}{aR:Cu}{nt:Nat}{all:Array Oper}{f:Ef}
 {S K:Nat->Prop} {w0 w:World} {φ:fM} {gv:List Value} {H:Hf} {gh:V} {a:Act}
theorem Ji.congr:∀{as:List Operand}{vs:List V},Ji Ei as vs->(∀t∈as.filterMap opT,E t=Ei t)->Ji E as vs:=by
 intro as;induction as with
 |nil=>intro vs h _;cases vs<;>exact h
 |cons x as ih=>
  intro vs h he;cases vs with
  |nil=>exact h.elim
  |cons v vs=>
   refine⟨h.1.imp id fun h1=>?_,ih h.2 fun t ht=>he t ?_⟩
   .cases x with|tmp t=>exact(he t (by simp[opT])).trans h1|_=>exact h1
   .obtain ⟨y,hy,e⟩:=oP.1 ht;exact oP.2 ⟨y,by simp[hy],e⟩
theorem Bo{g:Option (Nat×Bool)}(h:∀t∈(match g with|some (t,_)=>[t]|none=>([]:List Nat)),E t=Ei t):lY E g=lY Ei g:=by cases g with|none=>rfl|some p=>obtain⟨t,b⟩:=p;simp only[lY,h t (by simp)]
theorem PS{d:Option Nat}{v:Value}{t:Nat}(h:d≠some t):(a.put d v).tmps.getD t undef=a.tmps.getD t undef:=by cases d with|none=>rfl|some d=>have:d≠t:=fun e=>h (by rw[e]);simp[Act.put,this]
theorem G7(hnt:nt<1000000000)(hs:qd P nt o (b9 P aR nt all o) Ei h n m f Ei' h')(hR:GE S K w0 φ gv nt E H gh a w)(hE:∀t∈F_ (b9 P aR nt all o),E t=Ei t){i:Nat}(ho:all[i]?=some o)
  (hG:∀v u l n',f=some (v,u,l,n')->∃G vs,Ji Ei (b9 P aR nt all o).args vs/\Sf P o (b9 P aR nt all o).args vs G n n' v u l/\uE φ G/\∀id∈l,H id=fO G id) (hfr:∀j,n<=j->j<m->φ j=none) {Q:Exit->Act->World->Prop} {KK:Act->World->Prop}
  (hK:∀S' φ' a' w',gC S w S' w'->Ren φ φ'->(∀i l,φ' i=some l->φ i=none->n<=i/\i<m)->GE S' K w0 φ' gv nt (nQ E o.dst (N6 f)) (up H (yM f)) gh a' w'->(∀t,o.dst≠some t->a'.tmps.getD t undef=a.tmps.getD t undef)->KK a' w'):wpOp P all Q i KK a w:=by
 obtain⟨hle,_,_,_,h4⟩:=hs;have hg:∀t∈(match(b9 P aR nt all o).guard with|some (t,_)=>[t]|none=>([]:List Nat)),E t=Ei t:=fun t ht=>hE t (List.mem_append_right _ ht);have hsz:a.tmps.size<1000000000:=by rw[hR.size];exact hnt
 simp only[wpOp,ho];cases f with|none=>have hw:lY Ei (b9 P aR nt all o).guard=some false:=h4;rw[<-Bo hg]at hw;rw[if_neg (by simp[Bn hR.gX hsz hw])];exact hK S φ _ w (gC.refl _ _) (Ren.refl _) (fun i l h1 h2=>by rw[h1]at h2;cases h2) ⟨hR.inv,hR.gX.drop,by rw[Hs];exact hR.size,by rw[CW];exact hR.defers,hR.gh⟩ fun t ht=>PS ht|some p=>obtain⟨v,u,l,n'⟩:=p;obtain⟨hw,hn',hdst,_⟩:=h4;rw[<-Bo hg]at hw;rw[if_pos (Bn hR.gX hsz hw)];left;obtain⟨G,vs,h5,h6,h7,h8⟩:=hG v u l n' rfl;have har:=(h5.congr (E:=E) fun t ht=>hE t (List.mem_append_left _ ht)).ar hR.gX hR.inv.Kr;refine h6 a S K w0 w φ H hR.inv h7 har h8 (fun j h1 h2=>hfr j h1 (by omega)) _ _ fun val w' hD=>?_;obtain⟨hle2,S',φ',d1,d2,d3,d4,d5⟩:=hD;exact hK S' φ' _ w' d1 d2 (fun i l h1 h2=>by have:=d3 i l h1 h2;omega) ⟨d5,hR.gX.put d1 d2 (fun x hx=>by rw[hR.size];exact hdst x hx) d4,by rw[Hs];exact hR.size,by rw[CW];exact hR.defers,fun i c v h1 h2=>(hR.gh i c v h1 h2).mono d1 d2⟩ fun t ht=>PS ht
theorem Pq{φ':fM}{H':Hf}{S':Nat->Prop}{w':World}(hs:uE φ h)(fe:xX n h h')(hfr:∀j,n<=j->φ j=none)(hr:Ren φ φ')(hI:Inv S' K w0 φ' H' w')(hH:H'=fO h'):uE φ' h':=by
 intro id l o h1 h2;cases e:φ id with
 |none=>rw[<-hH]at h2;obtain⟨l2,a1,a2,_⟩:=hI.lS id o h2;obtain rfl:=ac (h1.symm.trans a1);exact a2.BO
 |some l0=>
  obtain rfl:=ac ((hr id l0 e).symm.trans h1)
  have hlt:id<n:=by
   rcases Nat.lt_or_ge id n with h|h
   .exact h
   .rw [hfr id h]at e;cases e
  exact zk fe hlt (fun o ho=>hs id l0 o e ho) o h2
structure EI(os:List Oper)(n:Nat)(φ0 φ:fM)(a0 a:Act):Prop where
 tmp:∀t,(∀o∈os,o.dst≠some t)->a.tmps.getD t undef=a0.tmps.getD t undef
 S_:∀i,i<n->φ i=φ0 i
theorem EI.gM{os:List Oper}{n m m':Nat}{φ0 φ φ':fM}{a0 a a':Act}(h:EI os n φ0 φ a0 a)(ho:o∈os)(hr:Ren φ φ')(hn:∀i l,φ' i=some l->φ i=none->m<=i/\i<m')(hm:n<=m)(ha:∀t,o.dst≠some t->a'.tmps.getD t undef=a.tmps.getD t undef):EI os n φ0 φ' a0 a':=by
 refine⟨fun t ht=>(ha t (ht o ho)).trans (h.tmp t ht),fun i hi=>?_⟩;rw[<-h.S_ i hi];cases e:φ i with
 |some l=>exact hr i l e
 |none=>cases e2:φ' i with|none=>rfl|some l=>have:=hn i l e2 e;omega
theorem WG{E0:kN}{Es:Nat->kN}{Hp:Nat->H2}{N:Nat->Nat}{ef:Nat->Ef}{s0 s':S2}{q':Rg}{tr:OF}{os:List Oper}{i0:Nat}(hnt:nt<1000000000)(hT:yh P aR nt all none os i0 s0 E0 Es Hp N ef s' q' tr){Q:Exit->Act->World->Prop}{S0:Nat->Prop}{ws:World}{gh:V}{a0:Act}{φ0:fM}
  (hQ:∀S' φ' a' w',gC S0 ws S' w'->GE S' K w0 φ' gv nt (Es os.length) (fO (Hp os.length)) gh a' w'->(∀j,N os.length<=j->φ' j=none)->uE φ' (Hp os.length)->EI os (N 0) φ0 φ' a0 a'->Q .normal a' w'):
  ∀(l:List Nat)(p:Nat)(S:Nat->Prop)(φ:fM)(a:Act)(w:World),(∀i j,l[i]?=some j->all[j]?=os[p+i]?)->l.length+p=os.length->GE S K w0 φ gv nt (Es p) (fO (Hp p)) gh a w->(∀j,N p<=j->φ j=none)->uE φ (Hp p)->gC S0 ws S w->EI os (N 0) φ0 φ a0 a->N 0<=N p->wpOps P all Q l a w:=by
 intro l;induction l with
 |nil=>
  intro p S φ a w _ hl hR hfr hsh fe hkp _;have e:p=os.length:=by simpa using hl
  subst e;exact hQ S φ a w fe hR hfr hsh hkp
 |cons i l ih=>
  intro p S φ a w hi hl hR hfr hsh fe hkp hN;have hp:p<os.length:=by simp at hl;omega
  have ho:all[i]?=some os[p]:=by rw[hi 0 i rfl];simp[hp]
  obtain⟨st,_⟩:=hT.st p os[p] (bf hp);have hhst:=st.fe;have eE:=st.2.1;have eH:=st.2.2.1;rw[wpOps_cons];refine G7 hnt st hR (fun t _=>rfl) ho (fun v u l n' e=>?_) (fun j h1 _=>hfr j h1) fun S' φ' a' w' h1 h2 h3 h4 h9=>?_
  .obtain ⟨_,_,_,_,h5⟩:=st;rw[e]at h5;obtain⟨_,_,_,vs,h6,h7,_⟩:=h5;exact⟨Hp p,vs,h6,h7.Oo,hsh,fun _ _=>rfl⟩
  .have e1:up (fO (Hp p)) (yM (ef p))=fO (Hp (p+1)):=by rw[eH,p9]
   have e2:nQ (Es p) os[p].dst (N6 (ef p))=Es (p+1):=eE.symm;rw[e1,e2]at h4
   exact ih (p+1) S' φ' a' w' (fun i' j hj=>by have:=hi (i'+1) j (by simpa using hj);rw[this];congr 1;omega) (by simp at hl;omega) h4 (fun j hj=>by
    have hle:=st.1;cases e:φ' j with
    |none=>rfl
    |some m=>have:=h3 j m e (hfr j (by omega));omega) (Pq hsh hhst hfr h2 h4.inv rfl) (fe.trans h1) (hkp.gM (List.mem_of_getElem? (bf hp)) h2 h3 hN h9) (bg hN st.1)
end
end Go.Ev
