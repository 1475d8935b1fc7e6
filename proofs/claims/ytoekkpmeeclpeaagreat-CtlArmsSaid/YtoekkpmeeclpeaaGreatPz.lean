/- What lasts in the text's heap: kinds of slices, parts. Conditions: as stated. -/
import Derived.Test.YtoekkpmeeclpeaaGreatPr
open Bool renaming and_eq_true->aw
open List renaming length_drop->gT,length_take->bV,mem_cons->aI,mem_cons_self->aG,mem_singleton->az,not_mem_nil->aW
open List.cons renaming inj->aB
open Nat renaming le_refl->aq,le_succ->aO,lt_of_lt_of_le->bY,lt_succ_self->aM,zero_add->cT
open Option renaming isSome_none->oO,isSome_some->lr
open Option.some renaming inj->ac
open Prod.mk renaming inj->ap
namespace Go.Ev
def R7(t u:Ty)(s:Sl (El t))(s':Sl (El u))(v v':Nat):Prop:=v<=v'/\t=u/\kx s=kx s'/\(v=v'->Yd t s=Yd u s')
def BK:O->O->Prop
 |.ar t s v,.ar u s' v'|.ar t s v,.im u s' v'|.im t s v,.im u s' v'=>R7 t u s s' v v'
 |.mp _ _ _,.mp _ _ _=>True
 |.rw t s _,.rw u s' _=>t=u/\kx (s:Sl (Sl (El t)))=kx (s':Sl (Sl (El u)))
 |_,_=>False
def Sj:O->Bool
 |.bx _ _|.ib _ _=>true
 |_=>false
def xX(n:Nat)(h h':H2):Prop:=∀id o',id<n->fO h' id=some o'->Sj o'=true\/∃o,fO h id=some o/\BK o o'
theorem R7.refl(t:Ty)(s:Sl (El t))(v:Nat):R7 t t s s v v:=⟨aq _,rfl,rfl,fun _=>rfl⟩
theorem R7.trans{t u w:Ty}{s:Sl (El t)}{s':Sl (El u)}{s2:Sl (El w)}{a b c:Nat}(h1:R7 t u s s' a b)(h2:R7 u w s' s2 b c):R7 t w s s2 a c:=by
 obtain⟨a1,rfl,a3,a4⟩:=h1;obtain⟨b1,rfl,b3,b4⟩:=h2;refine⟨Nat.le_trans a1 b1,rfl,a3.trans b3,fun e=>?_⟩;obtain rfl:a=b:=by omega
 exact(a4 rfl).trans (b4 e)
theorem BK.refl{o:O}(h:Sj o=false):BK o o:=by cases o<;>simp_all[BK,R7,Sj]
theorem BK.trans{a b c:O}(h1:BK a b)(h2:BK b c):BK a c:=by
 cases a<;>cases b<;>simp only[BK]at h1<;>first|exact h1.elim|skip
 all_goals(cases c<;>simp only[BK]at h2|-<;>first|exact h2.elim|skip)
 all_goals first|exact h1.trans h2|exact⟨h1.1.trans h2.1,h1.2.trans h2.2⟩
theorem BK.abe{a b:O}(h:BK a b):Sj a=false:=by cases a<;>cases b<;>first|rfl|exact h.elim
theorem xX.refl(n:Nat)(h:H2):xX n h h:=fun _ o _ ho=>by
 cases e:Sj o
 .exact .inr ⟨o,ho,BK.refl e⟩
 .exact .inl rfl
theorem xX.trans{n n':Nat}{a b c:H2}(hn:n<=n')(h1:xX n a b)(h2:xX n' b c):xX n a c:=fun id o' hi ho=>by
 rcases h2 id o' (by omega) ho with q|⟨o1,h3,h4⟩
 .exact .inl q
 .rcases h1 id o1 hi h3 with q|⟨o2,h5,h6⟩
  .rw [h4.abe]at q;cases q
  .exact .inr ⟨o2,h5,h6.trans h4⟩
def AT(n:Nat):Option O->Prop
 |some (.rw _ _ (some p))=>p.2<n
 |_=>True
theorem AT.mono{n m:Nat}(h:n<=m){x:Option O}(hx:AT n x):AT m x:=by
 unfold AT at hx|-;split
 .simp only at hx;omega
 .trivial
abbrev X1(n:Nat)(p:Nat×Option O):Prop:=(p.1<n/\AT n p.2)\/p.2=none
theorem X1.mono{n m:Nat}(h:n<=m){p:Nat×Option O}(hp:X1 n p):X1 m p:=hp.imp (fun q=>⟨by omega,q.2.mono h⟩) id
def jS(n:Nat)(h:H2)(u:ri):Prop:=∀p∈u,∀o',p.2=some o'->n<=p.1\/Sj o'=true\/∃o,fO h p.1=some o/\BK o o'
theorem jS.fe{n:Nat}{h:H2}{u:ri}(hu:jS n h u):xX n h (u++h):=fun id o' hi ho=>by
 rw[p9]at ho;simp only[up]at ho;cases e:gB u id with
 |none=>rw[e]at ho;exact xX.refl n h id o' hi ho
 |some x=>
  rw[e]at ho;rcases hu _ (lg.1 x e) o' ho with q|q|q
  .exact absurd hi (by simpa using q)
  .exact .inl q
  .exact .inr q
theorem jS.nil{n:Nat}{h:H2}:jS n h []:=fun p hp=>by simp at hp
theorem jS.cons{n:Nat}{h:H2}{id:Nat}{x:Option O}{u:ri}(h1:∀o',x=some o'->n<=id\/Sj o'=true\/∃o,fO h id=some o/\BK o o')(hu:jS n h u):jS n h ((id,x)::u):=fun p hp o' ho=>by
 rcases aI.1 hp with rfl|hp
 .exact h1 o' ho
 .exact hu p hp o' ho
theorem jS.append{n:Nat}{h:H2}{u v:ri}(h1:jS n h u)(h2:jS n h v):jS n h (u++v):=fun p hp=>(List.mem_append.1 hp).elim (h1 p) (h2 p)
theorem uE.mono{φ:fM}{n:Nat}{h h':H2}(hs:uE φ h)(hh:xX n h h')(hφ:∀i l,φ i=some l->i<n):uE φ h':=fun id l o' hl ho=>by
 rcases hh id o' (hφ id l hl) ho with q|⟨o,h1,h2⟩
 .cases o'<;>first|(cases q;done)|trivial
 .have:=hs id l o hl h1;cases o<;>cases o'<;>simp only[BK]at h2<;>first|exact h2.elim|skip
  all_goals simp only[BO]at this|-
  .exact ⟨this.1.trans h2.2.1,this.2.trans h2.2.2.1⟩
  .exact ⟨this.1.trans h2.2.1,this.2.trans h2.2.2.1⟩
  .exact ⟨this.1.trans h2.2.1,this.2.trans h2.2.2.1⟩
  .exact ⟨this.1.trans (by rw[h2.1]),this.2.trans h2.2⟩
theorem UB{u t u':Ty}{s:Sl (El u)}{s':Sl (El u')}{lo:Nat}{r:Sl (El t)}(e:Yd u s=Yd u' s')(h:IS u t s lo r):IS u' t s' lo r:=by obtain⟨rfl,e⟩:=Sigma.mk.inj e;obtain rfl:=eq_of_heq e;exact h
theorem BK.TC{a b:O}(h:BK a b)(hn:TC a):TC b:=by
 have key:∀{α β:Type}{s:Sl α}{s':Sl β},kx s=kx s'->s.nw=false->s'.nw=false:=by intro α β s s' h;cases s<;>cases s'<;>simp_all[kx,Sl.nw]
 cases a<;>cases b<;>simp only[BK]at h<;>first|exact h.elim|trivial|exact key h.2.2.1 hn|exact key h.2 hn
theorem H4{n id:Nat}{h h':H2}(hs:xX n h h')(hi:id<n)(hn:∀o,fO h id=some o->TC o):∀o,fO h' id=some o->TC o:=fun o ho=>by
 rcases hs id o hi ho with q|⟨o0,h3,h4⟩
 .cases o<;>first|trivial|cases q
 .exact h4.TC (hn o0 h3)
theorem dQ{n n':Nat}{h h':H2}(hn:n<=n')(hs:xX n h h'):∀{v:V},dZ n h v->dZ n' h' v:=by
 intro v;induction v with
 |sb id ver lo t r=>
  rintro⟨h1,h0,h2⟩;refine⟨by omega,fun e=>H4 hs h1 (h0 e),fun u s v ho=>?_⟩
  have key:∀{o':O},fO h' id=some o'->(o'=.ar u s v\/o'=.im u s v)->ver<=v/\(v=ver->IS u t s lo r):=by
   intro o' ho he;rcases hs id o' h1 ho with q|⟨o,h3,h4⟩
   .rcases he with rfl|rfl<;>cases q
   .have:∃u0 s0 v0,(fO h id=some (.ar u0 s0 v0)\/fO h id=some (.im u0 s0 v0))/\R7 u0 u s0 s v0 v:=by rcases he with rfl|rfl<;>cases o<;>simp only[BK]at h4<;>first|exact h4.elim|exact⟨_,_,_,.inl h3,h4⟩|exact⟨_,_,_,.inr h3,h4⟩
    obtain⟨u0,s0,v0,k1,k2,k3,k4,k5⟩:=this;obtain⟨q1,q2⟩:=h2 u0 s0 v0 k1;refine⟨by omega,fun e=>?_⟩;obtain rfl:v0=v:=by omega
    exact UB (k5 rfl) (q2 e)
  rcases ho with ho|ho
  .exact key ho (.inl rfl)
  .exact key ho (.inr rfl)
 |fn z f l ih=>intro hv;exact ih hv
 |rc l ih=>intro hv;exact ih hv
 |tp l ih=>intro hv;exact ih hv
 |co a r iha ihr=>rintro⟨h1,h2⟩;exact⟨iha h1,ihr h2⟩
 |so id|sr id|om id|vs id t=>intro hv;exact bY hv hn
 |op id t p=>intro hv;exact bY hv hn
 |ep id m t p=>rintro⟨h1,h2⟩;exact⟨by omega,H4 hs h1 h2⟩
 |_=>intro _;trivial
theorem aC{α:Type}{c:Bool}{x:Option α}{b:α}(h:(bif c then x else none)=some b):c=true/\x=some b:=by
 cases c
 .cases h
 .exact ⟨rfl,h⟩
section
variable{n:Nat}{h:H2}
theorem Cl:∀{l:V}{i:Nat}{x:V},dZ n h l->wU l i=some x->dZ n h x:=by
 intro l;induction l with
 |co a r _ ihr=>rintro i x ⟨h1,h2⟩ hx;cases i with|zero=>obtain rfl:=ac hx;exact h1|succ i=>exact ihr h2 hx
 |_=>intro i x _ hx;simp[wU]at hx
theorem Lz:∀{l y:V}{i:Nat},dZ n h l->dZ n h y->dZ n h (FP l i y):=by
 intro l;induction l with
 |co a r _ ihr=>rintro y i ⟨h1,h2⟩ hy;cases i with|zero=>exact⟨hy,h2⟩|succ i=>exact⟨h1,ihr h2 hy⟩
 |_=>intro y i hl _;exact hl
theorem Ly:∀{t:Ty}{v:El t},dZ n h (O1 t v):=by intro t;induction t with|pr a c _ ihc=>intro v;exact⟨trivial,ihc⟩|_=>intro v;exact⟨trivial,trivial⟩
theorem C9:∀{t:Ty}{v:El t}{i:Nat}{x:V},AZ t v i=some x->dZ n h x:=by
 intro t;induction t with
 |pr a c _ ihc=>intro v i x hx;cases i with|zero=>obtain rfl:=ac hx;trivial|succ i=>exact ihc hx
 |_=>intro v i x hx;cases i with|zero=>obtain rfl:=ac hx;trivial|succ i=>simp[AZ]at hx
theorem C8:∀{p:rI}{v x:V},dZ n h v->tA v p=some x->dZ n h x:=by
 intro p;induction p with
 |nil=>
  intro v x hv hx;obtain rfl:v=x:=by simpa[tA]using hx
  exact hv
 |cons q p ih=>
  intro v x hv hx;cases v<;>first|(simp[tA]at hx;done)|skip
  .rename_i t v;cases t<;>cases q<;>first|(simp[tA]at hx;done)|skip
   .simp only[tA]at hx;split at hx
    .rename_i w hw;exact ih (C9 hw) hx
    .cases hx
   .exact ih (v:=.x _ _) trivial hx
  .rename_i l;cases q<;>first|(simp[tA]at hx;done)|skip
   simp only[tA]at hx;split at hx
   .rename_i w hw;exact ih (Cl (l:=l) hv hw) hx
   .cases hx
theorem zD:∀{p:rI}{v y x:V},dZ n h v->dZ n h y->pY v p y=some x->dZ n h x:=by
 intro p;induction p with
 |nil=>
  intro v y x _ hy hx;obtain rfl:y=x:=by simpa[pY]using hx
  exact hy
 |cons q p ih=>
  intro v y x hv hy hx;cases v<;>first|(simp[pY]at hx;done)|skip
  .rename_i t v;cases t<;>cases q<;>first|(simp[pY]at hx;done)|skip
   .simp only[pY]at hx;split at hx<;>first|(cases hx;done)|skip
    rename_i w hw;split at hx<;>first|(cases hx;done)|skip
    rename_i y' hy';split at hx
    .obtain rfl:=ac hx;trivial
    .obtain rfl:=ac hx;exact Lz Ly (ih (C9 hw) hy hy')
   .simp only[pY]at hx;split at hx<;>first|(cases hx;done)|skip
    split at hx<;>first|(cases hx;done)|skip
    obtain rfl:=ac hx;trivial
  .rename_i l;cases q<;>first|(simp[pY]at hx;done)|skip
   simp only[pY]at hx;split at hx<;>first|(cases hx;done)|skip
   rename_i w hw;split at hx<;>first|(cases hx;done)|skip
   rename_i y' hy';obtain rfl:=ac hx;exact Lz (l:=l) hv (ih (Cl (l:=l) hv hw) hy hy')
theorem Cm{t:Ty}{v x:V}(hv:dZ n h v)(hx:Jm t v=some x):dZ n h x:=by
 unfold Jm at hx;split at hx
 .obtain rfl:=ac hx;trivial
 .cases e:dF v false t<;>rw[e]at hx
  .cases hx
  .obtain rfl:=ac hx;exact hv
theorem F3:∀{vs:List V},(∀v∈vs,dZ n h v)->dZ n h (eO vs):=by intro vs;induction vs with|nil=>intro _;trivial|cons v vs ih=>intro hv;exact⟨hv v (by simp),ih fun x hx=>hv x (by simp[hx])⟩
theorem LA{t:Ty}:∀{is:List Nat}{ps:List (Nat×Nat)}{ws:List V}{c c':V},dZ n h c->(∀v∈ws,dZ n h v)->I4 t is ps ws c=some c'->dZ n h c':=by
 intro is;induction is with
 |nil=>intro ps ws c c' hc _ hb;cases ps<;>cases ws<;>first|(cases hb;done)|(obtain rfl:=ac hb;exact hc)
 |cons i is ih=>
  intro ps ws c c' hc hw hb;cases ps<;>cases ws<;>first|(cases hb;done)|skip
  rename_i q ps w ws;obtain⟨off,m⟩:=q;have hw2:=fun v hv=>hw v (List.mem_cons_of_mem _ hv);have gM:∀{u:Ty}{e:Pe}{B:Bool},(match Jm u w with|some w=>(match pY c [e] w with|some c=>bif B then I4 t is ps ws c else none|none=>none)|none=>none)=some c'->True:=fun _=>trivial;cases t<;>first|(cases hb;done)|skip
  .rename_i u;change (match Ey u i with|some a=>_|none=>none)=_ at hb;split at hb<;>first|(cases hb;done)|skip
   rename_i a ha;cases e:(D6 u i==off&&df a==m)<;>rw[e]at hb
   .cases hb
   simp only[cond_true]at hb;split at hb<;>first|(cases hb;done)|skip
   rename_i w1 h1;split at hb<;>first|(cases hb;done)|skip
   rename_i c1 h2;cases e2:dF c1 false (.st u)<;>rw[e2]at hb
   .cases hb
   exact ih (zD hc (Cm (hw w (by simp)) h1) h2) hw2 hb
  .rename_i q u;change (bif(i*df u==off)&&(df u==m)&&decide (i<q)then _ else none)=_ at hb;cases e:((i*df u==off)&&(df u==m)&&decide (i<q))<;>rw[e]at hb
   .cases hb
   simp only[cond_true]at hb;split at hb<;>first|(cases hb;done)|skip
   rename_i w1 h1;split at hb<;>first|(cases hb;done)|skip
   rename_i c1 h2;cases e2:dF c1 false (.ar q u)<;>rw[e2]at hb
   .cases hb
   exact ih (zD hc (Cm (hw w (by simp)) h1) h2) hw2 hb
theorem F1:∀{t:Ty},dZ n h (Fy t).1/\dZ n h (Fy t).2:=by intro t;induction t with|pr a c iha ihc=>exact⟨trivial,iha.1,ihc.2⟩|st t ih=>simp only[Fy];cases kS t<;>simp[dZ,ih.2]|ar m t _=>simp only[Fy];cases kS t<;>simp[dZ]|sl t _=>simp only[Fy];cases kS t<;>simp[dZ]|_=>simp[Fy,dZ]
theorem HZ{v x:V}{l:List Nat}(hb:∀id t c,fO h id=some (.bx t c)->dZ n h c)(hx:zL h v=some (x,l)):dZ n h x:=by
 unfold zL at hx;split at hx
 .obtain ⟨rfl,rfl⟩:=ap (ac hx);trivial
 .split at hx<;>first|(cases hx;done)|skip
  .rename_i u c ho;cases e:decide (u=_)<;>rw[e]at hx
   .cases hx
   simp only[cond_true]at hx;split at hx<;>first|(cases hx;done)|skip
   rename_i y hy;obtain⟨rfl,rfl⟩:=ap (ac hx);exact C8 (hb _ _ _ ho) hy
  .rename_i u c ho;cases e:decide (u=_)<;>rw[e]at hx
   .cases hx
   simp only[cond_true]at hx;split at hx<;>first|(cases hx;done)|skip
   rename_i y hy;obtain⟨rfl,rfl⟩:=ap (ac hx);exact C8 (v:=.x _ _) trivial hy
 .split at hx<;>first|(cases hx;done)|skip
  all_goals
   rename_i u s v ho;cases e:decide (u=_)<;>rw[e]at hx
   .cases hx
   simp only[cond_true]at hx;split at hx<;>first|(cases hx;done)|skip
   rename_i y hy;obtain⟨rfl,rfl⟩:=ap (ac hx);exact C8 (v:=.x _ _) trivial hy
 .cases hx
theorem Tq{off m i:Nat}{v x:V}(hv:dZ n h v)(hx:Kx off m i v=some x):dZ n h x:=by
 unfold Kx at hx;split at hx
 .split at hx<;>first|(cases hx;done)|skip
  split at hx<;>first|(cases hx;done)|skip
  obtain rfl:=ac (aC hx).2;exact hv
 .split at hx<;>first|(cases hx;done)|skip
  split at hx<;>first|(cases hx;done)|skip
  obtain rfl:=ac (aC hx).2;exact hv
 .split at hx<;>first|(cases hx;done)|skip
  obtain rfl:=ac (aC hx).2;trivial
 .cases hx
theorem F4{v:V}{y:Value}(hv:oA v=some y):dZ n h v:=by unfold oA at hv;split at hv<;>first|trivial|cases hv
theorem Tm{kind:Nat}{v r:V}(hn:J9 h kind v=some r):dZ n h r:=by
 unfold J9 at hn;split at hn
 .obtain rfl:=ac (aC hn).2;trivial
 .obtain rfl:=ac (aC hn).2;trivial
 .obtain rfl:=ac (aC hn).2;trivial
 .obtain rfl:=ac (aC hn).2;trivial
 .obtain rfl:=ac (aC hn).2;trivial
 .have:=(aC hn).2;split at this
  .obtain rfl:=ac this;trivial
  .cases this
theorem Qc{z c:Bool}{op:BinOp}{k k':IntKind}{a b:Int}{v:V}(hb:RK z c op k k' a b=some v):dZ n h v:=by
 cases op<;>simp only[RK]at hb
 all_goals
  repeat'(first|(cases hb;done)|(obtain rfl:=ac hb;trivial)|replace hb:=(aC hb).2)
theorem Nu{op:BinOp}{k k':FloatKind}{a b:Nat}{v:V}(hb:Mo op k k' a b=some v):dZ n h v:=by obtain⟨_,_,e⟩:=I5 hb;exact F4 e
theorem Qb{op:BinOp}{a b:ByteArray}{v:V}(hb:XP op a b=some v):dZ n h v:=by obtain⟨_,_,e⟩:=Mn hb;exact F4 e
theorem WU{l x:V}{i:Nat}(hv:dZ n h (.rc l))(hx:wU l i=some x):dZ n h x:=Cl (l:=l) hv hx
theorem WT{l x:V}{i:Nat}(hv:dZ n h (.tp l))(hx:wU l i=some x):dZ n h x:=Cl (l:=l) hv hx
theorem Tn{b:Bool}{v:V}(hv:dZ n h v):dZ n h (bif b then Ql v else v):=by
 cases b
 .exact hv
 .unfold Ql;simp only[cond_true];split
  .trivial
  .trivial
  .exact hv
theorem St{op:OP}{vs:List V}{v:V}{l:List Nat}(hb:∀id t c,fO h id=some (.bx t c)->dZ n h c)(hv:∀v∈vs,dZ n h v)(ht:wB op vs h=some (v,l)):dZ n h v:=by
 unfold wB at ht;split at ht
 all_goals(repeat' split at ht)
 all_goals first
  |(cases ht;done)
  |(obtain⟨rfl,rfl⟩:=ap (ac ht);first|trivial|exact Qc (by assumption)|exact Nu (by assumption)|exact Qb (by assumption)|exact Tn (Tm (by assumption))|exact Tq (hv _ (aG ..)) (by assumption)|exact WT (hv _ (aG ..)) (by assumption)|exact hv _ (aG ..))
  |(obtain⟨rfl,rfl⟩:=ap (ac (aC ht).2);first|trivial|exact F3 hv|exact HZ hb (by assumption)|exact C9 (by assumption)|exact WU (hv _ (aG ..)) (by assumption)|exact LA F1.1 hv (by assumption))
  |(cases(aC ht).2;done)
  |(have:=(aC ht).2
    split at this
    .obtain ⟨rfl,rfl⟩:=ap (ac this);exact LA F1.1 hv (by assumption)
    .cases this)
  |(have:=(aC ht).2
    obtain⟨rfl,rfl⟩:=ap (ac this)
    first|trivial|(have h9:=hv _ aG;exact h9)|(cases‹Bool›<;>simp[dZ]))
end
def Bm(s:S2)(u:ri)(n':Nat):S2:=⟨s.gX,u++s.heap,n',u.map (·.1)++s.wo,s.gh⟩
def KV(P:Program)(o:Oper)(args:List Operand)(vs:List V)(s:S2)(v:V)(u:ri)(n':Nat)(l:List Nat):Prop:=
 s.next<=n'/\jS s.next s.heap u/\dZ n' (u++s.heap) v/\(∀p∈u,∀t c,p.2=some (.bx t c)->dZ n' (u++s.heap) c)/\(∀p∈u,X1 n' p)/\
 ∀(ρ:Operand->Value)(S K:Nat->Prop)(w0 w:World)(φ:fM)(H:Hf),(∀v,ρ (.const v)=v)->Inv S K w0 φ H w->uE φ s.heap->Ar S w φ ρ args vs->(∀i∈l,H i=fO s.heap i)->(∀j,s.next<=j->j<n'->φ j=none)->fL P o ρ S K w0 w φ H s.next n' v u
def PR(P:Program)(o:Oper)(args:List Operand)(vs:List V)(s:S2){β:Type}(k:V->S2->List Nat->Option β)(r:β):Prop:=∃v u n' l,k v (Bm s u n') l=some r/\KV P o args vs s v u n' l
def D1(P:Program)(o:Oper)(args:List Operand)(vs:List V)(s:S2){β:Type}(k:V->S2->List Nat->Option β)(r:β):Prop:=∃v,k v s []=some r/\KV P o args vs s v [] s.next []
section
variable{P:Program}{o:Oper}{vs:List V}{s:S2}{β:Type}{k:V->S2->List Nat->Option β}{r:β}{d:Option Nat}{as args:List Operand}{g:Option (Nat×Bool)}{t0:Ty}{fi:List Nat}
theorem PR.val{v:V}(hk:k v s []=some r)(hv:∀{n h},dZ n h v)(hrun:∀(ρ:Operand->Value)(S K:Nat->Prop)(w0 w:World)(φ:fM)(H:Hf),(∀v,ρ (.const v)=v)->Inv S K w0 φ H w->uE φ s.heap->Ar S w φ ρ args vs->fL P o ρ S K w0 w φ H s.next s.next v []):
  D1 P o args vs s k r:=
 ⟨v,hk,aq _,jS.nil,hv,fun p hp=>by simp at hp,fun p hp=>by simp at hp,fun ρ S K w0 w φ H h1 h2 h3 h4 _ _=>hrun ρ S K w0 w φ H h1 h2 h3 h4⟩
theorem PR.new{v:V}{x:O}{l:List Nat}(hk:k v (oH s x) l=some r)(hv:∀{h},dZ (s.next+1) h v)(hx:∀t c,x=.bx t c->dZ (s.next+1) ((s.next,some x)::s.heap) c)
  (hrun:∀(ρ:Operand->Value)(S K:Nat->Prop)(w0 w:World)(φ:fM)(H:Hf),(∀v,ρ (.const v)=v)->Inv S K w0 φ H w->uE φ s.heap->Ar S w φ ρ args vs->(∀i∈l,H i=fO s.heap i)->φ s.next=none->fL P o ρ S K w0 w φ H s.next (s.next+1) v [(s.next,some x)]) (hln:AT (s.next+1) (some x):=by trivial):PR P o args vs s k r:=
 ⟨v,[(s.next,some x)],s.next+1,l,hk,aO _,jS.cons (fun _ _=>.inl (aq _)) jS.nil,hv,fun p hp t c e=>by
  obtain rfl:=az.1 hp;exact hx t c (ac e),fun p hp=>by
  obtain rfl:=az.1 hp;exact .inl ⟨aM _,hln⟩,fun ρ S K w0 w φ H h1 h2 h3 h4 h5 h6=>hrun ρ S K w0 w φ H h1 h2 h3 h4 h5 (h6 _ (aq _) (aM _))⟩
theorem LU(x:O):xX s.next s.heap ((s.next,some x)::s.heap):=(jS.cons (u:=[]) (fun _ _=>.inl (aq _)) jS.nil).fe
theorem J0{t:TypeId}{z:List Value}(ho:o.op=.alloc t)(hz:gQ P t=some z)(h:part ⟨⟨d,.alloc z,as,g⟩,t0,fi⟩ vs s k=some r):PR P o args vs s k r:=by
 match vs,h with|[],h=>obtain⟨e,h⟩:=aC (show(bif tq (xo t0) z&&dF (K4 t0) false t0 then k (.op s.next t0 []) (oH s (.bx t0 (K4 t0))) []else none)=some r from h);exact PR.new h (aM _) (fun t c e=>by cases e;exact F1.1) fun ρ S K w0 w φ H _ hI _ _ _ hn=>P9 ho hz hI hn e
theorem PY{t:TypeId}{x:Operand}(ho:o.op=.box t x)(hv:∀v∈vs,dZ s.next s.heap v)(h:part ⟨⟨d,.box,as,g⟩,t0,fi⟩ vs s k=some r):PR P o [x] vs s k r:=by
 match vs,h,hv with
 |[v],h,hv=>
  change (match Jm t0 v with|some w=>k (.op s.next t0 []) (oH s (.bx t0 w)) []|none=>none)=_ at h;split at h<;>first|(cases h;done)|skip
  rename_i c hc;exact PR.new h (aM _) (fun t c' e=>by cases e;exact dQ (aO _) (LU _) (Cm (hv v (by simp)) hc)) fun ρ S K w0 w φ H _ hI _ hr _ hn=>WR ho hI hn hr.1 hc
theorem C5{t el:TypeId}{m:Nat}{lo co:Operand}{z:List Value}(ho:o.op=.makeSlice t lo co)(hu:P.underlying t=some (.slice el))(hs:dG P el=some (m+1))(hz:gQ P el=some z)(hzl:z.length=m+1)(hb:pK P el=true)
  (h:part ⟨⟨d,.makeSlice z,as,g⟩,t0,fi⟩ vs s k=some r):PR P o [lo,co] vs s k r:=by
 match vs,h with|[.x (.i q1) a,.x (.i q2) b],h=>obtain⟨e,h⟩:=aC (show(bif tq (xo t0) z&&Bv t0 then(yT (pV t0) a b).bind fun r=>k (.so s.next) (oH s (.ar t0 (.mk r) 0)) []else none)=some r from h);obtain⟨rr,h1,h⟩:=tn h;exact PR.new h (aM _) (fun t c e=>by cases e) fun ρ S K w0 w φ H _ hI _ hr _ hn=>FW ho hu hs hz hzl hb hI hn (R1.int hr.1) (R1.int hr.2.1) e h1
theorem JW{t el:TypeId}{m szi:Nat}{lo co:Operand}{z:List Value}(ho:o.op=.makeSlice t lo co)(hu:P.underlying t=some (.slice el))(hs:dG P el=some (m+1))(hz:gQ P el=some z)(hzl:z.length=m+1)(hb:pK P el=true)(hz1:Dp z=true)
  (h:part ⟨⟨d,.Qt szi,as,g⟩,t0,fi⟩ vs s k=some r):PR P o [lo,co] vs s k r:=by
 match vs,h with
 |[.x (.i q1) a,.x (.i q2) b],h=>
  cases t0<;>first|(cases h;done)|skip
  rename_i t0 _;obtain⟨e,h⟩:=aC (show(bif(df t0==szi)&&Bv t0 then(yT (Sl.nil:Sl (El t0)) a b).bind fun r=>k (.sr s.next) (oH s (.rw t0 (.mk r) none)) []else none)=some r from h);obtain⟨rr,h1,h⟩:=tn h;simp only[aw]at e;exact PR.new h (aM _) (fun t c e=>by cases e) fun ρ S K w0 w φ H _ hI _ hr _ hn=>P3 ho hu hs hz hzl hb hz1 hI hn (R1.int hr.1) (R1.int hr.2.1) e.2 h1
theorem FT{t kt et:TypeId}{ka va:Bool}(ho:o.op=.makeMap t none)(h:part ⟨⟨d,.makeMap ka va,as,g⟩,t0,fi⟩ vs s k=some r):PR P o args vs s k r:=by
 match vs,h with
 |[],h=>
  cases t0<;>first|(cases h;done)|skip
  rename_i kT vT _;obtain⟨e,h⟩:=aC (show(bif(iD kT==ka)&&(iD vT==va)&&kS vT&&(AV kT).isSome then k (.om s.next) (oH s (.mp kT vT Mp.none)) []else none)=some r from h);simp only[aw]at e;exact PR.new h (aM _) (fun t c e=>by cases e) fun ρ S K w0 w φ H _ hI _ _ _ hn=>J3 (kt:=kt) (et:=et) ho hI hn e.1.2 e.2
end
section
variable{P:Program}{o:Oper}{vs:List V}{s:S2}{β:Type}{k:V->S2->List Nat->Option β}{r:β}{d:Option Nat}{as args:List Operand}{g:Option (Nat×Bool)}{t0:Ty}{fi:List Nat}
theorem wR{t ty:TypeId}{b:BinOp}{x y:Operand}(ho:o.op=.binOp b t x y ty){v1 v2 v:V}{a c e:Value}(hk:k v s []=some r)(e1:oA v1=some a)(e2:oA v2=some c)(hr:tH b a c=some e)(e3:oA v=some e):D1 P o [x,y] [v1,v2] s k r:=PR.val hk (F4 e3) fun ρ S K w0 w φ H _ hI _ har=>P8 ho hI har.1 har.2.1 e1 e2 (by simp[uC,hr]) e3
theorem PZ{t ty:TypeId}{b:BinOp}{x y:Operand}(ho:o.op=.binOp b t x y ty)(h:part ⟨⟨d,.Gv b,as,g⟩,t0,fi⟩ vs s k=some r):D1 P o [x,y] vs s k r:=by
 cases b<;>first|(cases h;done)|skip
 .match vs,h with
  |[.x .s a,.x .s c],h=>
   obtain⟨z,hz,h⟩:=tn (show(XI a c).bind (fun x=>k (.x .s x) s [])=some r from h);unfold XI at hz;split at hz
   .cases hz
   .rename_i hc;obtain rfl:=ac hz;exact wR ho h rfl rfl (by simp only[tH];rw[if_neg hc]) rfl
 .match vs,h with
  |[.x (.i q) a,.x (.i q') c],h=>
   obtain⟨e,h⟩:=aC (show(bif decide (q=q')then(Xw q a c).bind (fun x=>k (.x (.i q) x) s [])else none)=some r from h);obtain⟨z,hz,h⟩:=tn h;unfold Xw at hz;split at hz
   .cases hz
   .rename_i hc;obtain rfl:=ac hz;exact wR ho h rfl rfl (by simp only[tH];rw[if_pos (by simpa using e),if_neg hc]) rfl
 .match vs,h with
  |[.x (.i q) a,.x (.i q') c],h=>
   obtain⟨e,h⟩:=aC (show(bif decide (q=q')then(PJ q a c).bind (fun x=>k (.x (.i q) x) s [])else none)=some r from h);obtain⟨z,hz,h⟩:=tn h;unfold PJ at hz;split at hz
   .cases hz
   .rename_i hc;obtain rfl:=ac hz;exact wR ho h rfl rfl (by simp only[tH];rw[if_pos (by simpa using e),if_neg hc]) rfl
 .match vs,h with
  |[.x (.i q) a,.x (.i q') c],h=>
   obtain⟨z,hz,h⟩:=tn (show(AF q a c).bind (fun x=>k (.x (.i q) x) s [])=some r from h);unfold AF at hz;split at hz
   .cases hz
   .rename_i hc;obtain rfl:=ac hz;exact wR ho h rfl rfl (by simp only[tH];rw[if_neg hc];rfl) rfl
 .match vs,h with
  |[.x (.i q) a,.x (.i q') c],h=>
   obtain⟨z,hz,h⟩:=tn (show(AB q a c).bind (fun x=>k (.x (.i q) x) s [])=some r from h);unfold AB at hz;split at hz
   .cases hz
   .rename_i hc;obtain rfl:=ac hz;exact wR ho h rfl rfl (by simp only[tH];rw[if_neg hc];rfl) rfl
theorem Rp{u t:Ty}{s0:Sl (El u)}{r:Sl (El t)}{lo a b:Nat}{y:List (El t)}(h:IS u t s0 lo r)(hy:y=(r.l.drop a).take b)(hb:a+b<=r.l.length):IS u t s0 (lo+a) (r.to y):=by
 rcases h with⟨h1,rfl⟩|⟨q,m,h1,rfl,h3⟩
 .exact .inl ⟨h1,rfl⟩
 .refine .inr ⟨q,b,h1,?_,?_⟩
  .simp only[Sl.to,hy,Sl.l];congr 1;simp only[Sl.l,bV,gT]at hb;rw[List.drop_take,List.drop_drop,List.take_take,Nat.min_eq_left (by omega)]
  .simp only[Sl.l,bV,gT]at hb;omega
theorem IR{t:Ty}(s0:Sl (El t)):IS t t s0 0 s0:=by cases s0 with|nil=>exact .inl ⟨rfl,rfl⟩|mk q=>exact .inr ⟨q,q.length,rfl,by simp,by simp⟩
variable{t el:TypeId}{sz:Nat}{x:Operand}{lo hi:Option Operand}{a b:Option Int}
theorem Gi{v:V}{nn:Nat}(ho:o.op=.slice t x lo hi none)(hu:P.underlying t=some (.slice el))(hsz:dG P el=some sz)(hok:dZ s.next s.heap v)(hal:oN s.heap v=true)(hn:NK s.heap v=some (nn:Int))
  (hB:∀(ρ:Operand->Value)(S:Nat->Prop)(w:World)(φ:fM),Ar S w φ ρ args vs->RW S w φ v (ρ x)/\Jp ρ lo a/\Jp ρ hi b) (h:N7 sz s.heap v (a.getD 0) (b.getD nn) (fun v=>k v s [])=some r):D1 P o args vs s k r:=by
 have yH:∀{id:Nat}{l0 ver:Nat}{tt:Ty}{rr:Sl (El tt)}{y:List (El tt)},dZ s.next s.heap (.sb id ver l0 tt rr)->(∀(S:Nat->Prop)(w:World)(φ:fM){xv:Value},uE φ s.heap->RW S w φ v xv->∃l1,φ id=some l1/\l1.t=tt/\inN l1 l0 (kx rr)/\yH l1 l0 (kx rr) [xv])->df tt=sz->nn=rr.l.length->
   nD rr.l (a.getD 0) (b.getD nn)=some y->k (.sb id ver (l0+(a.getD 0).toNat) tt (rr.to y)) s []=some r->D1 P o args vs s k r:=by
  intro id l0 ver tt rr y hok2 hloc hs hnn hc hk;obtain⟨c1,c2,c3,c4,c5⟩:=z6 hc;refine⟨_,hk,aq _,jS.nil,⟨hok2.1,fun e=>hok2.2.1 (by cases rr<;>first|rfl|cases e),fun u0 s0 v0 hv0=>?_⟩,fun p hp=>by simp at hp,fun p hp=>by simp at hp,fun ρ S K w0 w φ H _ hI hsh har _ _=>?_⟩
  .obtain ⟨q1,q2⟩:=hok2.2.2 u0 s0 v0 hv0;exact⟨q1,fun e=>Rp (q2 e) c4 (by omega)⟩
  .obtain ⟨h1,h2,h3⟩:=hB ρ S w φ har;obtain⟨l1,k1,k2,k3,k4⟩:=hloc S w φ hsh h1;cases rr with
   |nil=>have e1:nn=0:=hnn;subst e1;have hx:ρ x=.slice none 0 0:=(aB k4).1;have run:=Gh (P:=P) (w:=w) (y:=[]) ho hu hsz h2 h3 hx (by rw[u5];refine⟨⟨c1,c2,by simpa[Sl.l]using c3⟩,by simp⟩);exact fL.pure hI run (R1.wC (v:=.sb id ver _ tt Sl.nil) ⟨l1,k1,k2,trivial,rfl⟩ rfl).rw
   |mk q=>
    have e1:nn=q.length:=hnn;subst e1;obtain⟨val,run,k5⟩:=Uz (P:=P) (w:=w) (a:=a) (b:=b) ho hu (by rw[k2,hs];exact hsz) h2 h3 k4 c1 c2 c3;obtain⟨m,m1,m2⟩:=k3;refine fL.pure hI run (R1.wC (v:=.sb id ver _ tt (.mk y)) ⟨l1,k1,k2,⟨m,m1,?_⟩,?_⟩ rfl).rw
    .rw [c5];have:(Sl.mk q:Sl (El tt)).l.length=q.length:=rfl;omega
    .show yH l1 _ (some y.length) [val];rw[c5];exact k5
 unfold N7 at h;split at h
 .rename_i u v0;obtain⟨e,h⟩:=aC h;obtain⟨y,hy,hk⟩:=tn h;simp only[beq_iff_eq]at e;have hnn:nn=v0.l.length:=by have:some ((v0.l.length:Nat):Int)=some (nn:Int):=hn;have:=ac this;omega
  subst hnn;refine PR.val hk trivial fun ρ S K w0 w φ H _ hI hsh har=>?_;obtain⟨h1,h2,h3⟩:=hB ρ S w φ har;cases v0 with|nil=>obtain⟨c1,c2,c3,_⟩:=z6 hy;have run:=Gh (P:=P) (w:=w) (y:=[]) ho hu hsz h2 h3 (aB (R1.fT h1)).1 (by rw[u5];exact⟨⟨c1,c2,by simpa[Sl.l]using c3⟩,by simp⟩);exact fL.pure hI run (R1.wC (v:=.x (.sl u) (Sl.nil:Sl (El u))) rfl rfl).rw|mk q=>obtain⟨val,run,k5⟩:=Xy (P:=P) (w:=w) (S:=S) (u:=u) ho hu (by rw[e];exact hsz) h2 h3 (R1.fT h1) hy;exact fL.pure hI run (R1.wC (v:=.x (.sl u) (.mk y:Sl (El u))) k5 rfl).rw
 .rename_i id;simp only[oN]at hal
  have key:∀{u:Ty}{v0:Sl (El u)}{ver:Nat},(fO s.heap id=some (.ar u v0 ver)\/fO s.heap id=some (.im u v0 ver))->(bif df u==sz then(nD v0.l (a.getD 0) (b.getD nn)).bind fun y=>k (.sb id ver (a.getD 0).toNat u (v0.to y)) s []else none)=some r->D1 P o args vs s k r:=by
   intro u v0 ver hob h;obtain⟨e,h⟩:=aC h;obtain⟨y,hy,hk⟩:=tn h;simp only[beq_iff_eq]at e
   have hnn:nn=v0.l.length:=by
    have:NK s.heap (.so id)=some (v0.l.length:Int):=by rcases hob with hob|hob<;>simp[NK,G1,hob]
    rw[hn]at this;have:=ac this;omega
   refine yH (l0:=0) (ver:=ver) (rr:=v0) ⟨hok,fun e o ho=>?_,fun u0 s0 v1 hv1=>?_⟩ (fun S w φ xv hsh hx=>?_) e hnn hy (by rw[cT];exact hk)
   .rcases hob with hob|hob<;>(rw[hob]at ho;cases ho;exact e)
   .have:∃e:u0=u,(e▸s0)=v0/\v1=ver:=by rcases hob with hob|hob<;>rcases hv1 with hv1|hv1<;>rw[hob]at hv1<;>cases hv1<;>exact⟨rfl,rfl,rfl⟩
    obtain⟨rfl,rfl,rfl⟩:=this;exact⟨aq _,fun _=>IR _⟩
   .obtain ⟨l1,k1,k2⟩:=R1.fT hx;have hs:l1.t=u/\l1.n=kx v0:=by rcases hob with hob|hob<;>exact hsh id l1 _ k1 hob
    refine⟨l1,k1,hs.1,?_,by rw[<-hs.2];exact k2⟩;cases v0 with|nil=>trivial|mk q=>exact⟨q.length,hs.2,by simp⟩
  split at h
  .rename_i hob;exact key (.inl hob) h
  .rename_i hob;exact key (.inr hob) h
  .cases h
 .rename_i id ver l0 u v0;obtain⟨e,h⟩:=aC h;obtain⟨y,hy,hk⟩:=tn h;simp only[beq_iff_eq]at e;have hnn:nn=v0.l.length:=by have:some ((v0.l.length:Nat):Int)=some (nn:Int):=hn;have:=ac this;omega
  exact yH hok (fun S w φ xv hsh hx=>R1.fT hx) e hnn hy hk
 .obtain ⟨y,hy,hk⟩:=tn h;have hnn:nn=0:=by have:some (0:Int)=some (nn:Int):=hn;have:=ac this;omega
  subst hnn;refine PR.val hk trivial fun ρ S K w0 w φ H _ hI hsh har=>?_;obtain⟨h1,h2,h3⟩:=hB ρ S w φ har;exact fL.pure hI (Gh ho hu hsz h2 h3 (aB (R1.fT h1)).1 hy) (R1.wC (v:=.nl 0) rfl rfl).rw
 .cases h
end
section
variable{P:Program}{o:Oper}{vs:List V}{s:S2}{β:Type}{k:V->S2->List Nat->Option β}{r:β}{d:Option Nat}{as args:List Operand}{g:Option (Nat×Bool)}{t0:Ty}{fi:List Nat}{t el:TypeId}{sz:Nat}{x:Operand}{lo hi:Option Operand}
theorem zO{h:H2}{v:V}{n:Int}(hn:NK h v=some n):∃m:Nat,n=m:=by
 unfold NK at hn;split at hn
 .exact ⟨0,(ac hn).symm⟩
 .split at hn
  .exact ⟨_,(ac hn).symm⟩
  .cases hn
theorem JU(ho:o.op=.slice t x lo hi none)(hu:P.underlying t=some (.slice el))(hsz:dG P el=some sz)(hok:∀v∈vs,dZ s.next s.heap v)(hal:∀v∈vs,oN s.heap v=true)(hl:(x::lo.toList++hi.toList).length=vs.length)
  (h:part ⟨⟨d,.slice false sz lo.isSome hi.isSome,as,g⟩,t0,fi⟩ vs s k=some r):D1 P o (x::lo.toList++hi.toList) vs s k r:=by
 cases lo with
 |none=>
  cases hi with
  |none=>
   match vs,h,hl with
   |[v],h,_=>
    simp only[part,nX,oO,lr]at h;split at h<;>first|(cases h;done)|(exact absurd (by assumption:false=true) (by simp))|(exact absurd (by assumption:true=false) (by simp))|skip
    rename_i e1 hn;obtain⟨m,rfl⟩:=zO hn;cases e1;exact Gi (a:=none) (b:=none) ho hu hsz (hok v (by simp)) (hal v (by simp)) hn (fun ρ S w φ har=>⟨har.1,trivial,trivial⟩) h
  |some z=>
   match vs,h,hl with
   |[v,.x (.i q) c],h,_=>
    simp only[part,nX,oO,lr]at h;split at h<;>first|(cases h;done)|(exact absurd (by assumption:false=true) (by simp))|(exact absurd (by assumption:true=false) (by simp))|skip
    rename_i e1 hn;obtain⟨m,rfl⟩:=zO hn;cases e1;exact Gi (a:=none) (b:=some c) ho hu hsz (hok v (by simp)) (hal v (by simp)) hn (fun ρ S w φ har=>⟨har.1,trivial,⟨q,R1.int har.2.1⟩⟩) h
 |some y=>
  cases hi with
  |none=>
   match vs,h,hl with
   |[v,.x (.i q) c],h,_=>
    simp only[part,nX,oO,lr]at h;split at h<;>first|(cases h;done)|(exact absurd (by assumption:false=true) (by simp))|(exact absurd (by assumption:true=false) (by simp))|skip
    rename_i e1 hn;obtain⟨m,rfl⟩:=zO hn;cases e1;exact Gi (a:=some c) (b:=none) ho hu hsz (hok v (by simp)) (hal v (by simp)) hn (fun ρ S w φ har=>⟨har.1,⟨q,R1.int har.2.1⟩,trivial⟩) h
  |some z=>
   match vs,h,hl with
   |[v,.x (.i q) c,.x (.i q2) e],h,_=>
    simp only[part,nX,oO,lr]at h;split at h<;>first|(cases h;done)|(exact absurd (by assumption:false=true) (by simp))|(exact absurd (by assumption:true=false) (by simp))|skip
    rename_i e1 hn;obtain⟨m,rfl⟩:=zO hn;cases e1;exact Gi (a:=some c) (b:=some e) ho hu hsz (hok v (by simp)) (hal v (by simp)) hn (fun ρ S w φ har=>⟨har.1,⟨q,R1.int har.2.1⟩,⟨q2,R1.int har.2.2.1⟩⟩) h
theorem FH{a b:Option Int}{z y:ByteArray}{vr:List V}(ho:o.op=.slice t x lo hi none)(hu:P.underlying t=some .string)(hB:∀(ρ:Operand->Value)(S:Nat->Prop)(w:World)(φ:fM),Ar S w φ ρ args (.x .s z::vr)->RW S w φ (.x .s z) (ρ x)/\Jp ρ lo a/\Jp ρ hi b)
  (hc:CG z (a.getD 0) (b.getD z.size)=some y) (hk:k (.x .s y) s []=some r):D1 P o args (.x .s z::vr) s k r:=
 PR.val hk trivial fun ρ S K w0 w φ H _ hI _ har=>by obtain⟨h1,h2,h3⟩:=hB ρ S w φ har;exact fL.pure hI (Uy ho hu h2 h3 (rM (v:=.x .s z) rfl h1) hc) (R1.wC (v:=.x .s y) rfl rfl).rw
theorem Hz(ho:o.op=.slice t x lo hi none)(hu:P.underlying t=some .string)(hl:(x::lo.toList++hi.toList).length=vs.length)(h:part ⟨⟨d,.slice true 1 lo.isSome hi.isSome,as,g⟩,t0,fi⟩ vs s k=some r):D1 P o (x::lo.toList++hi.toList) vs s k r:=by
 cases lo with
 |none=>
  cases hi with
  |none=>match vs,h,hl with|[.x .s z],h,_=>obtain⟨y,hy,hk⟩:=tn (show(CG z 0 z.size).bind (fun y=>k (.x .s y) s [])=some r from h);exact FH (a:=none) (b:=none) ho hu (fun ρ S w φ har=>⟨har.1,trivial,trivial⟩) hy hk
  |some z2=>match vs,h,hl with|[.x .s z,.x (.i q) c],h,_=>obtain⟨y,hy,hk⟩:=tn (show(CG z 0 c).bind (fun y=>k (.x .s y) s [])=some r from h);exact FH (a:=none) (b:=some c) ho hu (fun ρ S w φ har=>⟨har.1,trivial,⟨q,R1.int har.2.1⟩⟩) hy hk
 |some y2=>
  cases hi with
  |none=>match vs,h,hl with|[.x .s z,.x (.i q) c],h,_=>obtain⟨y,hy,hk⟩:=tn (show(CG z c z.size).bind (fun y=>k (.x .s y) s [])=some r from h);exact FH (a:=some c) (b:=none) ho hu (fun ρ S w φ har=>⟨har.1,⟨q,R1.int har.2.1⟩,trivial⟩) hy hk
  |some z2=>match vs,h,hl with|[.x .s z,.x (.i q) c,.x (.i q2) e],h,_=>obtain⟨y,hy,hk⟩:=tn (show(CG z c e).bind (fun y=>k (.x .s y) s [])=some r from h);exact FH (a:=some c) (b:=some e) ho hu (fun ρ S w φ har=>⟨har.1,⟨q,R1.int har.2.1⟩,⟨q2,R1.int har.2.2.1⟩⟩) hy hk
theorem Ep{y:Operand}(ho:o.op=.index t x y)(hu:P.underlying t=some .string)(h:part ⟨⟨d,.zS,as,g⟩,t0,fi⟩ vs s k=some r):D1 P o [x,y] vs s k r:=by
 match vs,h with|[.x .s z,.x (.i q) i],h=>obtain⟨c,hc,hk⟩:=tn (show(atS z i).bind (fun c=>k (.x (.i .u8) c) s [])=some r from h);exact PR.val hk trivial fun ρ S K w0 w φ H _ hI _ har=>fL.pure hI (KC ho hu (R1.int har.2.1) (rM (v:=.x .s z) rfl har.1) hc) (R1.wC (v:=.x (.i .u8) c) rfl rfl).rw
theorem JY{y:Operand}{agg:Bool}{len m:Nat}(ho:o.op=.index t x y)(hu:P.underlying t=some (.array len el))(ha:eN P el=some agg)(hs:dG P el=some m)(h:part ⟨⟨d,.index agg len m,as,g⟩,t0,fi⟩ vs s k=some r):D1 P o [x,y] vs s k r:=by
 match vs,h with|[.x (.ar n' u) v,.x (.i q) i],h=>obtain⟨e,h⟩:=aC (show(bif(n'==len)&&(df u==m)&&(iD u==agg)&&kS u&&(agg||m==1)then(cD i len).bind (fun j=>k (.x u (gt v.1 j)) s [])else none)=some r from h);obtain⟨j,hj,hk⟩:=tn h;simp only[aw,Bool.or_eq_true,beq_iff_eq]at e;obtain⟨⟨⟨⟨rfl,e2⟩,e3⟩,_⟩,e5⟩:=e;exact PR.val hk trivial fun ρ S K w0 w φ H _ hI _ har=>P5 ho hu ha hs hI (R1.int har.2.1) har.1 e2 e3 (fun e=>e5.resolve_left (by simp[e])) hj
end
section
variable{P:Program}{o:Oper}{vs:List V}{s:S2}{β:Type}{k:V->S2->List Nat->Option β}{r:β}{d:Option Nat}{as args:List Operand}{g:Option (Nat×Bool)}{t0:Ty}{fi:List Nat}{t el:TypeId}{sz:Nat}{x y:Operand}
theorem PR.MC{v:V}(hk:k v s []=some r)(hv:dZ s.next s.heap v)(hrun:∀(ρ:Operand->Value)(S K:Nat->Prop)(w0 w:World)(φ:fM)(H:Hf),(∀v,ρ (.const v)=v)->Inv S K w0 φ H w->uE φ s.heap->Ar S w φ ρ args vs->fL P o ρ S K w0 w φ H s.next s.next v []):
  D1 P o args vs s k r:=
 ⟨v,hk,aq _,jS.nil,hv,fun p hp=>by simp at hp,fun p hp=>by simp at hp,fun ρ S K w0 w φ H h1 h2 h3 h4 _ _=>hrun ρ S K w0 w φ H h1 h2 h3 h4⟩
theorem abn{u:Ty}{v:Sl (El u)}{q:IntKind}{i:Int}(ho:o.op=.indexAddr t x y)(hu:P.underlying t=some (.slice el))(hsz:dG P el=some sz)
  (h:part ⟨⟨d,.indexAddr none sz,as,g⟩,t0,fi⟩ [.x (.sl u) v,.x (.i q) i] s k=some r):D1 P o [x,y] [.x (.sl u) v,.x (.i q) i] s k r:=by
 obtain⟨e,h⟩:=aC (show(bif df u==sz then(cD i v.l.length).bind (fun m=>k (.pt u (gt v.l m)) s [])else none)=some r from h);obtain⟨m,hm,hk⟩:=tn h;obtain rfl:=eq_of_beq e;exact PR.MC hk trivial fun ρ S K w0 w φ H _ hI _ har=>by obtain⟨bb,off,len,cap,e1,h0,h1,rfl,h3⟩:=abm (show RT S w (.sl u) v [ρ x]from(R1.fT har.1)) hm;exact fL.pure hI (zW ho hu hsz (R1.int har.2.1) e1 h0 h1) h3
theorem J8{α:Type}{v:Sl α}{i:Int}{m:Nat}(hm:cD i v.l.length=some m):v.nw=false:=by cases v with|nil=>exact absurd (rV hm).2.2.2 (by simp[Sl.l])|mk r=>rfl
theorem Xi{id n lo:Nat}{u:Ty}{v:Sl (El u)}{q:IntKind}{i:Int}(ho:o.op=.indexAddr t x y)(hu:P.underlying t=some (.slice el))(hsz:dG P el=some sz)(hok:dZ s.next s.heap (.sb id n lo u v))
  (h:part ⟨⟨d,.indexAddr none sz,as,g⟩,t0,fi⟩ [.sb id n lo u v,.x (.i q) i] s k=some r):D1 P o [x,y] [.sb id n lo u v,.x (.i q) i] s k r:=by
 obtain⟨e,h⟩:=aC (show(bif df u==sz then(cD i v.l.length).bind (fun m=>k (.ep id (lo+m) u []) s [])else none)=some r from h);obtain⟨m,hm,hk⟩:=tn h;obtain rfl:=eq_of_beq e;have hn:v.nw=false:=J8 hm;exact PR.MC hk ⟨hok.1,hok.2.1 hn⟩ fun ρ S K w0 w φ H _ hI _ har=>by obtain⟨l1,k1,rfl,k3,k4⟩:=R1.fT (v:=.sb id n lo u v) har.1;cases v with|nil=>exact absurd (rV hm).2.2.2 (by simp[Sl.l])|mk rr=>obtain⟨bb,off,len,cap,e1,h0,h1,rfl,h3⟩:=QM k1 k4 k3 hm;exact fL.pure hI (zW ho hu hsz (R1.int har.2.1) e1 h0 h1) h3
theorem VI{id m0:Nat}{u:Ty}{v:V}{q:IntKind}{i:Int}{m:Nat}(ho:o.op=.indexAddr t x y)(hu:P.underlying t=some (.slice el))(hsz:dG P el=some (df u))(hid:id<s.next)(hno:∀o,fO s.heap id=some o->TC o)(hv:v=.so id\/v=.sr id)
  (hs:∀φ l,uE φ s.heap->φ id=some l->l.t=u/\l.n=some m0) (hm:cD i m0=some m) (hk:k (.ep id m u []) s []=some r):D1 P o [x,y] [v,.x (.i q) i] s k r:=
 PR.MC hk ⟨hid,hno⟩ fun ρ S K w0 w φ H _ hI hp har=>by
  have h1:∃l,φ id=some l/\yH l 0 l.n [ρ x]:=by
   rcases hv with rfl|rfl
   .exact R1.fT (v:=.so id) har.1
   .exact R1.fT (v:=.sr id) har.1
  obtain⟨l1,k1,k4⟩:=h1;obtain⟨rfl,k5⟩:=hs φ l1 hp k1;rw[k5]at k4;obtain⟨bb,off,len,cap,e1,h0,h1,rfl,h3⟩:=QM k1 k4 ⟨m0,k5,by omega⟩ hm;rw[cT]at h3;exact fL.pure hI (zW ho hu hsz (R1.int har.2.1) e1 h0 h1) h3
theorem LN{α:Type}{v:Sl α}{i:Int}{m:Nat}(hm:cD i v.l.length=some m):kx v=some v.l.length:=by cases v with|nil=>exact absurd (rV hm).2.2.2 (by simp[Sl.l])|mk r=>rfl
theorem TU{a:V}{q:IntKind}{i:Int}(ho:o.op=.indexAddr t x y)(hu:P.underlying t=some (.slice el))(hsz:dG P el=some sz)(hok:∀v∈[a,.x (.i q) i],dZ s.next s.heap v)
  (h:part ⟨⟨d,.indexAddr none sz,as,g⟩,t0,fi⟩ [a,.x (.i q) i] s k=some r):D1 P o [x,y] [a,.x (.i q) i] s k r:=by
 cases a<;>first|(cases h;done)|skip
 case x ta v=>
  cases ta<;>first|(cases h;done)|skip
  exact abn ho hu hsz h
 case sb id n lo u v=>exact Xi ho hu hsz (hok _ (by simp)) h
 case so id=>
  change (match G1 s.heap (.so id)with|some ⟨t,v,_⟩=>bif df t==sz then(cD i v.l.length).bind fun m=>k (.ep id m t []) s []else none|none=>none)=_ at h;split at h<;>first|(cases h;done)|skip
  rename_i u v l hv;obtain⟨e,h⟩:=aC h;obtain⟨m,hm,hk⟩:=tn h;obtain rfl:=eq_of_beq e;simp only[G1]at hv;split at hv<;>first|(cases hv;done)|skip
  all_goals
   rename_i o' ho';refine VI ho hu hsz (hok (.so id) (by simp)) (fun o ho=>by rw[ho']at ho;cases ho;cases hv;exact J8 hm) (.inl rfl) (fun φ l1 hp h1=>?_) hm hk;obtain⟨e1,e2⟩:=hp id l1 _ h1 ho';cases hv;exact⟨e1,e2.trans (LN hm)⟩
 case sr id=>
  change (match fO s.heap id with|some (.rw t v _)=>bif 1==sz then(cD i v.l.length).bind fun m=>k (.ep id m (.sl t) []) s []else none|_=>none)=_ at h;split at h<;>first|(cases h;done)|skip
  rename_i u v l hv;obtain⟨e,h⟩:=aC h;obtain⟨m,hm,hk⟩:=tn h;obtain rfl:=eq_of_beq e;refine VI (u:=.sl u) ho hu hsz (hok (.sr id) (by simp)) (fun o ho=>by rw[hv]at ho;cases ho;exact J8 hm) (.inr rfl) (fun φ l1 hp h1=>?_) hm hk;obtain⟨e1,e2⟩:=hp id l1 _ h1 hv;exact⟨e1,e2.trans (LN hm)⟩
theorem C6(ho:o.op=.indexAddr t x y)(hu:P.underlying t=some (.slice el))(hsz:dG P el=some sz)(hok:∀v∈vs,dZ s.next s.heap v)
  (h:part ⟨⟨d,.indexAddr none sz,as,g⟩,t0,fi⟩ vs s k=some r):D1 P o [x,y] vs s k r:=by
 rcases vs with _|⟨a,_|⟨b,_|⟨c,vr⟩⟩⟩
 case cons.cons.nil=>
  cases b<;>first|(cases h;done)|skip
  rename_i tb i;cases tb<;>first|(cases h;done)|skip
  rename_i q;exact TU ho hu hsz hok h
 case cons.cons.cons=>
  cases b<;>first|(cases h;done)|skip
  rename_i tb i;cases tb<;>cases h
 all_goals cases h
end
section
variable{P:Program}{o:Oper}{vs:List V}{s:S2}{β:Type}{k:V->S2->List Nat->Option β}{r:β}{d:Option Nat}{as args:List Operand}{g:Option (Nat×Bool)}{t0:Ty}{fi:List Nat}{t el:TypeId}{sz n:Nat}{x y:Operand}
theorem Xg{id:Nat}{t1:Ty}{p:rI}{q:IntKind}{i:Int}(ho:o.op=.indexAddr t x y)(hu:P.underlying t=some (.array n el))(hsz:dG P el=some sz)(hok:dZ s.next s.heap (.op id t1 p))
  (h:part ⟨⟨d,.indexAddr (some n) sz,as,g⟩,t0,fi⟩ [.op id t1 p,.x (.i q) i] s k=some r):D1 P o [x,y] [.op id t1 p,.x (.i q) i] s k r:=by
 change (match zb t1 p with|some (.ar n' u)=>bif(n'==n)&&(df u==sz)then(cD i n).bind fun m=>k (.op id t1 (p++[(.ix m:Pe)])) s []else none|_=>none)=_ at h;split at h<;>first|(cases h;done)|skip
 rename_i n' u hp;obtain⟨e,h⟩:=aC h;obtain⟨m,hm,hk⟩:=tn h;simp only[aw,beq_iff_eq]at e;obtain⟨rfl,rfl⟩:=e;exact PR.MC hk hok fun ρ S K w0 w φ H _ hI _ har=>by obtain⟨l1,k1,k2,k3,e1⟩:=R1.fT (v:=.op id t1 p) har.1;obtain⟨h0,h1,rfl,h2⟩:=rV hm;obtain⟨q1,q2⟩:=Qd k3 hp (k:=i.toNat) (by omega);exact fL.pure hI (DC ho hu hsz (R1.int har.2.1) (aB e1).1 h0 h1) (R1.wC (v:=.op id t1 _) ⟨l1,k1,k2,q1,by rw[q2]⟩ rfl).rw
theorem Xh{id j:Nat}{t1:Ty}{p:rI}{q:IntKind}{i:Int}(ho:o.op=.indexAddr t x y)(hu:P.underlying t=some (.array n el))(hsz:dG P el=some sz)(hok:dZ s.next s.heap (.ep id j t1 p))
  (h:part ⟨⟨d,.indexAddr (some n) sz,as,g⟩,t0,fi⟩ [.ep id j t1 p,.x (.i q) i] s k=some r):D1 P o [x,y] [.ep id j t1 p,.x (.i q) i] s k r:=by
 change (match zb t1 p with|some (.ar n' u)=>bif(n'==n)&&(df u==sz)then(cD i n).bind fun m=>k (.ep id j t1 (p++[(.ix m:Pe)])) s []else none|_=>none)=_ at h;split at h<;>first|(cases h;done)|skip
 rename_i n' u hp;obtain⟨e,h⟩:=aC h;obtain⟨m,hm,hk⟩:=tn h;simp only[aw,beq_iff_eq]at e;obtain⟨rfl,rfl⟩:=e;exact PR.MC hk hok fun ρ S K w0 w φ H _ hI _ har=>by obtain⟨l1,mm,k1,k2,k4,k5,k3,e1⟩:=R1.fT (v:=.ep id j t1 p) har.1;obtain⟨h0,h1,rfl,h2⟩:=rV hm;obtain⟨q1,q2⟩:=Qd k3 hp (k:=i.toNat) (by omega);exact fL.pure hI (DC ho hu hsz (R1.int har.2.1) (aB e1).1 h0 h1) (R1.wC (v:=.ep id j t1 _) ⟨l1,mm,k1,k2,k4,k5,q1,by rw[q2,Nat.add_assoc]⟩ rfl).rw
theorem Xf{n':Nat}{u:Ty}{v:Arr n' (El u)}{q:IntKind}{i:Int}(ho:o.op=.indexAddr t x y)(hu:P.underlying t=some (.array n el))(hsz:dG P el=some sz)
  (h:part ⟨⟨d,.indexAddr (some n) sz,as,g⟩,t0,fi⟩ [.pt (.ar n' u) v,.x (.i q) i] s k=some r):D1 P o [x,y] [.pt (.ar n' u) v,.x (.i q) i] s k r:=by
 obtain⟨e,h⟩:=aC (show(bif(n'==n)&&(df u==sz)then(cD i n).bind (fun m=>k (.pt u (gt v.1 m)) s [])else none)=some r from h);obtain⟨m,hm,hk⟩:=tn h;simp only[aw,beq_iff_eq]at e;obtain⟨rfl,rfl⟩:=e;exact PR.MC hk trivial fun ρ S K w0 w φ H _ hI _ har=>by obtain⟨bb,off,c,e1,k1,k2,k3⟩:=R1.fT (v:=.pt (.ar n' u) v) har.1;obtain⟨h0,h1,rfl,h5⟩:=rV hm;obtain⟨p,mm,q,rfl,r1,r2,_⟩:=v6 (fun _ _ _ h=>RT.len h) (by rw[v.2];exact h5) (show lC (RT S w u) v.1 c from k2);exact fL.pure hI (DC ho hu hsz (R1.int har.2.1) (aB e1).1 h0 h1) (R1.wC (v:=.pt u _) ⟨bb,_,mm,rfl,k1,r2,by rw[<-r1];exact rJ k3⟩ rfl).rw
theorem BU(ho:o.op=.indexAddr t x y)(hu:P.underlying t=some (.array n el))(hsz:dG P el=some sz)(hok:∀v∈vs,dZ s.next s.heap v)
  (h:part ⟨⟨d,.indexAddr (some n) sz,as,g⟩,t0,fi⟩ vs s k=some r):D1 P o [x,y] vs s k r:=by
 rcases vs with _|⟨a,_|⟨b,_|⟨c,vr⟩⟩⟩
 case cons.cons.nil=>
  cases b<;>first|(cases h;done)|skip
  rename_i tb i;cases tb<;>first|(cases h;done)|skip
  cases a<;>first|(cases h;done)|skip
  case op=>exact Xg ho hu hsz (hok _ (by simp)) h
  case ep=>exact Xh ho hu hsz (hok _ (by simp)) h
  case pt ta v=>
   cases ta<;>first|(cases h;done)|skip
   exact Xf ho hu hsz h
 case cons.cons.cons=>
  cases b<;>first|(cases h;done)|skip
  rename_i tb i;cases tb<;>cases h
 all_goals cases h
end
section
variable{P:Program}{o:Oper}{vs:List V}{s:S2}{β:Type}{k:V->S2->List Nat->Option β}{r:β}{d:Option Nat}{as args:List Operand}{g:Option (Nat×Bool)}{t0:Ty}{fi:List Nat}{t el:TypeId}{sz n:Nat}{x y:Operand}
theorem Qx{id m:Nat}{u:Ty}(ho:o.op=.load t x)(hag:eN P t=some false)(hs:dG P t=some 1)(hok:id<s.next)
  (h:part ⟨⟨d,.Ii,as,g⟩,t0,fi⟩ [.ep id m u []] s k=some r):PR P o [x] [.ep id m u []] s k r:=by
 change (match fO s.heap id with|some (.rw t v none)=>bif decide (u=Ty.sl t)then(k (.so s.next) (oH (g_ s id (some (.rw t v (some (m,s.next))))) (.ar t (gt v.l m) 0)) [id])else none|_=>none)=_ at h;split at h<;>first|(cases h;done)|skip
 rename_i u v hv;obtain⟨e,h2⟩:=aC h;obtain rfl:=of_decide_eq_true e;refine⟨.so s.next,[(s.next,some (.ar u (gt v.l m) 0)),(id,some (.rw u v (some (m,s.next))))],s.next+1,[id],h2,aO _,?_,aM _,?_,?_,fun ρ S K w0 w φ H _ hI _ har hl hn=>P4 ho hag hs hI har.1 ((hl id (by simp)).trans hv) (hn _ (aq _) (aM _))⟩
 .exact jS.cons (fun _ _=>.inl (aq _)) (jS.cons (fun o' e=>.inr (.inr ⟨_,hv,by cases e;exact⟨rfl,rfl⟩⟩)) jS.nil)
 .intro p hp t c e;simp only[aI,aW,or_false]at hp;rcases hp with rfl|rfl<;>cases e
 .intro p hp;simp only[aI,aW,or_false]at hp;rcases hp with rfl|rfl
  .exact .inl ⟨aM _,trivial⟩
  .exact .inl ⟨Nat.lt_succ_of_lt hok,aM _⟩
theorem Pa{id:Nat}{u:Ty}{p:rI}{wv:V}(ho:o.op=.store t x y)(hs:dG P t=some n)(hok:∀v∈[V.op id u p,wv],dZ s.next s.heap v)(hbx:∀id t c,fO s.heap id=some (.bx t c)->dZ s.next s.heap c)
  (h:part ⟨⟨d,.store n,as,g⟩,t0,fi⟩ [.op id u p,wv] s k=some r):PR P o [x,y] [.op id u p,wv] s k r:=by
 obtain⟨e,h1⟩:=aC (show(bif(EP wv==n)then(match fO s.heap id with
  |some (.bx u1 c)=>bif decide (u1=u)then(match zb u p with
   |some a=>(match Jm a wv with
    |some w=>(match pY c p w with|some c=>bif dF c false u then k (.tp .ni) (g_ s id (some (.bx u c))) [id]else none|none=>none)
    |none=>none)
   |none=>none)else none
  |_=>none)else none)=some r from h)
 obtain rfl:=eq_of_beq e;split at h1<;>first|(cases h1;done)|skip
 rename_i u1 c hv;obtain⟨e1,h2⟩:=aC h1;obtain rfl:=of_decide_eq_true e1;split at h2<;>first|(cases h2;done)|skip
 rename_i a ha;split at h2<;>first|(cases h2;done)|skip
 rename_i w1 hw;split at h2<;>first|(cases h2;done)|skip
 rename_i c' hc;obtain⟨e2,h3⟩:=aC h2;have hu:jS s.next s.heap [(id,some (.bx u1 c'))]:=jS.cons (fun o' e=>.inr (.inl (by cases e;rfl))) jS.nil;refine⟨.tp .ni,[(id,some (.bx u1 c'))],s.next,[id],h3,aq _,hu,trivial,?_,?_,fun ρ S K w0 w φ H _ hI _ har hl hn=>HQ ho hs hI har.1 har.2.1 ((hl id (by simp)).trans hv) ha hw hc e2⟩
 .intro p hp t c e;obtain rfl:=az.1 hp;cases e;exact dQ (aq _) hu.fe (zD (hbx _ _ _ hv) (Cm (hok wv (by simp)) hw) hc)
 .intro p hp;obtain rfl:=az.1 hp;exact .inl ⟨hok (.op id u1 p) aG,trivial⟩
theorem JX(ho:o.op=.load t x)(hag:eN P t=some false)(hs:dG P t=some 1)(hok:∀v∈vs,dZ s.next s.heap v)
  (h:part ⟨⟨d,.Ii,as,g⟩,t0,fi⟩ vs s k=some r):PR P o [x] vs s k r:=by
 rcases vs with _|⟨a,_|⟨b,vr⟩⟩
 case cons.nil=>
  cases a<;>first|(cases h;done)|skip
  rename_i id m u p;cases p<;>first|(cases h;done)|skip
  exact Qx ho hag hs (hok (.ep id m _ []) aG).1 h
 case cons.cons=>
  cases a<;>first|(cases h;done)|skip
  rename_i id m u p;cases p<;>cases h
 all_goals cases h
end
end Go.Ev
