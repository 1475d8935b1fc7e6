/- What lasts in the text's heap: kinds of slices, parts. Conditions: as stated. -/
import Derived.Test.YtoekkpmeeclpeaaGreatPr
open Bool renaming and_eq_true->ax
open List renaming length_drop->jL,length_take->bw,mem_cons->aO,mem_cons_self->aL,mem_singleton->aB,not_mem_nil->bF
open List.cons renaming inj->aE
open Nat renaming le_refl->aw,le_succ->cA,lt_of_lt_of_le->bY,lt_succ_self->bh,zero_add->dJ
open Option renaming isSome_none->tO,isSome_some->oW
open Option.some renaming inj->af
open Prod.mk renaming inj->aq
namespace Go.Ev
def SSt(t u:Ty)(s:Sl (El t))(s':Sl (El u))(v v':Nat):Prop:=v<=v'/\t=u/\nB s=nB s'/\(v=v'->SgS t s=SgS u s')
def If:O->O->Prop
 |.ar t s v,.ar u s' v'|.ar t s v,.im u s' v'|.im t s v,.im u s' v'=>SSt t u s s' v v'
 |.mp _ _ _,.mp _ _ _=>True
 |.rw t s _,.rw u s' _=>t=u/\nB (s:Sl (Sl (El t)))=nB (s':Sl (Sl (El u)))
 |_,_=>False
def isB:O->Bool
 |.bx _ _|.ib _ _=>true
 |_=>false
def D_(n:Nat)(h h':H2):Prop:=∀id o',id<n->fO h' id=some o'->isB o'=true\/∃o,fO h id=some o/\If o o'
theorem SSt.refl(t:Ty)(s:Sl (El t))(v:Nat):SSt t t s s v v:=⟨aw _,rfl,rfl,fun _=>rfl⟩
theorem SSt.trans{t u w:Ty}{s:Sl (El t)}{s':Sl (El u)}{s2:Sl (El w)}{a b c:Nat}(h1:SSt t u s s' a b)(h2:SSt u w s' s2 b c):SSt t w s s2 a c:=by
 obtain⟨a1,rfl,a3,a4⟩:=h1;obtain⟨b1,rfl,b3,b4⟩:=h2;refine⟨Nat.le_trans a1 b1,rfl,a3.trans b3,fun e=>?_⟩;obtain rfl:a=b:=by omega
 exact(a4 rfl).trans (b4 e)
theorem If.refl{o:O}(h:isB o=false):If o o:=by cases o<;>simp_all[If,SSt,isB]
theorem If.trans{a b c:O}(h1:If a b)(h2:If b c):If a c:=by
 cases a<;>cases b<;>simp only[If]at h1<;>first|exact h1.elim|skip
 all_goals(cases c<;>simp only[If]at h2|-<;>first|exact h2.elim|skip)
 all_goals first|exact h1.trans h2|exact⟨h1.1.trans h2.1,h1.2.trans h2.2⟩
theorem If.am3{a b:O}(h:If a b):isB a=false:=by cases a<;>cases b<;>first|rfl|exact h.elim
theorem D_.refl(n:Nat)(h:H2):D_ n h h:=fun _ o _ ho=>by
 cases e:isB o
 .exact .inr ⟨o,ho,If.refl e⟩
 .exact .inl rfl
theorem D_.trans{n n':Nat}{a b c:H2}(hn:n<=n')(h1:D_ n a b)(h2:D_ n' b c):D_ n a c:=fun id o' hi ho=>by
 rcases h2 id o' (by omega) ho with q|⟨o1,h3,h4⟩
 .exact .inl q
 .rcases h1 id o1 hi h3 with q|⟨o2,h5,h6⟩
  .rw [h4.am3]at q;cases q
  .exact .inr ⟨o2,h5,h6.trans h4⟩
def G4(n:Nat):Option O->Prop
 |some (.rw _ _ (some p))=>p.2<n
 |_=>True
theorem G4.mono{n m:Nat}(h:n<=m){x:Option O}(hx:G4 n x):G4 m x:=by
 unfold G4 at hx|-;split
 .simp only at hx;omega
 .trivial
abbrev LtO(n:Nat)(p:Nat×Option O):Prop:=(p.1<n/\G4 n p.2)\/p.2=none
theorem LtO.mono{n m:Nat}(h:n<=m){p:Nat×Option O}(hp:LtO n p):LtO m p:=hp.imp (fun q=>⟨by omega,q.2.mono h⟩) id
def mA(n:Nat)(h:H2)(u:xm):Prop:=∀p∈u,∀o',p.2=some o'->n<=p.1\/isB o'=true\/∃o,fO h p.1=some o/\If o o'
theorem mA.gj{n:Nat}{h:H2}{u:xm}(hu:mA n h u):D_ n h (u++h):=fun id o' hi ho=>by
 rw[oz]at ho;simp only[up]at ho;cases e:iV u id with
 |none=>rw[e]at ho;exact D_.refl n h id o' hi ho
 |some x=>
  rw[e]at ho;rcases hu _ (nE.1 x e) o' ho with q|q|q
  .exact absurd hi (by simpa using q)
  .exact .inl q
  .exact .inr q
theorem mA.nil{n:Nat}{h:H2}:mA n h []:=fun p hp=>by simp at hp
theorem mA.cons{n:Nat}{h:H2}{id:Nat}{x:Option O}{u:xm}(h1:∀o',x=some o'->n<=id\/isB o'=true\/∃o,fO h id=some o/\If o o')(hu:mA n h u):mA n h ((id,x)::u):=fun p hp o' ho=>by
 rcases aO.1 hp with rfl|hp
 .exact h1 o' ho
 .exact hu p hp o' ho
theorem mA.append{n:Nat}{h:H2}{u v:xm}(h1:mA n h u)(h2:mA n h v):mA n h (u++v):=fun p hp=>(List.mem_append.1 hp).elim (h1 p) (h2 p)
theorem A6.mono{φ:iq}{n:Nat}{h h':H2}(hs:A6 φ h)(hh:D_ n h h')(hφ:∀i l,φ i=some l->i<n):A6 φ h':=fun id l o' hl ho=>by
 rcases hh id o' (hφ id l hl) ho with q|⟨o,h1,h2⟩
 .cases o'<;>first|(cases q;done)|trivial
 .have:=hs id l o hl h1;cases o<;>cases o'<;>simp only[If]at h2<;>first|exact h2.elim|skip
  all_goals simp only[HR]at this|-
  .exact ⟨this.1.trans h2.2.1,this.2.trans h2.2.2.1⟩
  .exact ⟨this.1.trans h2.2.1,this.2.trans h2.2.2.1⟩
  .exact ⟨this.1.trans h2.2.1,this.2.trans h2.2.2.1⟩
  .exact ⟨this.1.trans (by rw[h2.1]),this.2.trans h2.2⟩
theorem acZ{u t u':Ty}{s:Sl (El u)}{s':Sl (El u')}{lo:Nat}{r:Sl (El t)}(e:SgS u s=SgS u' s')(h:Qg u t s lo r):Qg u' t s' lo r:=by obtain⟨rfl,e⟩:=Sigma.mk.inj e;obtain rfl:=eq_of_heq e;exact h
theorem If.nnl{a b:O}(h:If a b)(hn:nnl a):nnl b:=by
 have key:∀{α β:Type}{s:Sl α}{s':Sl β},nB s=nB s'->s.rp=false->s'.rp=false:=by intro α β s s' h;cases s<;>cases s'<;>simp_all[nB,Sl.rp]
 cases a<;>cases b<;>simp only[If]at h<;>first|exact h.elim|trivial|exact key h.2.2.1 hn|exact key h.2 hn
theorem Pn{n id:Nat}{h h':H2}(hs:D_ n h h')(hi:id<n)(hn:∀o,fO h id=some o->nnl o):∀o,fO h' id=some o->nnl o:=fun o ho=>by
 rcases hs id o hi ho with q|⟨o0,h3,h4⟩
 .cases o<;>first|trivial|cases q
 .exact h4.nnl (hn o0 h3)
theorem eA{n n':Nat}{h h':H2}(hn:n<=n')(hs:D_ n h h'):∀{v:V},fG n h v->fG n' h' v:=by
 intro v;induction v with
 |sb id ver lo t r=>
  rintro⟨h1,h0,h2⟩;refine⟨by omega,fun e=>Pn hs h1 (h0 e),fun u s v ho=>?_⟩
  have key:∀{o':O},fO h' id=some o'->(o'=.ar u s v\/o'=.im u s v)->ver<=v/\(v=ver->Qg u t s lo r):=by
   intro o' ho he;rcases hs id o' h1 ho with q|⟨o,h3,h4⟩
   .rcases he with rfl|rfl<;>cases q
   .have:∃u0 s0 v0,(fO h id=some (.ar u0 s0 v0)\/fO h id=some (.im u0 s0 v0))/\SSt u0 u s0 s v0 v:=by rcases he with rfl|rfl<;>cases o<;>simp only[If]at h4<;>first|exact h4.elim|exact⟨_,_,_,.inl h3,h4⟩|exact⟨_,_,_,.inr h3,h4⟩
    obtain⟨u0,s0,v0,k1,k2,k3,k4,k5⟩:=this;obtain⟨q1,q2⟩:=h2 u0 s0 v0 k1;refine⟨by omega,fun e=>?_⟩;obtain rfl:v0=v:=by omega
    exact acZ (k5 rfl) (q2 e)
  rcases ho with ho|ho
  .exact key ho (.inl rfl)
  .exact key ho (.inr rfl)
 |fn z f l ih=>intro hv;exact ih hv
 |rc l ih=>intro hv;exact ih hv
 |tp l ih=>intro hv;exact ih hv
 |co a r iha ihr=>rintro⟨h1,h2⟩;exact⟨iha h1,ihr h2⟩
 |so id|sr id|om id|vs id t=>intro hv;exact bY hv hn
 |op id t p=>intro hv;exact bY hv hn
 |ep id m t p=>rintro⟨h1,h2⟩;exact⟨by omega,Pn hs h1 h2⟩
 |_=>intro _;trivial
theorem aN{α:Type}{c:Bool}{x:Option α}{b:α}(h:(bif c then x else none)=some b):c=true/\x=some b:=by
 cases c
 .cases h
 .exact ⟨rfl,h⟩
section
variable{n:Nat}{h:H2}
theorem IU:∀{l:V}{i:Nat}{x:V},fG n h l->C_ l i=some x->fG n h x:=by
 intro l;induction l with
 |co a r _ ihr=>rintro i x ⟨h1,h2⟩ hx;cases i with|zero=>obtain rfl:=af hx;exact h1|succ i=>exact ihr h2 hx
 |_=>intro i x _ hx;simp[C_]at hx
theorem Te:∀{l y:V}{i:Nat},fG n h l->fG n h y->fG n h (MW l i y):=by
 intro l;induction l with
 |co a r _ ihr=>rintro y i ⟨h1,h2⟩ hy;cases i with|zero=>exact⟨hy,h2⟩|succ i=>exact⟨h1,ihr h2 hy⟩
 |_=>intro y i hl _;exact hl
theorem Td:∀{t:Ty}{v:El t},fG n h (Xh t v):=by intro t;induction t with|pr a c _ ihc=>intro v;exact⟨trivial,ihc⟩|_=>intro v;exact⟨trivial,trivial⟩
theorem JQ:∀{t:Ty}{v:El t}{i:Nat}{x:V},Ha t v i=some x->fG n h x:=by
 intro t;induction t with
 |pr a c _ ihc=>intro v i x hx;cases i with|zero=>obtain rfl:=af hx;trivial|succ i=>exact ihc hx
 |_=>intro v i x hx;cases i with|zero=>obtain rfl:=af hx;trivial|succ i=>simp[Ha]at hx
theorem JP:∀{p:xK}{v x:V},fG n h v->zJ v p=some x->fG n h x:=by
 intro p;induction p with
 |nil=>
  intro v x hv hx;obtain rfl:v=x:=by simpa[zJ]using hx
  exact hv
 |cons q p ih=>
  intro v x hv hx;cases v<;>first|(simp[zJ]at hx;done)|skip
  .rename_i t v;cases t<;>cases q<;>first|(simp[zJ]at hx;done)|skip
   .simp only[zJ]at hx;split at hx
    .rename_i w hw;exact ih (JQ hw) hx
    .cases hx
   .exact ih (v:=.x _ _) trivial hx
  .rename_i l;cases q<;>first|(simp[zJ]at hx;done)|skip
   simp only[zJ]at hx;split at hx
   .rename_i w hw;exact ih (IU (l:=l) hv hw) hx
   .cases hx
theorem FW:∀{p:xK}{v y x:V},fG n h v->fG n h y->vD v p y=some x->fG n h x:=by
 intro p;induction p with
 |nil=>
  intro v y x _ hy hx;obtain rfl:y=x:=by simpa[vD]using hx
  exact hy
 |cons q p ih=>
  intro v y x hv hy hx;cases v<;>first|(simp[vD]at hx;done)|skip
  .rename_i t v;cases t<;>cases q<;>first|(simp[vD]at hx;done)|skip
   .simp only[vD]at hx;split at hx<;>first|(cases hx;done)|skip
    rename_i w hw;split at hx<;>first|(cases hx;done)|skip
    rename_i y' hy';split at hx
    .obtain rfl:=af hx;trivial
    .obtain rfl:=af hx;exact Te Td (ih (JQ hw) hy hy')
   .simp only[vD]at hx;split at hx<;>first|(cases hx;done)|skip
    split at hx<;>first|(cases hx;done)|skip
    obtain rfl:=af hx;trivial
  .rename_i l;cases q<;>first|(simp[vD]at hx;done)|skip
   simp only[vD]at hx;split at hx<;>first|(cases hx;done)|skip
   rename_i w hw;split at hx<;>first|(cases hx;done)|skip
   rename_i y' hy';obtain rfl:=af hx;exact Te (l:=l) hv (ih (IU (l:=l) hv hw) hy hy')
theorem IV{t:Ty}{v x:V}(hv:fG n h v)(hx:QL t v=some x):fG n h x:=by
 unfold QL at hx;split at hx
 .obtain rfl:=af hx;trivial
 .cases e:fg v false t<;>rw[e]at hx
  .cases hx
  .obtain rfl:=af hx;exact hv
theorem Nb:∀{vs:List V},(∀v∈vs,fG n h v)->fG n h (dK vs):=by intro vs;induction vs with|nil=>intro _;trivial|cons v vs ih=>intro hv;exact⟨hv v (by simp),ih fun x hx=>hv x (by simp[hx])⟩
theorem Tf{t:Ty}:∀{is:List Nat}{ps:List (Nat×Nat)}{ws:List V}{c c':V},fG n h c->(∀v∈ws,fG n h v)->Qq t is ps ws c=some c'->fG n h c':=by
 intro is;induction is with
 |nil=>intro ps ws c c' hc _ hb;cases ps<;>cases ws<;>first|(cases hb;done)|(obtain rfl:=af hb;exact hc)
 |cons i is ih=>
  intro ps ws c c' hc hw hb;cases ps<;>cases ws<;>first|(cases hb;done)|skip
  rename_i q ps w ws;obtain⟨off,m⟩:=q;have hw2:=fun v hv=>hw v (List.mem_cons_of_mem _ hv);have iT:∀{u:Ty}{e:Pe}{B:Bool},(match QL u w with|some w=>(match vD c [e] w with|some c=>bif B then Qq t is ps ws c else none|none=>none)|none=>none)=some c'->True:=fun _=>trivial;cases t<;>first|(cases hb;done)|skip
  .rename_i u;change (match Lm u i with|some a=>_|none=>none)=_ at hb;split at hb<;>first|(cases hb;done)|skip
   rename_i a ha;cases e:(KZ u i==off&&ei a==m)<;>rw[e]at hb
   .cases hb
   simp only[cond_true]at hb;split at hb<;>first|(cases hb;done)|skip
   rename_i w1 h1;split at hb<;>first|(cases hb;done)|skip
   rename_i c1 h2;cases e2:fg c1 false (.st u)<;>rw[e2]at hb
   .cases hb
   exact ih (FW hc (IV (hw w (by simp)) h1) h2) hw2 hb
  .rename_i q u;change (bif(i*ei u==off)&&(ei u==m)&&decide (i<q)then _ else none)=_ at hb;cases e:((i*ei u==off)&&(ei u==m)&&decide (i<q))<;>rw[e]at hb
   .cases hb
   simp only[cond_true]at hb;split at hb<;>first|(cases hb;done)|skip
   rename_i w1 h1;split at hb<;>first|(cases hb;done)|skip
   rename_i c1 h2;cases e2:fg c1 false (.ar q u)<;>rw[e2]at hb
   .cases hb
   exact ih (FW hc (IV (hw w (by simp)) h1) h2) hw2 hb
theorem Na:∀{t:Ty},fG n h (Mx t).1/\fG n h (Mx t).2:=by intro t;induction t with|pr a c iha ihc=>exact⟨trivial,iha.1,ihc.2⟩|st t ih=>simp only[Mx];cases oq t<;>simp[fG,ih.2]|ar m t _=>simp only[Mx];cases oq t<;>simp[fG]|sl t _=>simp only[Mx];cases oq t<;>simp[fG]|_=>simp[Mx,fG]
theorem Pj{v x:V}{l:List Nat}(hb:∀id t c,fO h id=some (.bx t c)->fG n h c)(hx:F4 h v=some (x,l)):fG n h x:=by
 unfold F4 at hx;split at hx
 .obtain ⟨rfl,rfl⟩:=aq (af hx);trivial
 .split at hx<;>first|(cases hx;done)|skip
  .rename_i u c ho;cases e:decide (u=_)<;>rw[e]at hx
   .cases hx
   simp only[cond_true]at hx;split at hx<;>first|(cases hx;done)|skip
   rename_i y hy;obtain⟨rfl,rfl⟩:=aq (af hx);exact JP (hb _ _ _ ho) hy
  .rename_i u c ho;cases e:decide (u=_)<;>rw[e]at hx
   .cases hx
   simp only[cond_true]at hx;split at hx<;>first|(cases hx;done)|skip
   rename_i y hy;obtain⟨rfl,rfl⟩:=aq (af hx);exact JP (v:=.x _ _) trivial hy
 .split at hx<;>first|(cases hx;done)|skip
  all_goals
   rename_i u s v ho;cases e:decide (u=_)<;>rw[e]at hx
   .cases hx
   simp only[cond_true]at hx;split at hx<;>first|(cases hx;done)|skip
   rename_i y hy;obtain⟨rfl,rfl⟩:=aq (af hx);exact JP (v:=.x _ _) trivial hy
 .cases hx
theorem ab3{off m i:Nat}{v x:V}(hv:fG n h v)(hx:R_ off m i v=some x):fG n h x:=by
 unfold R_ at hx;split at hx
 .split at hx<;>first|(cases hx;done)|skip
  split at hx<;>first|(cases hx;done)|skip
  obtain rfl:=af (aN hx).2;exact hv
 .split at hx<;>first|(cases hx;done)|skip
  split at hx<;>first|(cases hx;done)|skip
  obtain rfl:=af (aN hx).2;exact hv
 .split at hx<;>first|(cases hx;done)|skip
  obtain rfl:=af (aN hx).2;trivial
 .cases hx
theorem Nc{v:V}{y:Value}(hv:tg v=some y):fG n h v:=by unfold tg at hv;split at hv<;>first|trivial|cases hv
theorem ab1{kind:Nat}{v r:V}(hn:RH h kind v=some r):fG n h r:=by
 unfold RH at hn;split at hn
 .obtain rfl:=af (aN hn).2;trivial
 .obtain rfl:=af (aN hn).2;trivial
 .obtain rfl:=af (aN hn).2;trivial
 .obtain rfl:=af (aN hn).2;trivial
 .obtain rfl:=af (aN hn).2;trivial
 .have:=(aN hn).2;split at this
  .obtain rfl:=af this;trivial
  .cases this
theorem YI{z c:Bool}{op:BinOp}{k k':IntKind}{a b:Int}{v:V}(hb:aar z c op k k' a b=some v):fG n h v:=by
 cases op<;>simp only[aar]at hb
 all_goals
  repeat'(first|(cases hb;done)|(obtain rfl:=af hb;trivial)|replace hb:=(aN hb).2)
theorem Vu{op:BinOp}{k k':FloatKind}{a b:Nat}{v:V}(hb:Uk op k k' a b=some v):fG n h v:=by obtain⟨_,_,e⟩:=Qr hb;exact Nc e
theorem YH{op:BinOp}{a b:ByteArray}{v:V}(hb:agC op a b=some v):fG n h v:=by obtain⟨_,_,e⟩:=Uj hb;exact Nc e
theorem afJ{l x:V}{i:Nat}(hv:fG n h (.rc l))(hx:C_ l i=some x):fG n h x:=IU (l:=l) hv hx
theorem afI{l x:V}{i:Nat}(hv:fG n h (.tp l))(hx:C_ l i=some x):fG n h x:=IU (l:=l) hv hx
theorem ab2{b:Bool}{v:V}(hv:fG n h v):fG n h (bif b then YZ v else v):=by
 cases b
 .exact hv
 .unfold YZ;simp only[cond_true];split
  .trivial
  .trivial
  .exact hv
theorem aa_{op:OP}{vs:List V}{v:V}{l:List Nat}(hb:∀id t c,fO h id=some (.bx t c)->fG n h c)(hv:∀v∈vs,fG n h v)(ht:CK op vs h=some (v,l)):fG n h v:=by
 unfold CK at ht;split at ht
 all_goals(repeat' split at ht)
 all_goals first
  |(cases ht;done)
  |(obtain⟨rfl,rfl⟩:=aq (af ht);first|trivial|exact YI (by assumption)|exact Vu (by assumption)|exact YH (by assumption)|exact ab2 (ab1 (by assumption))|exact ab3 (hv _ (aL ..)) (by assumption)|exact afI (hv _ (aL ..)) (by assumption)|exact hv _ (aL ..))
  |(obtain⟨rfl,rfl⟩:=aq (af (aN ht).2);first|trivial|exact Nb hv|exact Pj hb (by assumption)|exact JQ (by assumption)|exact afJ (hv _ (aL ..)) (by assumption)|exact Tf Na.1 hv (by assumption))
  |(cases(aN ht).2;done)
  |(have:=(aN ht).2
    split at this
    .obtain ⟨rfl,rfl⟩:=aq (af this);exact Tf Na.1 hv (by assumption)
    .cases this)
  |(have:=(aN ht).2
    obtain⟨rfl,rfl⟩:=aq (af this)
    first|trivial|(have h9:=hv _ aL;exact h9)|(cases‹Bool›<;>simp[fG]))
end
def HG(s:S2)(u:xm)(n':Nat):S2:=⟨s.jl,u++s.heap,n',u.map (·.1)++s.wo,s.gh⟩
def SE(P:Program)(o:Oper)(args:List Operand)(vs:List V)(s:S2)(v:V)(u:xm)(n':Nat)(l:List Nat):Prop:=
 s.next<=n'/\mA s.next s.heap u/\fG n' (u++s.heap) v/\(∀p∈u,∀t c,p.2=some (.bx t c)->fG n' (u++s.heap) c)/\(∀p∈u,LtO n' p)/\
 ∀(ρ:Operand->Value)(S K:Nat->Prop)(w0 w:World)(φ:iq)(H:Hf),(∀v,ρ (.const v)=v)->Inv S K w0 φ H w->A6 φ s.heap->Ar S w φ ρ args vs->(∀i∈l,H i=fO s.heap i)->(∀j,s.next<=j->j<n'->φ j=none)->ip P o ρ S K w0 w φ H s.next n' v u
def PR(P:Program)(o:Oper)(args:List Operand)(vs:List V)(s:S2){β:Type}(k:V->S2->List Nat->Option β)(r:β):Prop:=∃v u n' l,k v (HG s u n') l=some r/\SE P o args vs s v u n' l
def KT(P:Program)(o:Oper)(args:List Operand)(vs:List V)(s:S2){β:Type}(k:V->S2->List Nat->Option β)(r:β):Prop:=∃v,k v s []=some r/\SE P o args vs s v [] s.next []
section
variable{P:Program}{o:Oper}{vs:List V}{s:S2}{β:Type}{k:V->S2->List Nat->Option β}{r:β}{d:Option Nat}{as args:List Operand}{g:Option (Nat×Bool)}{t0:Ty}{fi:List Nat}
theorem PR.val{v:V}(hk:k v s []=some r)(hv:∀{n h},fG n h v)(hrun:∀(ρ:Operand->Value)(S K:Nat->Prop)(w0 w:World)(φ:iq)(H:Hf),(∀v,ρ (.const v)=v)->Inv S K w0 φ H w->A6 φ s.heap->Ar S w φ ρ args vs->ip P o ρ S K w0 w φ H s.next s.next v []):
  KT P o args vs s k r:=
 ⟨v,hk,aw _,mA.nil,hv,fun p hp=>by simp at hp,fun p hp=>by simp at hp,fun ρ S K w0 w φ H h1 h2 h3 h4 _ _=>hrun ρ S K w0 w φ H h1 h2 h3 h4⟩
theorem PR.new{v:V}{x:O}{l:List Nat}(hk:k v (tE s x) l=some r)(hv:∀{h},fG (s.next+1) h v)(hx:∀t c,x=.bx t c->fG (s.next+1) ((s.next,some x)::s.heap) c)
  (hrun:∀(ρ:Operand->Value)(S K:Nat->Prop)(w0 w:World)(φ:iq)(H:Hf),(∀v,ρ (.const v)=v)->Inv S K w0 φ H w->A6 φ s.heap->Ar S w φ ρ args vs->(∀i∈l,H i=fO s.heap i)->φ s.next=none->ip P o ρ S K w0 w φ H s.next (s.next+1) v [(s.next,some x)]) (hln:G4 (s.next+1) (some x):=by trivial):PR P o args vs s k r:=
 ⟨v,[(s.next,some x)],s.next+1,l,hk,cA _,mA.cons (fun _ _=>.inl (aw _)) mA.nil,hv,fun p hp t c e=>by
  simp_all,fun p hp=>by
  grind,fun ρ S K w0 w φ H h1 h2 h3 h4 h5 h6=>hrun ρ S K w0 w φ H h1 h2 h3 h4 h5 (h6 _ (aw _) (bh _))⟩
theorem TQ(x:O):D_ s.next s.heap ((s.next,some x)::s.heap):=(mA.cons (fun _ _=>.inl (aw _)) mA.nil).gj
theorem Rw{t:TypeId}{z:List Value}(ho:o.op=.alloc t)(hz:jH P t=some z)(h:part ⟨⟨d,.alloc z,as,g⟩,t0,fi⟩ vs s k=some r):PR P o args vs s k r:=by
 match vs,h with|[],h=>obtain⟨e,h⟩:=aN (h);exact PR.new h (bh _) (fun t c e=>by cases e;exact Na.1) fun ρ S K w0 w φ H _ hI _ _ _ hn=>YE ho hz hI hn e
theorem Yn{t:TypeId}{x:Operand}(ho:o.op=.box t x)(hv:∀v∈vs,fG s.next s.heap v)(h:part ⟨⟨d,.box,as,g⟩,t0,fi⟩ vs s k=some r):PR P o [x] vs s k r:=by
 match vs,h,hv with
 |[v],h,hv=>
  change (match QL t0 v with|some w=>k _ _ []|none=>none)=_ at h;split at h<;>first|(cases h)|skip
  rename_i c hc;exact PR.new h (bh _) (fun t c' e=>by cases e;exact eA (cA _) (TQ _) (IV (hv v (by simp)) hc)) fun ρ S K w0 w φ H _ hI _ hr _ hn=>afH ho hI hn hr.1 hc
theorem JK{t el:TypeId}{m:Nat}{lo co:Operand}{z:List Value}(ho:o.op=.makeSlice t lo co)(hu:P.underlying t=some (.slice el))(hs:fh P el=some (m+1))(hz:jH P el=some z)(hzl:z.length=m+1)(hb:vg P el=true)
  (h:part ⟨⟨d,.makeSlice z,as,g⟩,t0,fi⟩ vs s k=some r):PR P o [lo,co] vs s k r:=by
 match vs,h with|[.x (.i q1) a,.x (.i q2) b],h=>obtain⟨e,h⟩:=aN (h);obtain⟨rr,h1,h⟩:=zF h;exact PR.new h (bh _) (fun t c e=>by cases e) fun ρ S K w0 w φ H _ hI _ hr _ hn=>M5 ho hu hs hz hzl hb hI hn (R1.int hr.1) (R1.int hr.2.1) e h1
theorem Rr{t el:TypeId}{m szi:Nat}{lo co:Operand}{z:List Value}(ho:o.op=.makeSlice t lo co)(hu:P.underlying t=some (.slice el))(hs:fh P el=some (m+1))(hz:jH P el=some z)(hzl:z.length=m+1)(hb:vg P el=true)(hz1:J8 z=true)
  (h:part ⟨⟨d,.Y8 szi,as,g⟩,t0,fi⟩ vs s k=some r):PR P o [lo,co] vs s k r:=by
 match vs,h with
 |[.x (.i q1) a,.x (.i q2) b],h=>
  cases t0<;>first|(cases h)|skip
  obtain⟨e,h⟩:=aN (h);obtain⟨rr,h1,h⟩:=zF h;simp at e;exact PR.new h (bh _) (fun t c e=>by cases e) fun ρ S K w0 w φ H _ hI _ hr _ hn=>Yy ho hu hs hz hzl hb hz1 hI hn (R1.int hr.1) (R1.int hr.2.1) e.2 h1
theorem M0{t kt et:TypeId}{ka va:Bool}(ho:o.op=.makeMap t none)(h:part ⟨⟨d,.makeMap ka va,as,g⟩,t0,fi⟩ vs s k=some r):PR P o args vs s k r:=by
 match vs,h with
 |[],h=>
  cases t0<;>first|(cases h)|skip
  obtain⟨e,h⟩:=aN (h);simp at e;exact PR.new h (bh _) (fun t c e=>by cases e) fun ρ S K w0 w φ H _ hI _ _ _ hn=>RA (kt:=kt) (et:=et) ho hI hn e.1.2 e.2
end
section
variable{P:Program}{o:Oper}{vs:List V}{s:S2}{β:Type}{k:V->S2->List Nat->Option β}{r:β}{d:Option Nat}{as args:List Operand}{g:Option (Nat×Bool)}{t0:Ty}{fi:List Nat}
theorem C8{t ty:TypeId}{b:BinOp}{x y:Operand}(ho:o.op=.binOp b t x y ty){v1 v2 v:V}{a c e:Value}(hk:k v s []=some r)(e1:tg v1=some a)(e2:tg v2=some c)(hr:zP b a c=some e)(e3:tg v=some e):KT P o [x,y] [v1,v2] s k r:=PR.val hk (Nc e3) fun ρ S K w0 w φ H _ hI _ har=>YD ho hI har.1 har.2.1 e1 e2 (by simp[AY,hr]) e3
theorem Yo{t ty:TypeId}{b:BinOp}{x y:Operand}(ho:o.op=.binOp b t x y ty)(h:part ⟨⟨d,.NK b,as,g⟩,t0,fi⟩ vs s k=some r):KT P o [x,y] vs s k r:=by
 cases b<;>first|(cases h;done)|skip
 .match vs,h with
  |[.x .s a,.x .s c],h=>
   obtain⟨z,hz,h⟩:=zF (show(agx a c).bind (fun x=>k (.x .s x) s [])=some r from h);unfold agx at hz;split at hz
   .cases hz
   .rename_i hc;obtain rfl:=af hz;exact C8 ho h rfl rfl (by simp only[zP];rw[if_neg hc]) rfl
 .match vs,h with
  |[.x (.i q) a,.x (.i q') c],h=>
   obtain⟨e,h⟩:=aN (show(bif decide (q=q')then(Wf q a c).bind (fun x=>k (.x (.i q) x) s [])else none)=some r from h);obtain⟨z,hz,h⟩:=zF h;unfold Wf at hz;split at hz
   .cases hz
   .rename_i hc;obtain rfl:=af hz;exact C8 ho h rfl rfl (by simp only[zP];rw[if_pos (by simpa using e),if_neg hc]) rfl
 .match vs,h with
  |[.x (.i q) a,.x (.i q') c],h=>
   obtain⟨e,h⟩:=aN (show(bif decide (q=q')then(X7 q a c).bind (fun x=>k (.x (.i q) x) s [])else none)=some r from h);obtain⟨z,hz,h⟩:=zF h;unfold X7 at hz;split at hz
   .cases hz
   .rename_i hc;obtain rfl:=af hz;exact C8 ho h rfl rfl (by simp only[zP];rw[if_pos (by simpa using e),if_neg hc]) rfl
 .match vs,h with
  |[.x (.i q) a,.x (.i q') c],h=>
   obtain⟨z,hz,h⟩:=zF (show(GP q a c).bind (fun x=>k (.x (.i q) x) s [])=some r from h);unfold GP at hz;split at hz
   .cases hz
   .rename_i hc;obtain rfl:=af hz;exact C8 ho h rfl rfl (by simp only[zP];rw[if_neg hc];rfl) rfl
 .match vs,h with
  |[.x (.i q) a,.x (.i q') c],h=>
   obtain⟨z,hz,h⟩:=zF (show(FB q a c).bind (fun x=>k (.x (.i q) x) s [])=some r from h);unfold FB at hz;split at hz
   .cases hz
   .rename_i hc;obtain rfl:=af hz;exact C8 ho h rfl rfl (by simp only[zP];rw[if_neg hc];rfl) rfl
theorem Z8{u t:Ty}{s0:Sl (El u)}{r:Sl (El t)}{lo a b:Nat}{y:List (El t)}(h:Qg u t s0 lo r)(hy:y=(r.l.drop a).take b)(hb:a+b<=r.l.length):Qg u t s0 (lo+a) (r.to y):=by
 rcases h with⟨h1,rfl⟩|⟨q,m,h1,rfl,h3⟩
 .exact .inl ⟨h1,rfl⟩
 .refine .inr ⟨q,b,h1,?_,?_⟩
  .simp only[Sl.to,hy,Sl.l];congr 1;simp only[Sl.l,bw,jL]at hb;rw[List.drop_take,List.drop_drop,List.take_take,Nat.min_eq_left (by omega)]
  .simp only[Sl.l,bw,jL]at hb;omega
theorem Qf{t:Ty}(s0:Sl (El t)):Qg t t s0 0 s0:=by cases s0 with|nil=>exact .inl ⟨rfl,rfl⟩|mk q=>exact .inr ⟨q,q.length,rfl,by simp,by simp⟩
variable{t el:TypeId}{sz:Nat}{x:Operand}{lo hi:Option Operand}{a b:Option Int}
theorem Nw{v:V}{nn:Nat}(ho:o.op=.slice t x lo hi none)(hu:P.underlying t=some (.slice el))(hsz:fh P el=some sz)(hok:fG s.next s.heap v)(hal:tM s.heap v=true)(hn:VN s.heap v=some (nn:Int))
  (hB:∀(ρ:Operand->Value)(S:Nat->Prop)(w:World)(φ:iq),Ar S w φ ρ args vs->RW S w φ v (ρ x)/\QP ρ lo a/\QP ρ hi b) (h:Wg sz s.heap v (a.getD 0) (b.getD nn) (fun v=>k v s [])=some r):KT P o args vs s k r:=by
 have E6:∀{id:Nat}{l0 ver:Nat}{tt:Ty}{rr:Sl (El tt)}{y:List (El tt)},fG s.next s.heap (.sb id ver l0 tt rr)->(∀(S:Nat->Prop)(w:World)(φ:iq){xv:Value},A6 φ s.heap->RW S w φ v xv->∃l1,φ id=some l1/\l1.t=tt/\inN l1 l0 (nB rr)/\E6 l1 l0 (nB rr) [xv])->ei tt=sz->nn=rr.l.length->
   rG rr.l (a.getD 0) (b.getD nn)=some y->k (.sb id ver (l0+(a.getD 0).toNat) tt (rr.to y)) s []=some r->KT P o args vs s k r:=by
  intro id l0 ver tt rr y hok2 hloc hs hnn hc hk;obtain⟨c1,c2,c3,c4,c5⟩:=Gm hc;refine⟨_,hk,aw _,mA.nil,⟨hok2.1,fun e=>hok2.2.1 (by cases rr<;>first|rfl|cases e),fun u0 s0 v0 hv0=>?_⟩,fun p hp=>by simp at hp,fun p hp=>by simp at hp,fun ρ S K w0 w φ H _ hI hsh har _ _=>?_⟩
  .obtain ⟨q1,q2⟩:=hok2.2.2 u0 s0 v0 hv0;exact⟨q1,fun e=>Z8 (q2 e) c4 (by omega)⟩
  .obtain ⟨h1,h2,h3⟩:=hB ρ S w φ har;obtain⟨l1,k1,k2,k3,k4⟩:=hloc S w φ hsh h1;cases rr with
   |nil=>have e1:nn=0:=hnn;subst e1;have hx:ρ x=.slice none 0 0:=(aE k4).1;have run:=Nv (P:=P) (w:=w) (y:=[]) ho hu hsz h2 h3 hx (by rw[By];refine⟨⟨c1,c2,by simpa[Sl.l]using c3⟩,by simp⟩);exact ip.pure hI run (R1.CH (v:=.sb id ver _ tt Sl.nil) ⟨l1,k1,k2,trivial,rfl⟩ rfl).rw
   |mk q=>
    have e1:nn=q.length:=hnn;subst e1;obtain⟨val,run,k5⟩:=acX (P:=P) (w:=w) (a:=a) (b:=b) ho hu (by rw[k2,hs];exact hsz) h2 h3 k4 c1 c2 c3;obtain⟨m,m1,m2⟩:=k3;refine ip.pure hI run (R1.CH (v:=.sb id ver _ tt (.mk y)) ⟨l1,k1,k2,⟨m,m1,?_⟩,?_⟩ rfl).rw
    .rw [c5];have:(Sl.mk q:Sl (El tt)).l.length=q.length:=rfl;omega
    .show E6 l1 _ (some y.length) [val];rw[c5];exact k5
 unfold Wg at h;split at h
 .rename_i u v0;obtain⟨e,h⟩:=aN h;obtain⟨y,hy,hk⟩:=zF h;simp only[beq_iff_eq]at e;have hnn:nn=v0.l.length:=by have:some ((v0.l.length:Nat):Int)=some (nn:Int):=hn;have:=af this;omega
  subst hnn;refine PR.val hk trivial fun ρ S K w0 w φ H _ hI hsh har=>?_;obtain⟨h1,h2,h3⟩:=hB ρ S w φ har;cases v0 with|nil=>obtain⟨c1,c2,c3,_⟩:=Gm hy;have run:=Nv (P:=P) (w:=w) (y:=[]) ho hu hsz h2 h3 (aE (R1.iB h1)).1 (by rw[By];exact⟨⟨c1,c2,by simpa[Sl.l]using c3⟩,by simp⟩);exact ip.pure hI run (R1.CH (v:=.x (.sl u) (Sl.nil:Sl (El u))) rfl rfl).rw|mk q=>obtain⟨val,run,k5⟩:=ago (P:=P) (w:=w) (S:=S) (u:=u) ho hu (by rw[e];exact hsz) h2 h3 (R1.iB h1) hy;exact ip.pure hI run (R1.CH (v:=.x (.sl u) (.mk y:Sl (El u))) k5 rfl).rw
 .rename_i id;simp only[tM]at hal
  have key:∀{u:Ty}{v0:Sl (El u)}{ver:Nat},(fO s.heap id=some (.ar u v0 ver)\/fO s.heap id=some (.im u v0 ver))->(bif ei u==sz then(rG v0.l (a.getD 0) (b.getD nn)).bind fun y=>k (.sb id ver (a.getD 0).toNat u (v0.to y)) s []else none)=some r->KT P o args vs s k r:=by
   intro u v0 ver hob h;obtain⟨e,h⟩:=aN h;obtain⟨y,hy,hk⟩:=zF h;simp only[beq_iff_eq]at e
   have hnn:nn=v0.l.length:=by
    have:VN s.heap (.so id)=some (v0.l.length:Int):=by rcases hob with hob|hob<;>simp[VN,Oo,hob]
    rw[hn]at this;have:=af this;omega
   refine E6 (l0:=0) (ver:=ver) (rr:=v0) ⟨hok,fun e o ho=>?_,fun u0 s0 v1 hv1=>?_⟩ (fun S w φ xv hsh hx=>?_) e hnn hy (by rw[dJ];exact hk)
   .rcases hob with hob|hob<;>(rw[hob]at ho;cases ho;exact e)
   .have:∃e:u0=u,(e▸s0)=v0/\v1=ver:=by rcases hob with hob|hob<;>rcases hv1 with hv1|hv1<;>rw[hob]at hv1<;>cases hv1<;>exact⟨rfl,rfl,rfl⟩
    obtain⟨rfl,rfl,rfl⟩:=this;exact⟨aw _,fun _=>Qf _⟩
   .obtain ⟨l1,k1,k2⟩:=R1.iB hx;have hs:l1.t=u/\l1.n=nB v0:=by rcases hob with hob|hob<;>exact hsh id l1 _ k1 hob
    refine⟨l1,k1,hs.1,?_,by rw[<-hs.2];exact k2⟩;cases v0 with|nil=>trivial|mk q=>exact⟨q.length,hs.2,by simp⟩
  split at h
  .rename_i hob;exact key (.inl hob) h
  .rename_i hob;exact key (.inr hob) h
  .cases h
 .rename_i id ver l0 u v0;obtain⟨e,h⟩:=aN h;obtain⟨y,hy,hk⟩:=zF h;simp only[beq_iff_eq]at e;have hnn:nn=v0.l.length:=by have:some ((v0.l.length:Nat):Int)=some (nn:Int):=hn;have:=af this;omega
  exact E6 hok (fun S w φ xv hsh hx=>R1.iB hx) e hnn hy hk
 .obtain ⟨y,hy,hk⟩:=zF h;have hnn:nn=0:=by have:some (0:Int)=some (nn:Int):=hn;have:=af this;omega
  subst hnn;refine PR.val hk trivial fun ρ S K w0 w φ H _ hI hsh har=>?_;obtain⟨h1,h2,h3⟩:=hB ρ S w φ har;exact ip.pure hI (Nv ho hu hsz h2 h3 (aE (R1.iB h1)).1 hy) (R1.CH (v:=.nl 0) rfl rfl).rw
 .cases h
end
section
variable{P:Program}{o:Oper}{vs:List V}{s:S2}{β:Type}{k:V->S2->List Nat->Option β}{r:β}{d:Option Nat}{as args:List Operand}{g:Option (Nat×Bool)}{t0:Ty}{fi:List Nat}{t el:TypeId}{sz:Nat}{x:Operand}{lo hi:Option Operand}
theorem F7{h:H2}{v:V}{n:Int}(hn:VN h v=some n):∃m:Nat,n=m:=by
 unfold VN at hn;split at hn
 .exact ⟨0,(af hn).symm⟩
 .split at hn
  .exact ⟨_,(af hn).symm⟩
  .cases hn
theorem Rq(ho:o.op=.slice t x lo hi none)(hu:P.underlying t=some (.slice el))(hsz:fh P el=some sz)(hok:∀v∈vs,fG s.next s.heap v)(hal:∀v∈vs,tM s.heap v=true)(hl:(x::lo.toList++hi.toList).length=vs.length)
  (h:part ⟨⟨d,.slice false sz lo.isSome hi.isSome,as,g⟩,t0,fi⟩ vs s k=some r):KT P o (x::lo.toList++hi.toList) vs s k r:=by
 cases lo with
 |none=>
  cases hi with
  |none=>
   match vs,h,hl with
   |[v],h,_=>
    simp only[part,gM,tO,oW]at h;split at h<;>first|(cases h;done)|(exact absurd (by assumption:false=true) (by simp))|(exact absurd (by assumption:true=false) (by simp))|skip
    rename_i e1 hn;obtain⟨m,rfl⟩:=F7 hn;cases e1;exact Nw (a:=none) (b:=none) ho hu hsz (hok v (by simp)) (hal v (by simp)) hn (fun ρ S w φ har=>⟨har.1,trivial,trivial⟩) h
  |some z=>
   match vs,h,hl with
   |[v,.x (.i q) c],h,_=>
    simp only[part,gM,tO,oW]at h;split at h<;>first|(cases h;done)|(exact absurd (by assumption:false=true) (by simp))|(exact absurd (by assumption:true=false) (by simp))|skip
    rename_i e1 hn;obtain⟨m,rfl⟩:=F7 hn;cases e1;exact Nw (a:=none) (b:=some c) ho hu hsz (hok v (by simp)) (hal v (by simp)) hn (fun ρ S w φ har=>⟨har.1,trivial,⟨q,R1.int har.2.1⟩⟩) h
 |some y=>
  cases hi with
  |none=>
   match vs,h,hl with
   |[v,.x (.i q) c],h,_=>
    simp only[part,gM,tO,oW]at h;split at h<;>first|(cases h;done)|(exact absurd (by assumption:false=true) (by simp))|(exact absurd (by assumption:true=false) (by simp))|skip
    rename_i e1 hn;obtain⟨m,rfl⟩:=F7 hn;cases e1;exact Nw (a:=some c) (b:=none) ho hu hsz (hok v (by simp)) (hal v (by simp)) hn (fun ρ S w φ har=>⟨har.1,⟨q,R1.int har.2.1⟩,trivial⟩) h
  |some z=>
   match vs,h,hl with
   |[v,.x (.i q) c,.x (.i q2) e],h,_=>
    simp only[part,gM,tO,oW]at h;split at h<;>first|(cases h;done)|(exact absurd (by assumption:false=true) (by simp))|(exact absurd (by assumption:true=false) (by simp))|skip
    rename_i e1 hn;obtain⟨m,rfl⟩:=F7 hn;cases e1;exact Nw (a:=some c) (b:=some e) ho hu hsz (hok v (by simp)) (hal v (by simp)) hn (fun ρ S w φ har=>⟨har.1,⟨q,R1.int har.2.1⟩,⟨q2,R1.int har.2.2.1⟩⟩) h
theorem MH{a b:Option Int}{z y:ByteArray}{vr:List V}(ho:o.op=.slice t x lo hi none)(hu:P.underlying t=some .string)(hB:∀(ρ:Operand->Value)(S:Nat->Prop)(w:World)(φ:iq),Ar S w φ ρ args (.x .s z::vr)->RW S w φ (.x .s z) (ρ x)/\QP ρ lo a/\QP ρ hi b)
  (hc:Jj z (a.getD 0) (b.getD z.size)=some y) (hk:k (.x .s y) s []=some r):KT P o args (.x .s z::vr) s k r:=
 PR.val hk trivial fun ρ S K w0 w φ H _ hI _ har=>by obtain⟨h1,h2,h3⟩:=hB ρ S w φ har;exact ip.pure hI (acW ho hu h2 h3 (xV (v:=.x .s z) rfl h1) hc) (R1.CH (v:=.x .s y) rfl rfl).rw
theorem O5(ho:o.op=.slice t x lo hi none)(hu:P.underlying t=some .string)(hl:(x::lo.toList++hi.toList).length=vs.length)(h:part ⟨⟨d,.slice true 1 lo.isSome hi.isSome,as,g⟩,t0,fi⟩ vs s k=some r):KT P o (x::lo.toList++hi.toList) vs s k r:=by
 cases lo with
 |none=>
  cases hi with
  |none=>match vs,h,hl with|[.x .s z],h,_=>obtain⟨y,hy,hk⟩:=zF (show(Jj z 0 z.size).bind (fun y=>k (.x .s y) s [])=some r from h);exact MH (a:=none) (b:=none) ho hu (fun ρ S w φ har=>⟨har.1,trivial,trivial⟩) hy hk
  |some z2=>match vs,h,hl with|[.x .s z,.x (.i q) c],h,_=>obtain⟨y,hy,hk⟩:=zF (show(Jj z 0 c).bind (fun y=>k (.x .s y) s [])=some r from h);exact MH (a:=none) (b:=some c) ho hu (fun ρ S w φ har=>⟨har.1,trivial,⟨q,R1.int har.2.1⟩⟩) hy hk
 |some y2=>
  cases hi with
  |none=>match vs,h,hl with|[.x .s z,.x (.i q) c],h,_=>obtain⟨y,hy,hk⟩:=zF (show(Jj z c z.size).bind (fun y=>k (.x .s y) s [])=some r from h);exact MH (a:=some c) (b:=none) ho hu (fun ρ S w φ har=>⟨har.1,⟨q,R1.int har.2.1⟩,trivial⟩) hy hk
  |some z2=>match vs,h,hl with|[.x .s z,.x (.i q) c,.x (.i q2) e],h,_=>obtain⟨y,hy,hk⟩:=zF (show(Jj z c e).bind (fun y=>k (.x .s y) s [])=some r from h);exact MH (a:=some c) (b:=some e) ho hu (fun ρ S w φ har=>⟨har.1,⟨q,R1.int har.2.1⟩,⟨q2,R1.int har.2.2.1⟩⟩) hy hk
theorem Lf{y:Operand}(ho:o.op=.index t x y)(hu:P.underlying t=some .string)(h:part ⟨⟨d,.Gb,as,g⟩,t0,fi⟩ vs s k=some r):KT P o [x,y] vs s k r:=by
 match vs,h with|[.x .s z,.x (.i q) i],h=>obtain⟨c,hc,hk⟩:=zF (show(atS z i).bind (fun c=>k (.x (.i .u8) c) s [])=some r from h);exact PR.val hk trivial fun ρ S K w0 w φ H _ hI _ har=>ip.pure hI (Se ho hu (R1.int har.2.1) (xV (v:=.x .s z) rfl har.1) hc) (R1.CH (v:=.x (.i .u8) c) rfl rfl).rw
theorem Rt{y:Operand}{agg:Bool}{len m:Nat}(ho:o.op=.index t x y)(hu:P.underlying t=some (.array len el))(ha:gx P el=some agg)(hs:fh P el=some m)(h:part ⟨⟨d,.index agg len m,as,g⟩,t0,fi⟩ vs s k=some r):KT P o [x,y] vs s k r:=by
 match vs,h with|[.x (.ar n' u) v,.x (.i q) i],h=>obtain⟨e,h⟩:=aN (show(bif(n'==len)&&(ei u==m)&&(kR u==agg)&&oq u&&(agg||m==1)then(bS i len).bind (fun j=>k (.x u (gt v.1 j)) s [])else none)=some r from h);obtain⟨j,hj,hk⟩:=zF h;simp only[ax,Bool.or_eq_true,beq_iff_eq]at e;obtain⟨⟨⟨⟨rfl,e2⟩,e3⟩,_⟩,e5⟩:=e;exact PR.val hk trivial fun ρ S K w0 w φ H _ hI _ har=>YA ho hu ha hs hI (R1.int har.2.1) har.1 e2 e3 (fun e=>e5.resolve_left (by simp[e])) hj
end
section
variable{P:Program}{o:Oper}{vs:List V}{s:S2}{β:Type}{k:V->S2->List Nat->Option β}{r:β}{d:Option Nat}{as args:List Operand}{g:Option (Nat×Bool)}{t0:Ty}{fi:List Nat}{t el:TypeId}{sz:Nat}{x y:Operand}
theorem PR.UA{v:V}(hk:k v s []=some r)(hv:fG s.next s.heap v)(hrun:∀(ρ:Operand->Value)(S K:Nat->Prop)(w0 w:World)(φ:iq)(H:Hf),(∀v,ρ (.const v)=v)->Inv S K w0 φ H w->A6 φ s.heap->Ar S w φ ρ args vs->ip P o ρ S K w0 w φ H s.next s.next v []):
  KT P o args vs s k r:=
 ⟨v,hk,aw _,mA.nil,hv,fun p hp=>by simp at hp,fun p hp=>by simp at hp,fun ρ S K w0 w φ H h1 h2 h3 h4 _ _=>hrun ρ S K w0 w φ H h1 h2 h3 h4⟩
theorem ani{u:Ty}{v:Sl (El u)}{q:IntKind}{i:Int}(ho:o.op=.indexAddr t x y)(hu:P.underlying t=some (.slice el))(hsz:fh P el=some sz)
  (h:part ⟨⟨d,.indexAddr none sz,as,g⟩,t0,fi⟩ [.x (.sl u) v,.x (.i q) i] s k=some r):KT P o [x,y] [.x (.sl u) v,.x (.i q) i] s k r:=by
 obtain⟨e,h⟩:=aN (show(bif ei u==sz then(bS i v.l.length).bind (fun m=>k (.pt u (gt v.l m)) s [])else none)=some r from h);obtain⟨m,hm,hk⟩:=zF h;obtain rfl:=eq_of_beq e;exact PR.UA hk trivial fun ρ S K w0 w φ H _ hI _ har=>by obtain⟨bb,off,len,cap,e1,h0,h1,rfl,h3⟩:=anh (show RT S w (.sl u) v [ρ x]from(R1.iB har.1)) hm;exact ip.pure hI (Gh ho hu hsz (R1.int har.2.1) e1 h0 h1) h3
theorem RG{α:Type}{v:Sl α}{i:Int}{m:Nat}(hm:bS i v.l.length=some m):v.rp=false:=by cases v with|nil=>exact absurd (yd hm).2.2.2 (by simp[Sl.l])|mk r=>rfl
theorem af7{id n lo:Nat}{u:Ty}{v:Sl (El u)}{q:IntKind}{i:Int}(ho:o.op=.indexAddr t x y)(hu:P.underlying t=some (.slice el))(hsz:fh P el=some sz)(hok:fG s.next s.heap (.sb id n lo u v))
  (h:part ⟨⟨d,.indexAddr none sz,as,g⟩,t0,fi⟩ [.sb id n lo u v,.x (.i q) i] s k=some r):KT P o [x,y] [.sb id n lo u v,.x (.i q) i] s k r:=by
 obtain⟨e,h⟩:=aN (show(bif ei u==sz then(bS i v.l.length).bind (fun m=>k (.ep id (lo+m) u []) s [])else none)=some r from h);obtain⟨m,hm,hk⟩:=zF h;obtain rfl:=eq_of_beq e;have hn:v.rp=false:=RG hm;exact PR.UA hk ⟨hok.1,hok.2.1 hn⟩ fun ρ S K w0 w φ H _ hI _ har=>by obtain⟨l1,k1,rfl,k3,k4⟩:=R1.iB (v:=.sb id n lo u v) har.1;cases v with|nil=>exact absurd (yd hm).2.2.2 (by simp[Sl.l])|mk rr=>obtain⟨bb,off,len,cap,e1,h0,h1,rfl,h3⟩:=Zp k1 k4 k3 hm;exact ip.pure hI (Gh ho hu hsz (R1.int har.2.1) e1 h0 h1) h3
theorem aex{id m0:Nat}{u:Ty}{v:V}{q:IntKind}{i:Int}{m:Nat}(ho:o.op=.indexAddr t x y)(hu:P.underlying t=some (.slice el))(hsz:fh P el=some (ei u))(hid:id<s.next)(hno:∀o,fO s.heap id=some o->nnl o)(hv:v=.so id\/v=.sr id)
  (hs:∀φ l,A6 φ s.heap->φ id=some l->l.t=u/\l.n=some m0) (hm:bS i m0=some m) (hk:k (.ep id m u []) s []=some r):KT P o [x,y] [v,.x (.i q) i] s k r:=
 PR.UA hk ⟨hid,hno⟩ fun ρ S K w0 w φ H _ hI hp har=>by
  have h1:∃l,φ id=some l/\E6 l 0 l.n [ρ x]:=by
   rcases hv with rfl|rfl
   .exact R1.iB (v:=.so id) har.1
   .exact R1.iB (v:=.sr id) har.1
  obtain⟨l1,k1,k4⟩:=h1;obtain⟨rfl,k5⟩:=hs φ l1 hp k1;rw[k5]at k4;obtain⟨bb,off,len,cap,e1,h0,h1,rfl,h3⟩:=Zp k1 k4 ⟨m0,k5,by omega⟩ hm;rw[dJ]at h3;exact ip.pure hI (Gh ho hu hsz (R1.int har.2.1) e1 h0 h1) h3
theorem TH{α:Type}{v:Sl α}{i:Int}{m:Nat}(hm:bS i v.l.length=some m):nB v=some v.l.length:=by cases v with|nil=>exact absurd (yd hm).2.2.2 (by simp[Sl.l])|mk r=>rfl
theorem acr{a:V}{q:IntKind}{i:Int}(ho:o.op=.indexAddr t x y)(hu:P.underlying t=some (.slice el))(hsz:fh P el=some sz)(hok:∀v∈[a,.x (.i q) i],fG s.next s.heap v)
  (h:part ⟨⟨d,.indexAddr none sz,as,g⟩,t0,fi⟩ [a,.x (.i q) i] s k=some r):KT P o [x,y] [a,.x (.i q) i] s k r:=by
 cases a<;>first|(cases h;done)|skip
 case x ta v=>
  cases ta<;>first|(cases h;done)|skip
  exact ani ho hu hsz h
 case sb id n lo u v=>exact af7 ho hu hsz (hok _ (by simp)) h
 case so id=>
  change (match Oo s.heap (.so id)with|some ⟨t,v,_⟩=>bif ei t==sz then(bS i v.l.length).bind fun m=>k (.ep id m t []) s []else none|none=>none)=_ at h;split at h<;>first|(cases h;done)|skip
  rename_i u v l hv;obtain⟨e,h⟩:=aN h;obtain⟨m,hm,hk⟩:=zF h;obtain rfl:=eq_of_beq e;simp only[Oo]at hv;split at hv<;>first|(cases hv;done)|skip
  all_goals
   rename_i o' ho';refine aex ho hu hsz (hok (.so id) (by simp)) (fun o ho=>by rw[ho']at ho;cases ho;cases hv;exact RG hm) (.inl rfl) (fun φ l1 hp h1=>?_) hm hk;obtain⟨e1,e2⟩:=hp id l1 _ h1 ho';cases hv;exact⟨e1,e2.trans (TH hm)⟩
 case sr id=>
  change (match fO s.heap id with|some (.rw t v _)=>bif 1==sz then(bS i v.l.length).bind fun m=>k (.ep id m (.sl t) []) s []else none|_=>none)=_ at h;split at h<;>first|(cases h;done)|skip
  rename_i u v l hv;obtain⟨e,h⟩:=aN h;obtain⟨m,hm,hk⟩:=zF h;obtain rfl:=eq_of_beq e;refine aex (u:=.sl u) ho hu hsz (hok (.sr id) (by simp)) (fun o ho=>by rw[hv]at ho;cases ho;exact RG hm) (.inr rfl) (fun φ l1 hp h1=>?_) hm hk;obtain⟨e1,e2⟩:=hp id l1 _ h1 hv;exact⟨e1,e2.trans (TH hm)⟩
theorem JL(ho:o.op=.indexAddr t x y)(hu:P.underlying t=some (.slice el))(hsz:fh P el=some sz)(hok:∀v∈vs,fG s.next s.heap v)
  (h:part ⟨⟨d,.indexAddr none sz,as,g⟩,t0,fi⟩ vs s k=some r):KT P o [x,y] vs s k r:=by
 rcases vs with _|⟨a,_|⟨b,_|⟨c,vr⟩⟩⟩
 case cons.cons.nil=>
  cases b<;>first|(cases h;done)|skip
  rename_i tb i;cases tb<;>first|(cases h;done)|skip
  rename_i q;exact acr ho hu hsz hok h
 case cons.cons.cons=>
  cases b<;>first|(cases h;done)|skip
  rename_i tb i;cases tb<;>cases h
 all_goals cases h
end
section
variable{P:Program}{o:Oper}{vs:List V}{s:S2}{β:Type}{k:V->S2->List Nat->Option β}{r:β}{d:Option Nat}{as args:List Operand}{g:Option (Nat×Bool)}{t0:Ty}{fi:List Nat}{t el:TypeId}{sz n:Nat}{x y:Operand}
theorem af5{id:Nat}{t1:Ty}{p:xK}{q:IntKind}{i:Int}(ho:o.op=.indexAddr t x y)(hu:P.underlying t=some (.array n el))(hsz:fh P el=some sz)(hok:fG s.next s.heap (.op id t1 p))
  (h:part ⟨⟨d,.indexAddr (some n) sz,as,g⟩,t0,fi⟩ [.op id t1 p,.x (.i q) i] s k=some r):KT P o [x,y] [.op id t1 p,.x (.i q) i] s k r:=by
 change (match Fw t1 p with|some (.ar n' u)=>bif(n'==n)&&(ei u==sz)then(bS i n).bind fun m=>k (.op id t1 (p++[(.ix m:Pe)])) s []else none|_=>none)=_ at h;split at h<;>first|(cases h;done)|skip
 rename_i n' u hp;obtain⟨e,h⟩:=aN h;obtain⟨m,hm,hk⟩:=zF h;simp only[ax,beq_iff_eq]at e;obtain⟨rfl,rfl⟩:=e;exact PR.UA hk hok fun ρ S K w0 w φ H _ hI _ har=>by obtain⟨l1,k1,k2,k3,e1⟩:=R1.iB (v:=.op id t1 p) har.1;obtain⟨h0,h1,rfl,h2⟩:=yd hm;obtain⟨q1,q2⟩:=YJ k3 hp (k:=i.toNat) (by omega);exact ip.pure hI (Kn ho hu hsz (R1.int har.2.1) (aE e1).1 h0 h1) (R1.CH (v:=.op id t1 _) ⟨l1,k1,k2,q1,by rw[q2]⟩ rfl).rw
theorem af6{id j:Nat}{t1:Ty}{p:xK}{q:IntKind}{i:Int}(ho:o.op=.indexAddr t x y)(hu:P.underlying t=some (.array n el))(hsz:fh P el=some sz)(hok:fG s.next s.heap (.ep id j t1 p))
  (h:part ⟨⟨d,.indexAddr (some n) sz,as,g⟩,t0,fi⟩ [.ep id j t1 p,.x (.i q) i] s k=some r):KT P o [x,y] [.ep id j t1 p,.x (.i q) i] s k r:=by
 change (match Fw t1 p with|some (.ar n' u)=>bif(n'==n)&&(ei u==sz)then(bS i n).bind fun m=>k (.ep id j t1 (p++[(.ix m:Pe)])) s []else none|_=>none)=_ at h;split at h<;>first|(cases h;done)|skip
 rename_i n' u hp;obtain⟨e,h⟩:=aN h;obtain⟨m,hm,hk⟩:=zF h;simp only[ax,beq_iff_eq]at e;obtain⟨rfl,rfl⟩:=e;exact PR.UA hk hok fun ρ S K w0 w φ H _ hI _ har=>by obtain⟨l1,mm,k1,k2,k4,k5,k3,e1⟩:=R1.iB (v:=.ep id j t1 p) har.1;obtain⟨h0,h1,rfl,h2⟩:=yd hm;obtain⟨q1,q2⟩:=YJ k3 hp (k:=i.toNat) (by omega);exact ip.pure hI (Kn ho hu hsz (R1.int har.2.1) (aE e1).1 h0 h1) (R1.CH (v:=.ep id j t1 _) ⟨l1,mm,k1,k2,k4,k5,q1,by rw[q2,Nat.add_assoc]⟩ rfl).rw
theorem af4{n':Nat}{u:Ty}{v:Arr n' (El u)}{q:IntKind}{i:Int}(ho:o.op=.indexAddr t x y)(hu:P.underlying t=some (.array n el))(hsz:fh P el=some sz)
  (h:part ⟨⟨d,.indexAddr (some n) sz,as,g⟩,t0,fi⟩ [.pt (.ar n' u) v,.x (.i q) i] s k=some r):KT P o [x,y] [.pt (.ar n' u) v,.x (.i q) i] s k r:=by
 obtain⟨e,h⟩:=aN (show(bif(n'==n)&&(ei u==sz)then(bS i n).bind (fun m=>k (.pt u (gt v.1 m)) s [])else none)=some r from h);obtain⟨m,hm,hk⟩:=zF h;simp only[ax,beq_iff_eq]at e;obtain⟨rfl,rfl⟩:=e;exact PR.UA hk trivial fun ρ S K w0 w φ H _ hI _ har=>by obtain⟨bb,off,c,e1,k1,k2,k3⟩:=R1.iB (v:=.pt (.ar n' u) v) har.1;obtain⟨h0,h1,rfl,h5⟩:=yd hm;obtain⟨p,mm,q,rfl,r1,r2,_⟩:=Cq (fun _ _ _ h=>RT.len h) (by rw[v.2];exact h5) (show o_ (RT S w u) v.1 c from k2);exact ip.pure hI (Kn ho hu hsz (R1.int har.2.1) (aE e1).1 h0 h1) (R1.CH (v:=.pt u _) ⟨bb,_,mm,rfl,k1,r2,by rw[<-r1];exact xM k3⟩ rfl).rw
theorem Im(ho:o.op=.indexAddr t x y)(hu:P.underlying t=some (.array n el))(hsz:fh P el=some sz)(hok:∀v∈vs,fG s.next s.heap v)
  (h:part ⟨⟨d,.indexAddr (some n) sz,as,g⟩,t0,fi⟩ vs s k=some r):KT P o [x,y] vs s k r:=by
 rcases vs with _|⟨a,_|⟨b,_|⟨c,vr⟩⟩⟩
 case cons.cons.nil=>
  cases b<;>first|(cases h;done)|skip
  rename_i tb i;cases tb<;>first|(cases h;done)|skip
  cases a<;>first|(cases h;done)|skip
  case op=>exact af5 ho hu hsz (hok _ (by simp)) h
  case ep=>exact af6 ho hu hsz (hok _ (by simp)) h
  case pt ta v=>
   cases ta<;>first|(cases h;done)|skip
   exact af4 ho hu hsz h
 case cons.cons.cons=>
  cases b<;>first|(cases h;done)|skip
  rename_i tb i;cases tb<;>cases h
 all_goals cases h
end
section
variable{P:Program}{o:Oper}{vs:List V}{s:S2}{β:Type}{k:V->S2->List Nat->Option β}{r:β}{d:Option Nat}{as args:List Operand}{g:Option (Nat×Bool)}{t0:Ty}{fi:List Nat}{t el:TypeId}{sz n:Nat}{x y:Operand}
theorem Zb{id m:Nat}{u:Ty}(ho:o.op=.load t x)(hag:gx P t=some false)(hs:fh P t=some 1)(hok:id<s.next)
  (h:part ⟨⟨d,.PC,as,g⟩,t0,fi⟩ [.ep id m u []] s k=some r):PR P o [x] [.ep id m u []] s k r:=by
 change (match fO s.heap id with|some (.rw t v none)=>bif decide (u=Ty.sl t)then(k (.so s.next) (tE (j8 s id (some (.rw t v (some (m,s.next))))) (.ar t (gt v.l m) 0)) [id])else none|_=>none)=_ at h;split at h<;>first|(cases h;done)|skip
 rename_i u v hv;obtain⟨e,h2⟩:=aN h;obtain rfl:=of_decide_eq_true e;refine⟨.so s.next,[(s.next,some (.ar u (gt v.l m) 0)),(id,some (.rw u v (some (m,s.next))))],s.next+1,[id],h2,cA _,?_,bh _,?_,?_,fun ρ S K w0 w φ H _ hI _ har hl hn=>Yz ho hag hs hI har.1 ((hl id (by simp)).trans hv) (hn _ (aw _) (bh _))⟩
 .exact mA.cons (fun _ _=>.inl (aw _)) (mA.cons (fun o' e=>.inr (.inr ⟨_,hv,by cases e;exact⟨rfl,rfl⟩⟩)) mA.nil)
 .intro p hp t c e;simp only[aO,bF,or_false]at hp;rcases hp with rfl|rfl<;>cases e
 .intro p hp;simp only[aO,bF,or_false]at hp;rcases hp with rfl|rfl
  .exact .inl ⟨bh _,trivial⟩
  .exact .inl ⟨Nat.lt_succ_of_lt hok,bh _⟩
theorem Xs{id:Nat}{u:Ty}{p:xK}{wv:V}(ho:o.op=.store t x y)(hs:fh P t=some n)(hok:∀v∈[V.op id u p,wv],fG s.next s.heap v)(hbx:∀id t c,fO s.heap id=some (.bx t c)->fG s.next s.heap c)
  (h:part ⟨⟨d,.store n,as,g⟩,t0,fi⟩ [.op id u p,wv] s k=some r):PR P o [x,y] [.op id u p,wv] s k r:=by
 obtain⟨e,h1⟩:=aN (show(bif(LG wv==n)then(match fO s.heap id with
  |some (.bx u1 c)=>bif decide (u1=u)then(match Fw u p with
   |some a=>(match QL a wv with
    |some w=>(match vD c p w with|some c=>bif fg c false u then k (.tp .ni) (j8 s id (some (.bx u c))) [id]else none|none=>none)
    |none=>none)
   |none=>none)else none
  |_=>none)else none)=some r from h)
 obtain rfl:=eq_of_beq e;split at h1<;>first|(cases h1;done)|skip
 rename_i u1 c hv;obtain⟨e1,h2⟩:=aN h1;obtain rfl:=of_decide_eq_true e1;split at h2<;>first|(cases h2;done)|skip
 rename_i a ha;split at h2<;>first|(cases h2;done)|skip
 rename_i w1 hw;split at h2<;>first|(cases h2;done)|skip
 rename_i c' hc;obtain⟨e2,h3⟩:=aN h2;have hu:mA s.next s.heap [(id,some (.bx u1 c'))]:=mA.cons (fun o' e=>.inr (.inl (by cases e;rfl))) mA.nil;refine⟨.tp .ni,[(id,some (.bx u1 c'))],s.next,[id],h3,aw _,hu,trivial,?_,?_,fun ρ S K w0 w φ H _ hI _ har hl hn=>Pc ho hs hI har.1 har.2.1 ((hl id (by simp)).trans hv) ha hw hc e2⟩
 .intro p hp t c e;obtain rfl:=aB.1 hp;cases e;exact eA (aw _) hu.gj (FW (hbx _ _ _ hv) (IV (hok wv (by simp)) hw) hc)
 .intro p hp;obtain rfl:=aB.1 hp;exact .inl ⟨hok (.op id u1 p) aL,trivial⟩
theorem Rs(ho:o.op=.load t x)(hag:gx P t=some false)(hs:fh P t=some 1)(hok:∀v∈vs,fG s.next s.heap v)
  (h:part ⟨⟨d,.PC,as,g⟩,t0,fi⟩ vs s k=some r):PR P o [x] vs s k r:=by
 rcases vs with _|⟨a,_|⟨b,vr⟩⟩
 case cons.nil=>
  cases a<;>first|(cases h;done)|skip
  rename_i id m u p;cases p<;>first|(cases h;done)|skip
  exact Zb ho hag hs (hok (.ep id m _ []) aL).1 h
 case cons.cons=>
  cases a<;>first|(cases h;done)|skip
  rename_i id m u p;cases p<;>cases h
 all_goals cases h
end
end Go.Ev
