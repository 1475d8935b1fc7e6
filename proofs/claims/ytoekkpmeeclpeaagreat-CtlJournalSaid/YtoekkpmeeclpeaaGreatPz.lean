/- What lasts in the text's heap: kinds of slices, parts. Conditions: as stated. -/
import Derived.Test.YtoekkpmeeclpeaaGreatPr
open Bool renaming and_eq_true->ax
open List renaming length_drop->ia,length_take->bU,mem_cons->aI,mem_cons_self->aF,mem_singleton->az,not_mem_nil->aX
open List.cons renaming inj->aB
open Nat renaming le_refl->aq,le_succ->aO,lt_of_lt_of_le->bY,lt_succ_self->aM,zero_add->cW
open Option renaming isSome_none->pE,isSome_some->lP
open Option.some renaming inj->ac
open Prod.mk renaming inj->ap
namespace Go.Ev
def SU(t u:Ty)(s:Sl (El t))(s':Sl (El u))(v v':Nat):Prop:=v<=v'/\t=u/\kJ s=kJ s'/\(v=v'->YK t s=YK u s')
def Ch:O->O->Prop
 |.ar t s v,.ar u s' v'|.ar t s v,.im u s' v'|.im t s v,.im u s' v'=>SU t u s s' v v'
 |.mp _ _ _,.mp _ _ _=>True
 |.rw t s _,.rw u s' _=>t=u/\kJ (s:Sl (Sl (El t)))=kJ (s':Sl (Sl (El u)))
 |_,_=>False
def S9:O->Bool
 |.bx _ _|.ib _ _=>true
 |_=>false
def yI(n:Nat)(h h':H2):Prop:=∀id o',id<n->fO h' id=some o'->S9 o'=true\/∃o,fO h id=some o/\Ch o o'
theorem SU.refl(t:Ty)(s:Sl (El t))(v:Nat):SU t t s s v v:=⟨aq _,rfl,rfl,fun _=>rfl⟩
theorem SU.trans{t u w:Ty}{s:Sl (El t)}{s':Sl (El u)}{s2:Sl (El w)}{a b c:Nat}(h1:SU t u s s' a b)(h2:SU u w s' s2 b c):SU t w s s2 a c:=by
 obtain⟨a1,rfl,a3,a4⟩:=h1;obtain⟨b1,rfl,b3,b4⟩:=h2;refine⟨Nat.le_trans a1 b1,rfl,a3.trans b3,fun e=>?_⟩;obtain rfl:a=b:=by omega
 exact(a4 rfl).trans (b4 e)
theorem Ch.refl{o:O}(h:S9 o=false):Ch o o:=by cases o<;>simp_all[Ch,SU,S9]
theorem Ch.trans{a b c:O}(h1:Ch a b)(h2:Ch b c):Ch a c:=by
 cases a<;>cases b<;>simp only[Ch]at h1<;>first|exact h1.elim|skip
 all_goals(cases c<;>simp only[Ch]at h2|-<;>first|exact h2.elim|skip)
 all_goals first|exact h1.trans h2|exact⟨h1.1.trans h2.1,h1.2.trans h2.2⟩
theorem Ch.abO{a b:O}(h:Ch a b):S9 a=false:=by cases a<;>cases b<;>first|rfl|exact h.elim
theorem yI.refl(n:Nat)(h:H2):yI n h h:=fun _ o _ ho=>by
 cases e:S9 o
 .exact .inr ⟨o,ho,Ch.refl e⟩
 .exact .inl rfl
theorem yI.trans{n n':Nat}{a b c:H2}(hn:n<=n')(h1:yI n a b)(h2:yI n' b c):yI n a c:=fun id o' hi ho=>by
 rcases h2 id o' (by omega) ho with q|⟨o1,h3,h4⟩
 .exact .inl q
 .rcases h1 id o1 hi h3 with q|⟨o2,h5,h6⟩
  .rw [h4.abO]at q;cases q
  .exact .inr ⟨o2,h5,h6.trans h4⟩
def By(n:Nat):Option O->Prop
 |some (.rw _ _ (some p))=>p.2<n
 |_=>True
theorem By.mono{n m:Nat}(h:n<=m){x:Option O}(hx:By n x):By m x:=by
 unfold By at hx|-;split
 .simp only at hx;omega
 .trivial
abbrev Yx(n:Nat)(p:Nat×Option O):Prop:=(p.1<n/\By n p.2)\/p.2=none
theorem Yx.mono{n m:Nat}(h:n<=m){p:Nat×Option O}(hp:Yx n p):Yx m p:=hp.imp (fun q=>⟨by omega,q.2.mono h⟩) id
def j7(n:Nat)(h:H2)(u:sd):Prop:=∀p∈u,∀o',p.2=some o'->n<=p.1\/S9 o'=true\/∃o,fO h p.1=some o/\Ch o o'
theorem j7.fh{n:Nat}{h:H2}{u:sd}(hu:j7 n h u):yI n h (u++h):=fun id o' hi ho=>by
 rw[qP]at ho;simp only[up]at ho;cases e:gI u id with
 |none=>rw[e]at ho;exact yI.refl n h id o' hi ho
 |some x=>
  rw[e]at ho;rcases hu _ (lJ.1 x e) o' ho with q|q|q
  .exact absurd hi (by simpa using q)
  .exact .inl q
  .exact .inr q
theorem j7.nil{n:Nat}{h:H2}:j7 n h []:=fun p hp=>by simp at hp
theorem j7.cons{n:Nat}{h:H2}{id:Nat}{x:Option O}{u:sd}(h1:∀o',x=some o'->n<=id\/S9 o'=true\/∃o,fO h id=some o/\Ch o o')(hu:j7 n h u):j7 n h ((id,x)::u):=fun p hp o' ho=>by
 rcases aI.1 hp with rfl|hp
 .exact h1 o' ho
 .exact hu p hp o' ho
theorem j7.append{n:Nat}{h:H2}{u v:sd}(h1:j7 n h u)(h2:j7 n h v):j7 n h (u++v):=fun p hp=>(List.mem_append.1 hp).elim (h1 p) (h2 p)
theorem vk.mono{φ:fT}{n:Nat}{h h':H2}(hs:vk φ h)(hh:yI n h h')(hφ:∀i l,φ i=some l->i<n):vk φ h':=fun id l o' hl ho=>by
 rcases hh id o' (hφ id l hl) ho with q|⟨o,h1,h2⟩
 .cases o'<;>first|(cases q;done)|trivial
 .have:=hs id l o hl h1;cases o<;>cases o'<;>simp only[Ch]at h2<;>first|exact h2.elim|skip
  all_goals simp only[Cl]at this|-
  .exact ⟨this.1.trans h2.2.1,this.2.trans h2.2.2.1⟩
  .exact ⟨this.1.trans h2.2.1,this.2.trans h2.2.2.1⟩
  .exact ⟨this.1.trans h2.2.1,this.2.trans h2.2.2.1⟩
  .exact ⟨this.1.trans (by rw[h2.1]),this.2.trans h2.2⟩
theorem Vc{u t u':Ty}{s:Sl (El u)}{s':Sl (El u')}{lo:Nat}{r:Sl (El t)}(e:YK u s=YK u' s')(h:Ju u t s lo r):Ju u' t s' lo r:=by obtain⟨rfl,e⟩:=Sigma.mk.inj e;obtain rfl:=eq_of_heq e;exact h
theorem Ch.Ug{a b:O}(h:Ch a b)(hn:Ug a):Ug b:=by
 have key:∀{α β:Type}{s:Sl α}{s':Sl β},kJ s=kJ s'->s.od=false->s'.od=false:=by intro α β s s' h;cases s<;>cases s'<;>simp_all[kJ,Sl.od]
 cases a<;>cases b<;>simp only[Ch]at h<;>first|exact h.elim|trivial|exact key h.2.2.1 hn|exact key h.2 hn
theorem II{n id:Nat}{h h':H2}(hs:yI n h h')(hi:id<n)(hn:∀o,fO h id=some o->Ug o):∀o,fO h' id=some o->Ug o:=fun o ho=>by
 rcases hs id o hi ho with q|⟨o0,h3,h4⟩
 .cases o<;>first|trivial|cases q
 .exact h4.Ug (hn o0 h3)
theorem dU{n n':Nat}{h h':H2}(hn:n<=n')(hs:yI n h h'):∀{v:V},d9 n h v->d9 n' h' v:=by
 intro v;induction v with
 |sb id ver lo t r=>
  rintro⟨h1,h0,h2⟩;refine⟨by omega,fun e=>II hs h1 (h0 e),fun u s v ho=>?_⟩
  have key:∀{o':O},fO h' id=some o'->(o'=.ar u s v\/o'=.im u s v)->ver<=v/\(v=ver->Ju u t s lo r):=by
   intro o' ho he;rcases hs id o' h1 ho with q|⟨o,h3,h4⟩
   .rcases he with rfl|rfl<;>cases q
   .have:∃u0 s0 v0,(fO h id=some (.ar u0 s0 v0)\/fO h id=some (.im u0 s0 v0))/\SU u0 u s0 s v0 v:=by rcases he with rfl|rfl<;>cases o<;>simp only[Ch]at h4<;>first|exact h4.elim|exact⟨_,_,_,.inl h3,h4⟩|exact⟨_,_,_,.inr h3,h4⟩
    obtain⟨u0,s0,v0,k1,k2,k3,k4,k5⟩:=this;obtain⟨q1,q2⟩:=h2 u0 s0 v0 k1;refine⟨by omega,fun e=>?_⟩;obtain rfl:v0=v:=by omega
    exact Vc (k5 rfl) (q2 e)
  rcases ho with ho|ho
  .exact key ho (.inl rfl)
  .exact key ho (.inr rfl)
 |fn z f l ih=>intro hv;exact ih hv
 |rc l ih=>intro hv;exact ih hv
 |tp l ih=>intro hv;exact ih hv
 |co a r iha ihr=>rintro⟨h1,h2⟩;exact⟨iha h1,ihr h2⟩
 |so id|sr id|om id|vs id t=>intro hv;exact bY hv hn
 |op id t p=>intro hv;exact bY hv hn
 |ep id m t p=>rintro⟨h1,h2⟩;exact⟨by omega,II hs h1 h2⟩
 |_=>intro _;trivial
theorem aC{α:Type}{c:Bool}{x:Option α}{b:α}(h:(bif c then x else none)=some b):c=true/\x=some b:=by
 cases c
 .cases h
 .exact ⟨rfl,h⟩
section
variable{n:Nat}{h:H2}
theorem CU:∀{l:V}{i:Nat}{x:V},d9 n h l->xz l i=some x->d9 n h x:=by
 intro l;induction l with
 |co a r _ ihr=>rintro i x ⟨h1,h2⟩ hx;cases i with|zero=>obtain rfl:=ac hx;exact h1|succ i=>exact ihr h2 hx
 |_=>intro i x _ hx;simp[xz]at hx
theorem Md:∀{l y:V}{i:Nat},d9 n h l->d9 n h y->d9 n h (Gs l i y):=by
 intro l;induction l with
 |co a r _ ihr=>rintro y i ⟨h1,h2⟩ hy;cases i with|zero=>exact⟨hy,h2⟩|succ i=>exact⟨h1,ihr h2 hy⟩
 |_=>intro y i hl _;exact hl
theorem Mc:∀{t:Ty}{v:El t},d9 n h (PF t v):=by intro t;induction t with|pr a c _ ihc=>intro v;exact⟨trivial,ihc⟩|_=>intro v;exact⟨trivial,trivial⟩
theorem DG:∀{t:Ty}{v:El t}{i:Nat}{x:V},BE t v i=some x->d9 n h x:=by
 intro t;induction t with
 |pr a c _ ihc=>intro v i x hx;cases i with|zero=>obtain rfl:=ac hx;trivial|succ i=>exact ihc hx
 |_=>intro v i x hx;cases i with|zero=>obtain rfl:=ac hx;trivial|succ i=>simp[BE]at hx
theorem DF:∀{p:sK}{v x:V},d9 n h v->ul v p=some x->d9 n h x:=by
 intro p;induction p with
 |nil=>
  intro v x hv hx;obtain rfl:v=x:=by simpa[ul]using hx
  exact hv
 |cons q p ih=>
  intro v x hv hx;cases v<;>first|(simp[ul]at hx;done)|skip
  .rename_i t v;cases t<;>cases q<;>first|(simp[ul]at hx;done)|skip
   .simp only[ul]at hx;split at hx
    .rename_i w hw;exact ih (DG hw) hx
    .cases hx
   .exact ih (v:=.x _ _) trivial hx
  .rename_i l;cases q<;>first|(simp[ul]at hx;done)|skip
   simp only[ul]at hx;split at hx
   .rename_i w hw;exact ih (CU (l:=l) hv hw) hx
   .cases hx
theorem Au:∀{p:sK}{v y x:V},d9 n h v->d9 n h y->qM v p y=some x->d9 n h x:=by
 intro p;induction p with
 |nil=>
  intro v y x _ hy hx;obtain rfl:y=x:=by simpa[qM]using hx
  exact hy
 |cons q p ih=>
  intro v y x hv hy hx;cases v<;>first|(simp[qM]at hx;done)|skip
  .rename_i t v;cases t<;>cases q<;>first|(simp[qM]at hx;done)|skip
   .simp only[qM]at hx;split at hx<;>first|(cases hx;done)|skip
    rename_i w hw;split at hx<;>first|(cases hx;done)|skip
    rename_i y' hy';split at hx
    .obtain rfl:=ac hx;trivial
    .obtain rfl:=ac hx;exact Md Mc (ih (DG hw) hy hy')
   .simp only[qM]at hx;split at hx<;>first|(cases hx;done)|skip
    split at hx<;>first|(cases hx;done)|skip
    obtain rfl:=ac hx;trivial
  .rename_i l;cases q<;>first|(simp[qM]at hx;done)|skip
   simp only[qM]at hx;split at hx<;>first|(cases hx;done)|skip
   rename_i w hw;split at hx<;>first|(cases hx;done)|skip
   rename_i y' hy';obtain rfl:=ac hx;exact Md (l:=l) hv (ih (CU (l:=l) hv hw) hy hy')
theorem CV{t:Ty}{v x:V}(hv:d9 n h v)(hx:J2 t v=some x):d9 n h x:=by
 unfold J2 at hx;split at hx
 .obtain rfl:=ac hx;trivial
 .cases e:dJ v false t<;>rw[e]at hx
  .cases hx
  .obtain rfl:=ac hx;exact hv
theorem GF:∀{vs:List V},(∀v∈vs,d9 n h v)->d9 n h (eP vs):=by intro vs;induction vs with|nil=>intro _;trivial|cons v vs ih=>intro hv;exact⟨hv v (by simp),ih fun x hx=>hv x (by simp[hx])⟩
theorem Me{t:Ty}:∀{is:List Nat}{ps:List (Nat×Nat)}{ws:List V}{c c':V},d9 n h c->(∀v∈ws,d9 n h v)->JG t is ps ws c=some c'->d9 n h c':=by
 intro is;induction is with
 |nil=>intro ps ws c c' hc _ hb;cases ps<;>cases ws<;>first|(cases hb;done)|(obtain rfl:=ac hb;exact hc)
 |cons i is ih=>
  intro ps ws c c' hc hw hb;cases ps<;>cases ws<;>first|(cases hb;done)|skip
  rename_i q ps w ws;obtain⟨off,m⟩:=q;have hw2:=fun v hv=>hw v (List.mem_cons_of_mem _ hv);have gP:∀{u:Ty}{e:Pe}{B:Bool},(match J2 u w with|some w=>(match qM c [e] w with|some c=>bif B then JG t is ps ws c else none|none=>none)|none=>none)=some c'->True:=fun _=>trivial;cases t<;>first|(cases hb;done)|skip
  .rename_i u;change (match E_ u i with|some a=>_|none=>none)=_ at hb;split at hb<;>first|(cases hb;done)|skip
   rename_i a ha;cases e:(EL u i==off&&dh a==m)<;>rw[e]at hb
   .cases hb
   simp only[cond_true]at hb;split at hb<;>first|(cases hb;done)|skip
   rename_i w1 h1;split at hb<;>first|(cases hb;done)|skip
   rename_i c1 h2;cases e2:dJ c1 false (.st u)<;>rw[e2]at hb
   .cases hb
   exact ih (Au hc (CV (hw w (by simp)) h1) h2) hw2 hb
  .rename_i q u;change (bif(i*dh u==off)&&(dh u==m)&&decide (i<q)then _ else none)=_ at hb;cases e:((i*dh u==off)&&(dh u==m)&&decide (i<q))<;>rw[e]at hb
   .cases hb
   simp only[cond_true]at hb;split at hb<;>first|(cases hb;done)|skip
   rename_i w1 h1;split at hb<;>first|(cases hb;done)|skip
   rename_i c1 h2;cases e2:dJ c1 false (.ar q u)<;>rw[e2]at hb
   .cases hb
   exact ih (Au hc (CV (hw w (by simp)) h1) h2) hw2 hb
theorem GE:∀{t:Ty},d9 n h (F_ t).1/\d9 n h (F_ t).2:=by intro t;induction t with|pr a c iha ihc=>exact⟨trivial,iha.1,ihc.2⟩|st t ih=>simp only[F_];cases lq t<;>simp[d9,ih.2]|ar m t _=>simp only[F_];cases lq t<;>simp[d9]|sl t _=>simp only[F_];cases lq t<;>simp[d9]|_=>simp[F_,d9]
theorem IG{v x:V}{l:List Nat}(hb:∀id t c,fO h id=some (.bx t c)->d9 n h c)(hx:AD h v=some (x,l)):d9 n h x:=by
 unfold AD at hx;split at hx
 .obtain ⟨rfl,rfl⟩:=ap (ac hx);trivial
 .split at hx<;>first|(cases hx;done)|skip
  .rename_i u c ho;cases e:decide (u=_)<;>rw[e]at hx
   .cases hx
   simp only[cond_true]at hx;split at hx<;>first|(cases hx;done)|skip
   rename_i y hy;obtain⟨rfl,rfl⟩:=ap (ac hx);exact DF (hb _ _ _ ho) hy
  .rename_i u c ho;cases e:decide (u=_)<;>rw[e]at hx
   .cases hx
   simp only[cond_true]at hx;split at hx<;>first|(cases hx;done)|skip
   rename_i y hy;obtain⟨rfl,rfl⟩:=ap (ac hx);exact DF (v:=.x _ _) trivial hy
 .split at hx<;>first|(cases hx;done)|skip
  all_goals
   rename_i u s v ho;cases e:decide (u=_)<;>rw[e]at hx
   .cases hx
   simp only[cond_true]at hx;split at hx<;>first|(cases hx;done)|skip
   rename_i y hy;obtain⟨rfl,rfl⟩:=ap (ac hx);exact DF (v:=.x _ _) trivial hy
 .cases hx
theorem T9{off m i:Nat}{v x:V}(hv:d9 n h v)(hx:K_ off m i v=some x):d9 n h x:=by
 unfold K_ at hx;split at hx
 .split at hx<;>first|(cases hx;done)|skip
  split at hx<;>first|(cases hx;done)|skip
  obtain rfl:=ac (aC hx).2;exact hv
 .split at hx<;>first|(cases hx;done)|skip
  split at hx<;>first|(cases hx;done)|skip
  obtain rfl:=ac (aC hx).2;exact hv
 .split at hx<;>first|(cases hx;done)|skip
  obtain rfl:=ac (aC hx).2;trivial
 .cases hx
theorem GG{v:V}{y:Value}(hv:pi v=some y):d9 n h v:=by unfold pi at hv;split at hv<;>first|trivial|cases hv
theorem T7{kind:Nat}{v r:V}(hn:KN h kind v=some r):d9 n h r:=by
 unfold KN at hn;split at hn
 .obtain rfl:=ac (aC hn).2;trivial
 .obtain rfl:=ac (aC hn).2;trivial
 .obtain rfl:=ac (aC hn).2;trivial
 .obtain rfl:=ac (aC hn).2;trivial
 .obtain rfl:=ac (aC hn).2;trivial
 .have:=(aC hn).2;split at this
  .obtain rfl:=ac this;trivial
  .cases this
theorem QQ{z c:Bool}{op:BinOp}{k k':IntKind}{a b:Int}{v:V}(hb:SC z c op k k' a b=some v):d9 n h v:=by
 cases op<;>simp only[SC]at hb
 all_goals
  repeat'(first|(cases hb;done)|(obtain rfl:=ac hb;trivial)|replace hb:=(aC hb).2)
theorem N9{op:BinOp}{k k':FloatKind}{a b:Nat}{v:V}(hb:M3 op k k' a b=some v):d9 n h v:=by obtain⟨_,_,e⟩:=JH hb;exact GG e
theorem QP{op:BinOp}{a b:ByteArray}{v:V}(hb:Yl op a b=some v):d9 n h v:=by obtain⟨_,_,e⟩:=M2 hb;exact GG e
theorem Xu{l x:V}{i:Nat}(hv:d9 n h (.rc l))(hx:xz l i=some x):d9 n h x:=CU (l:=l) hv hx
theorem Xt{l x:V}{i:Nat}(hv:d9 n h (.tp l))(hx:xz l i=some x):d9 n h x:=CU (l:=l) hv hx
theorem T8{b:Bool}{v:V}(hv:d9 n h v):d9 n h (bif b then Q0 v else v):=by
 cases b
 .exact hv
 .unfold Q0;simp only[cond_true];split
  .trivial
  .trivial
  .exact hv
theorem Tg{op:OP}{vs:List V}{v:V}{l:List Nat}(hb:∀id t c,fO h id=some (.bx t c)->d9 n h c)(hv:∀v∈vs,d9 n h v)(ht:xa op vs h=some (v,l)):d9 n h v:=by
 unfold xa at ht;split at ht
 all_goals(repeat' split at ht)
 all_goals first
  |(cases ht;done)
  |(obtain⟨rfl,rfl⟩:=ap (ac ht);first|trivial|exact QQ (by assumption)|exact N9 (by assumption)|exact QP (by assumption)|exact T8 (T7 (by assumption))|exact T9 (hv _ (aF ..)) (by assumption)|exact Xt (hv _ (aF ..)) (by assumption)|exact hv _ (aF ..))
  |(obtain⟨rfl,rfl⟩:=ap (ac (aC ht).2);first|trivial|exact GF hv|exact IG hb (by assumption)|exact DG (by assumption)|exact Xu (hv _ (aF ..)) (by assumption)|exact Me GE.1 hv (by assumption))
  |(cases(aC ht).2;done)
  |(have:=(aC ht).2
    split at this
    .obtain ⟨rfl,rfl⟩:=ap (ac this);exact Me GE.1 hv (by assumption)
    .cases this)
  |(have:=(aC ht).2
    obtain⟨rfl,rfl⟩:=ap (ac this)
    first|trivial|(have h9:=hv _ aF;exact h9)|(cases‹Bool›<;>simp[d9]))
end
def BW(s:S2)(u:sd)(n':Nat):S2:=⟨s.ii,u++s.heap,n',u.map (·.1)++s.wo,s.gh⟩
def Lx(P:Program)(o:Oper)(args:List Operand)(vs:List V)(s:S2)(v:V)(u:sd)(n':Nat)(l:List Nat):Prop:=
 s.next<=n'/\j7 s.next s.heap u/\d9 n' (u++s.heap) v/\(∀p∈u,∀t c,p.2=some (.bx t c)->d9 n' (u++s.heap) c)/\(∀p∈u,Yx n' p)/\
 ∀(ρ:Operand->Value)(S K:Nat->Prop)(w0 w:World)(φ:fT)(H:Hf),(∀v,ρ (.const v)=v)->Inv S K w0 φ H w->vk φ s.heap->Ar S w φ ρ args vs->(∀i∈l,H i=fO s.heap i)->(∀j,s.next<=j->j<n'->φ j=none)->fS P o ρ S K w0 w φ H s.next n' v u
def PR(P:Program)(o:Oper)(args:List Operand)(vs:List V)(s:S2){β:Type}(k:V->S2->List Nat->Option β)(r:β):Prop:=∃v u n' l,k v (BW s u n') l=some r/\Lx P o args vs s v u n' l
def EG(P:Program)(o:Oper)(args:List Operand)(vs:List V)(s:S2){β:Type}(k:V->S2->List Nat->Option β)(r:β):Prop:=∃v,k v s []=some r/\Lx P o args vs s v [] s.next []
section
variable{P:Program}{o:Oper}{vs:List V}{s:S2}{β:Type}{k:V->S2->List Nat->Option β}{r:β}{d:Option Nat}{as args:List Operand}{g:Option (Nat×Bool)}{t0:Ty}{fi:List Nat}
theorem PR.val{v:V}(hk:k v s []=some r)(hv:∀{n h},d9 n h v)(hrun:∀(ρ:Operand->Value)(S K:Nat->Prop)(w0 w:World)(φ:fT)(H:Hf),(∀v,ρ (.const v)=v)->Inv S K w0 φ H w->vk φ s.heap->Ar S w φ ρ args vs->fS P o ρ S K w0 w φ H s.next s.next v []):
  EG P o args vs s k r:=
 ⟨v,hk,aq _,j7.nil,hv,fun p hp=>by simp at hp,fun p hp=>by simp at hp,fun ρ S K w0 w φ H h1 h2 h3 h4 _ _=>hrun ρ S K w0 w φ H h1 h2 h3 h4⟩
theorem PR.new{v:V}{x:O}{l:List Nat}(hk:k v (pw s x) l=some r)(hv:∀{h},d9 (s.next+1) h v)(hx:∀t c,x=.bx t c->d9 (s.next+1) ((s.next,some x)::s.heap) c)
  (hrun:∀(ρ:Operand->Value)(S K:Nat->Prop)(w0 w:World)(φ:fT)(H:Hf),(∀v,ρ (.const v)=v)->Inv S K w0 φ H w->vk φ s.heap->Ar S w φ ρ args vs->(∀i∈l,H i=fO s.heap i)->φ s.next=none->fS P o ρ S K w0 w φ H s.next (s.next+1) v [(s.next,some x)]) (hln:By (s.next+1) (some x):=by trivial):PR P o args vs s k r:=
 ⟨v,[(s.next,some x)],s.next+1,l,hk,aO _,j7.cons (fun _ _=>.inl (aq _)) j7.nil,hv,fun p hp t c e=>by
  obtain rfl:=az.1 hp;exact hx t c (ac e),fun p hp=>by
  obtain rfl:=az.1 hp;exact .inl ⟨aM _,hln⟩,fun ρ S K w0 w φ H h1 h2 h3 h4 h5 h6=>hrun ρ S K w0 w φ H h1 h2 h3 h4 h5 (h6 _ (aq _) (aM _))⟩
theorem My(x:O):yI s.next s.heap ((s.next,some x)::s.heap):=(j7.cons (u:=[]) (fun _ _=>.inl (aq _)) j7.nil).fh
theorem KD{t:TypeId}{z:List Value}(ho:o.op=.alloc t)(hz:gY P t=some z)(h:part ⟨⟨d,.alloc z,as,g⟩,t0,fi⟩ vs s k=some r):PR P o args vs s k r:=by
 match vs,h with|[],h=>obtain⟨e,h⟩:=aC (show(bif ui (ya t0) z&&dJ (LI t0) false t0 then k (.op s.next t0 []) (pw s (.bx t0 (LI t0))) []else none)=some r from h);exact PR.new h (aM _) (fun t c e=>by cases e;exact GE.1) fun ρ S K w0 w φ H _ hI _ _ _ hn=>QN ho hz hI hn e
theorem QC{t:TypeId}{x:Operand}(ho:o.op=.box t x)(hv:∀v∈vs,d9 s.next s.heap v)(h:part ⟨⟨d,.box,as,g⟩,t0,fi⟩ vs s k=some r):PR P o [x] vs s k r:=by
 match vs,h,hv with
 |[v],h,hv=>
  change (match J2 t0 v with|some w=>k (.op s.next t0 []) (pw s (.bx t0 w)) []|none=>none)=_ at h;split at h<;>first|(cases h;done)|skip
  rename_i c hc;exact PR.new h (aM _) (fun t c' e=>by cases e;exact dU (aO _) (My _) (CV (hv v (by simp)) hc)) fun ρ S K w0 w φ H _ hI _ hr _ hn=>Xr ho hI hn hr.1 hc
theorem DC{t el:TypeId}{m:Nat}{lo co:Operand}{z:List Value}(ho:o.op=.makeSlice t lo co)(hu:P.underlying t=some (.slice el))(hs:dK P el=some (m+1))(hz:gY P el=some z)(hzl:z.length=m+1)(hb:qA P el=true)
  (h:part ⟨⟨d,.makeSlice z,as,g⟩,t0,fi⟩ vs s k=some r):PR P o [lo,co] vs s k r:=by
 match vs,h with|[.x (.i q1) a,.x (.i q2) b],h=>obtain⟨e,h⟩:=aC (show(bif ui (ya t0) z&&B4 t0 then(zQ (qK t0) a b).bind fun r=>k (.so s.next) (pw s (.ar t0 (.mk r) 0)) []else none)=some r from h);obtain⟨rr,h1,h⟩:=uh h;exact PR.new h (aM _) (fun t c e=>by cases e) fun ρ S K w0 w φ H _ hI _ hr _ hn=>Gz ho hu hs hz hzl hb hI hn (R1.int hr.1) (R1.int hr.2.1) e h1
theorem Kz{t el:TypeId}{m szi:Nat}{lo co:Operand}{z:List Value}(ho:o.op=.makeSlice t lo co)(hu:P.underlying t=some (.slice el))(hs:dK P el=some (m+1))(hz:gY P el=some z)(hzl:z.length=m+1)(hb:qA P el=true)(hz1:DZ z=true)
  (h:part ⟨⟨d,.Q8 szi,as,g⟩,t0,fi⟩ vs s k=some r):PR P o [lo,co] vs s k r:=by
 match vs,h with
 |[.x (.i q1) a,.x (.i q2) b],h=>
  cases t0<;>first|(cases h;done)|skip
  rename_i t0 _;obtain⟨e,h⟩:=aC (show(bif(dh t0==szi)&&B4 t0 then(zQ (Sl.nil:Sl (El t0)) a b).bind fun r=>k (.sr s.next) (pw s (.rw t0 (.mk r) none)) []else none)=some r from h);obtain⟨rr,h1,h⟩:=uh h;simp only[ax]at e;exact PR.new h (aM _) (fun t c e=>by cases e) fun ρ S K w0 w φ H _ hI _ hr _ hn=>QH ho hu hs hz hzl hb hz1 hI hn (R1.int hr.1) (R1.int hr.2.1) e.2 h1
theorem Gw{t kt et:TypeId}{ka va:Bool}(ho:o.op=.makeMap t none)(h:part ⟨⟨d,.makeMap ka va,as,g⟩,t0,fi⟩ vs s k=some r):PR P o args vs s k r:=by
 match vs,h with
 |[],h=>
  cases t0<;>first|(cases h;done)|skip
  rename_i kT vT _;obtain⟨e,h⟩:=aC (show(bif(iN kT==ka)&&(iN vT==va)&&lq vT&&(BA kT).isSome then k (.om s.next) (pw s (.mp kT vT Mp.none)) []else none)=some r from h);simp only[ax]at e;exact PR.new h (aM _) (fun t c e=>by cases e) fun ρ S K w0 w φ H _ hI _ _ _ hn=>KG (kt:=kt) (et:=et) ho hI hn e.1.2 e.2
end
section
variable{P:Program}{o:Oper}{vs:List V}{s:S2}{β:Type}{k:V->S2->List Nat->Option β}{r:β}{d:Option Nat}{as args:List Operand}{g:Option (Nat×Bool)}{t0:Ty}{fi:List Nat}
theorem xw{t ty:TypeId}{b:BinOp}{x y:Operand}(ho:o.op=.binOp b t x y ty){v1 v2 v:V}{a c e:Value}(hk:k v s []=some r)(e1:pi v1=some a)(e2:pi v2=some c)(hr:uv b a c=some e)(e3:pi v=some e):EG P o [x,y] [v1,v2] s k r:=PR.val hk (GG e3) fun ρ S K w0 w φ H _ hI _ har=>QM ho hI har.1 har.2.1 e1 e2 (by simp[vh,hr]) e3
theorem QD{t ty:TypeId}{b:BinOp}{x y:Operand}(ho:o.op=.binOp b t x y ty)(h:part ⟨⟨d,.G8 b,as,g⟩,t0,fi⟩ vs s k=some r):EG P o [x,y] vs s k r:=by
 cases b<;>first|(cases h;done)|skip
 .match vs,h with
  |[.x .s a,.x .s c],h=>
   obtain⟨z,hz,h⟩:=uh (show(Ye a c).bind (fun x=>k (.x .s x) s [])=some r from h);unfold Ye at hz;split at hz
   .cases hz
   .rename_i hc;obtain rfl:=ac hz;exact xw ho h rfl rfl (by simp only[uv];rw[if_neg hc]) rfl
 .match vs,h with
  |[.x (.i q) a,.x (.i q') c],h=>
   obtain⟨e,h⟩:=aC (show(bif decide (q=q')then(X3 q a c).bind (fun x=>k (.x (.i q) x) s [])else none)=some r from h);obtain⟨z,hz,h⟩:=uh h;unfold X3 at hz;split at hz
   .cases hz
   .rename_i hc;obtain rfl:=ac hz;exact xw ho h rfl rfl (by simp only[uv];rw[if_pos (by simpa using e),if_neg hc]) rfl
 .match vs,h with
  |[.x (.i q) a,.x (.i q') c],h=>
   obtain⟨e,h⟩:=aC (show(bif decide (q=q')then(Qo q a c).bind (fun x=>k (.x (.i q) x) s [])else none)=some r from h);obtain⟨z,hz,h⟩:=uh h;unfold Qo at hz;split at hz
   .cases hz
   .rename_i hc;obtain rfl:=ac hz;exact xw ho h rfl rfl (by simp only[uv];rw[if_pos (by simpa using e),if_neg hc]) rfl
 .match vs,h with
  |[.x (.i q) a,.x (.i q') c],h=>
   obtain⟨z,hz,h⟩:=uh (show(zd q a c).bind (fun x=>k (.x (.i q) x) s [])=some r from h);unfold zd at hz;split at hz
   .cases hz
   .rename_i hc;obtain rfl:=ac hz;exact xw ho h rfl rfl (by simp only[uv];rw[if_neg hc];rfl) rfl
 .match vs,h with
  |[.x (.i q) a,.x (.i q') c],h=>
   obtain⟨z,hz,h⟩:=uh (show(yt q a c).bind (fun x=>k (.x (.i q) x) s [])=some r from h);unfold yt at hz;split at hz
   .cases hz
   .rename_i hc;obtain rfl:=ac hz;exact xw ho h rfl rfl (by simp only[uv];rw[if_neg hc];rfl) rfl
theorem Sb{u t:Ty}{s0:Sl (El u)}{r:Sl (El t)}{lo a b:Nat}{y:List (El t)}(h:Ju u t s0 lo r)(hy:y=(r.l.drop a).take b)(hb:a+b<=r.l.length):Ju u t s0 (lo+a) (r.to y):=by
 rcases h with⟨h1,rfl⟩|⟨q,m,h1,rfl,h3⟩
 .exact .inl ⟨h1,rfl⟩
 .refine .inr ⟨q,b,h1,?_,?_⟩
  .simp only[Sl.to,hy,Sl.l];congr 1;simp only[Sl.l,bU,ia]at hb;rw[List.drop_take,List.drop_drop,List.take_take,Nat.min_eq_left (by omega)]
  .simp only[Sl.l,bU,ia]at hb;omega
theorem Jt{t:Ty}(s0:Sl (El t)):Ju t t s0 0 s0:=by cases s0 with|nil=>exact .inl ⟨rfl,rfl⟩|mk q=>exact .inr ⟨q,q.length,rfl,by simp,by simp⟩
variable{t el:TypeId}{sz:Nat}{x:Operand}{lo hi:Option Operand}{a b:Option Int}
theorem GX{v:V}{nn:Nat}(ho:o.op=.slice t x lo hi none)(hu:P.underlying t=some (.slice el))(hsz:dK P el=some sz)(hok:d9 s.next s.heap v)(hal:pD s.heap v=true)(hn:Oq s.heap v=some (nn:Int))
  (hB:∀(ρ:Operand->Value)(S:Nat->Prop)(w:World)(φ:fT),Ar S w φ ρ args vs->RW S w φ v (ρ x)/\J5 ρ lo a/\J5 ρ hi b) (h:OR sz s.heap v (a.getD 0) (b.getD nn) (fun v=>k v s [])=some r):EG P o args vs s k r:=by
 have zB:∀{id:Nat}{l0 ver:Nat}{tt:Ty}{rr:Sl (El tt)}{y:List (El tt)},d9 s.next s.heap (.sb id ver l0 tt rr)->(∀(S:Nat->Prop)(w:World)(φ:fT){xv:Value},vk φ s.heap->RW S w φ v xv->∃l1,φ id=some l1/\l1.t=tt/\inN l1 l0 (kJ rr)/\zB l1 l0 (kJ rr) [xv])->dh tt=sz->nn=rr.l.length->
   ou rr.l (a.getD 0) (b.getD nn)=some y->k (.sb id ver (l0+(a.getD 0).toNat) tt (rr.to y)) s []=some r->EG P o args vs s k r:=by
  intro id l0 ver tt rr y hok2 hloc hs hnn hc hk;obtain⟨c1,c2,c3,c4,c5⟩:=AT hc;refine⟨_,hk,aq _,j7.nil,⟨hok2.1,fun e=>hok2.2.1 (by cases rr<;>first|rfl|cases e),fun u0 s0 v0 hv0=>?_⟩,fun p hp=>by simp at hp,fun p hp=>by simp at hp,fun ρ S K w0 w φ H _ hI hsh har _ _=>?_⟩
  .obtain ⟨q1,q2⟩:=hok2.2.2 u0 s0 v0 hv0;exact⟨q1,fun e=>Sb (q2 e) c4 (by omega)⟩
  .obtain ⟨h1,h2,h3⟩:=hB ρ S w φ har;obtain⟨l1,k1,k2,k3,k4⟩:=hloc S w φ hsh h1;cases rr with
   |nil=>have e1:nn=0:=hnn;subst e1;have hx:ρ x=.slice none 0 0:=(aB k4).1;have run:=GW (P:=P) (w:=w) (y:=[]) ho hu hsz h2 h3 hx (by rw[vM];refine⟨⟨c1,c2,by simpa[Sl.l]using c3⟩,by simp⟩);exact fS.pure hI run (R1.xb (v:=.sb id ver _ tt Sl.nil) ⟨l1,k1,k2,trivial,rfl⟩ rfl).rw
   |mk q=>
    have e1:nn=q.length:=hnn;subst e1;obtain⟨val,run,k5⟩:=Va (P:=P) (w:=w) (a:=a) (b:=b) ho hu (by rw[k2,hs];exact hsz) h2 h3 k4 c1 c2 c3;obtain⟨m,m1,m2⟩:=k3;refine fS.pure hI run (R1.xb (v:=.sb id ver _ tt (.mk y)) ⟨l1,k1,k2,⟨m,m1,?_⟩,?_⟩ rfl).rw
    .rw [c5];have:(Sl.mk q:Sl (El tt)).l.length=q.length:=rfl;omega
    .show zB l1 _ (some y.length) [val];rw[c5];exact k5
 unfold OR at h;split at h
 .rename_i u v0;obtain⟨e,h⟩:=aC h;obtain⟨y,hy,hk⟩:=uh h;simp only[beq_iff_eq]at e;have hnn:nn=v0.l.length:=by have:some ((v0.l.length:Nat):Int)=some (nn:Int):=hn;have:=ac this;omega
  subst hnn;refine PR.val hk trivial fun ρ S K w0 w φ H _ hI hsh har=>?_;obtain⟨h1,h2,h3⟩:=hB ρ S w φ har;cases v0 with|nil=>obtain⟨c1,c2,c3,_⟩:=AT hy;have run:=GW (P:=P) (w:=w) (y:=[]) ho hu hsz h2 h3 (aB (R1.f_ h1)).1 (by rw[vM];exact⟨⟨c1,c2,by simpa[Sl.l]using c3⟩,by simp⟩);exact fS.pure hI run (R1.xb (v:=.x (.sl u) (Sl.nil:Sl (El u))) rfl rfl).rw|mk q=>obtain⟨val,run,k5⟩:=X5 (P:=P) (w:=w) (S:=S) (u:=u) ho hu (by rw[e];exact hsz) h2 h3 (R1.f_ h1) hy;exact fS.pure hI run (R1.xb (v:=.x (.sl u) (.mk y:Sl (El u))) k5 rfl).rw
 .rename_i id;simp only[pD]at hal
  have key:∀{u:Ty}{v0:Sl (El u)}{ver:Nat},(fO s.heap id=some (.ar u v0 ver)\/fO s.heap id=some (.im u v0 ver))->(bif dh u==sz then(ou v0.l (a.getD 0) (b.getD nn)).bind fun y=>k (.sb id ver (a.getD 0).toNat u (v0.to y)) s []else none)=some r->EG P o args vs s k r:=by
   intro u v0 ver hob h;obtain⟨e,h⟩:=aC h;obtain⟨y,hy,hk⟩:=uh h;simp only[beq_iff_eq]at e
   have hnn:nn=v0.l.length:=by
    have:Oq s.heap (.so id)=some (v0.l.length:Int):=by rcases hob with hob|hob<;>simp[Oq,HR,hob]
    rw[hn]at this;have:=ac this;omega
   refine zB (l0:=0) (ver:=ver) (rr:=v0) ⟨hok,fun e o ho=>?_,fun u0 s0 v1 hv1=>?_⟩ (fun S w φ xv hsh hx=>?_) e hnn hy (by rw[cW];exact hk)
   .rcases hob with hob|hob<;>(rw[hob]at ho;cases ho;exact e)
   .have:∃e:u0=u,(e▸s0)=v0/\v1=ver:=by rcases hob with hob|hob<;>rcases hv1 with hv1|hv1<;>rw[hob]at hv1<;>cases hv1<;>exact⟨rfl,rfl,rfl⟩
    obtain⟨rfl,rfl,rfl⟩:=this;exact⟨aq _,fun _=>Jt _⟩
   .obtain ⟨l1,k1,k2⟩:=R1.f_ hx;have hs:l1.t=u/\l1.n=kJ v0:=by rcases hob with hob|hob<;>exact hsh id l1 _ k1 hob
    refine⟨l1,k1,hs.1,?_,by rw[<-hs.2];exact k2⟩;cases v0 with|nil=>trivial|mk q=>exact⟨q.length,hs.2,by simp⟩
  split at h
  .rename_i hob;exact key (.inl hob) h
  .rename_i hob;exact key (.inr hob) h
  .cases h
 .rename_i id ver l0 u v0;obtain⟨e,h⟩:=aC h;obtain⟨y,hy,hk⟩:=uh h;simp only[beq_iff_eq]at e;have hnn:nn=v0.l.length:=by have:some ((v0.l.length:Nat):Int)=some (nn:Int):=hn;have:=ac this;omega
  exact zB hok (fun S w φ xv hsh hx=>R1.f_ hx) e hnn hy hk
 .obtain ⟨y,hy,hk⟩:=uh h;have hnn:nn=0:=by have:some (0:Int)=some (nn:Int):=hn;have:=ac this;omega
  subst hnn;refine PR.val hk trivial fun ρ S K w0 w φ H _ hI hsh har=>?_;obtain⟨h1,h2,h3⟩:=hB ρ S w φ har;exact fS.pure hI (GW ho hu hsz h2 h3 (aB (R1.f_ h1)).1 hy) (R1.xb (v:=.nl 0) rfl rfl).rw
 .cases h
end
section
variable{P:Program}{o:Oper}{vs:List V}{s:S2}{β:Type}{k:V->S2->List Nat->Option β}{r:β}{d:Option Nat}{as args:List Operand}{g:Option (Nat×Bool)}{t0:Ty}{fi:List Nat}{t el:TypeId}{sz:Nat}{x:Operand}{lo hi:Option Operand}
theorem AG{h:H2}{v:V}{n:Int}(hn:Oq h v=some n):∃m:Nat,n=m:=by
 unfold Oq at hn;split at hn
 .exact ⟨0,(ac hn).symm⟩
 .split at hn
  .exact ⟨_,(ac hn).symm⟩
  .cases hn
theorem Ky(ho:o.op=.slice t x lo hi none)(hu:P.underlying t=some (.slice el))(hsz:dK P el=some sz)(hok:∀v∈vs,d9 s.next s.heap v)(hal:∀v∈vs,pD s.heap v=true)(hl:(x::lo.toList++hi.toList).length=vs.length)
  (h:part ⟨⟨d,.slice false sz lo.isSome hi.isSome,as,g⟩,t0,fi⟩ vs s k=some r):EG P o (x::lo.toList++hi.toList) vs s k r:=by
 cases lo with
 |none=>
  cases hi with
  |none=>
   match vs,h,hl with
   |[v],h,_=>
    simp only[part,oQ,pE,lP]at h;split at h<;>first|(cases h;done)|(exact absurd (by assumption:false=true) (by simp))|(exact absurd (by assumption:true=false) (by simp))|skip
    rename_i e1 hn;obtain⟨m,rfl⟩:=AG hn;cases e1;exact GX (a:=none) (b:=none) ho hu hsz (hok v (by simp)) (hal v (by simp)) hn (fun ρ S w φ har=>⟨har.1,trivial,trivial⟩) h
  |some z=>
   match vs,h,hl with
   |[v,.x (.i q) c],h,_=>
    simp only[part,oQ,pE,lP]at h;split at h<;>first|(cases h;done)|(exact absurd (by assumption:false=true) (by simp))|(exact absurd (by assumption:true=false) (by simp))|skip
    rename_i e1 hn;obtain⟨m,rfl⟩:=AG hn;cases e1;exact GX (a:=none) (b:=some c) ho hu hsz (hok v (by simp)) (hal v (by simp)) hn (fun ρ S w φ har=>⟨har.1,trivial,⟨q,R1.int har.2.1⟩⟩) h
 |some y=>
  cases hi with
  |none=>
   match vs,h,hl with
   |[v,.x (.i q) c],h,_=>
    simp only[part,oQ,pE,lP]at h;split at h<;>first|(cases h;done)|(exact absurd (by assumption:false=true) (by simp))|(exact absurd (by assumption:true=false) (by simp))|skip
    rename_i e1 hn;obtain⟨m,rfl⟩:=AG hn;cases e1;exact GX (a:=some c) (b:=none) ho hu hsz (hok v (by simp)) (hal v (by simp)) hn (fun ρ S w φ har=>⟨har.1,⟨q,R1.int har.2.1⟩,trivial⟩) h
  |some z=>
   match vs,h,hl with
   |[v,.x (.i q) c,.x (.i q2) e],h,_=>
    simp only[part,oQ,pE,lP]at h;split at h<;>first|(cases h;done)|(exact absurd (by assumption:false=true) (by simp))|(exact absurd (by assumption:true=false) (by simp))|skip
    rename_i e1 hn;obtain⟨m,rfl⟩:=AG hn;cases e1;exact GX (a:=some c) (b:=some e) ho hu hsz (hok v (by simp)) (hal v (by simp)) hn (fun ρ S w φ har=>⟨har.1,⟨q,R1.int har.2.1⟩,⟨q2,R1.int har.2.2.1⟩⟩) h
theorem Gi{a b:Option Int}{z y:ByteArray}{vr:List V}(ho:o.op=.slice t x lo hi none)(hu:P.underlying t=some .string)(hB:∀(ρ:Operand->Value)(S:Nat->Prop)(w:World)(φ:fT),Ar S w φ ρ args (.x .s z::vr)->RW S w φ (.x .s z) (ρ x)/\J5 ρ lo a/\J5 ρ hi b)
  (hc:Df z (a.getD 0) (b.getD z.size)=some y) (hk:k (.x .s y) s []=some r):EG P o args (.x .s z::vr) s k r:=
 PR.val hk trivial fun ρ S K w0 w φ H _ hI _ har=>by obtain⟨h1,h2,h3⟩:=hB ρ S w φ har;exact fS.pure hI (U_ ho hu h2 h3 (sN (v:=.x .s z) rfl h1) hc) (R1.xb (v:=.x .s y) rfl rfl).rw
theorem Iu(ho:o.op=.slice t x lo hi none)(hu:P.underlying t=some .string)(hl:(x::lo.toList++hi.toList).length=vs.length)(h:part ⟨⟨d,.slice true 1 lo.isSome hi.isSome,as,g⟩,t0,fi⟩ vs s k=some r):EG P o (x::lo.toList++hi.toList) vs s k r:=by
 cases lo with
 |none=>
  cases hi with
  |none=>match vs,h,hl with|[.x .s z],h,_=>obtain⟨y,hy,hk⟩:=uh (show(Df z 0 z.size).bind (fun y=>k (.x .s y) s [])=some r from h);exact Gi (a:=none) (b:=none) ho hu (fun ρ S w φ har=>⟨har.1,trivial,trivial⟩) hy hk
  |some z2=>match vs,h,hl with|[.x .s z,.x (.i q) c],h,_=>obtain⟨y,hy,hk⟩:=uh (show(Df z 0 c).bind (fun y=>k (.x .s y) s [])=some r from h);exact Gi (a:=none) (b:=some c) ho hu (fun ρ S w φ har=>⟨har.1,trivial,⟨q,R1.int har.2.1⟩⟩) hy hk
 |some y2=>
  cases hi with
  |none=>match vs,h,hl with|[.x .s z,.x (.i q) c],h,_=>obtain⟨y,hy,hk⟩:=uh (show(Df z c z.size).bind (fun y=>k (.x .s y) s [])=some r from h);exact Gi (a:=some c) (b:=none) ho hu (fun ρ S w φ har=>⟨har.1,⟨q,R1.int har.2.1⟩,trivial⟩) hy hk
  |some z2=>match vs,h,hl with|[.x .s z,.x (.i q) c,.x (.i q2) e],h,_=>obtain⟨y,hy,hk⟩:=uh (show(Df z c e).bind (fun y=>k (.x .s y) s [])=some r from h);exact Gi (a:=some c) (b:=some e) ho hu (fun ρ S w φ har=>⟨har.1,⟨q,R1.int har.2.1⟩,⟨q2,R1.int har.2.2.1⟩⟩) hy hk
theorem E5{y:Operand}(ho:o.op=.index t x y)(hu:P.underlying t=some .string)(h:part ⟨⟨d,.AL,as,g⟩,t0,fi⟩ vs s k=some r):EG P o [x,y] vs s k r:=by
 match vs,h with|[.x .s z,.x (.i q) i],h=>obtain⟨c,hc,hk⟩:=uh (show(atS z i).bind (fun c=>k (.x (.i .u8) c) s [])=some r from h);exact PR.val hk trivial fun ρ S K w0 w φ H _ hI _ har=>fS.pure hI (Le ho hu (R1.int har.2.1) (sN (v:=.x .s z) rfl har.1) hc) (R1.xb (v:=.x (.i .u8) c) rfl rfl).rw
theorem KB{y:Operand}{agg:Bool}{len m:Nat}(ho:o.op=.index t x y)(hu:P.underlying t=some (.array len el))(ha:eS P el=some agg)(hs:dK P el=some m)(h:part ⟨⟨d,.index agg len m,as,g⟩,t0,fi⟩ vs s k=some r):EG P o [x,y] vs s k r:=by
 match vs,h with|[.x (.ar n' u) v,.x (.i q) i],h=>obtain⟨e,h⟩:=aC (show(bif(n'==len)&&(dh u==m)&&(iN u==agg)&&lq u&&(agg||m==1)then(cH i len).bind (fun j=>k (.x u (gt v.1 j)) s [])else none)=some r from h);obtain⟨j,hj,hk⟩:=uh h;simp only[ax,Bool.or_eq_true,beq_iff_eq]at e;obtain⟨⟨⟨⟨rfl,e2⟩,e3⟩,_⟩,e5⟩:=e;exact PR.val hk trivial fun ρ S K w0 w φ H _ hI _ har=>QJ ho hu ha hs hI (R1.int har.2.1) har.1 e2 e3 (fun e=>e5.resolve_left (by simp[e])) hj
end
section
variable{P:Program}{o:Oper}{vs:List V}{s:S2}{β:Type}{k:V->S2->List Nat->Option β}{r:β}{d:Option Nat}{as args:List Operand}{g:Option (Nat×Bool)}{t0:Ty}{fi:List Nat}{t el:TypeId}{sz:Nat}{x y:Operand}
theorem PR.Nh{v:V}(hk:k v s []=some r)(hv:d9 s.next s.heap v)(hrun:∀(ρ:Operand->Value)(S K:Nat->Prop)(w0 w:World)(φ:fT)(H:Hf),(∀v,ρ (.const v)=v)->Inv S K w0 φ H w->vk φ s.heap->Ar S w φ ρ args vs->fS P o ρ S K w0 w φ H s.next s.next v []):
  EG P o args vs s k r:=
 ⟨v,hk,aq _,j7.nil,hv,fun p hp=>by simp at hp,fun p hp=>by simp at hp,fun ρ S K w0 w φ H h1 h2 h3 h4 _ _=>hrun ρ S K w0 w φ H h1 h2 h3 h4⟩
theorem abW{u:Ty}{v:Sl (El u)}{q:IntKind}{i:Int}(ho:o.op=.indexAddr t x y)(hu:P.underlying t=some (.slice el))(hsz:dK P el=some sz)
  (h:part ⟨⟨d,.indexAddr none sz,as,g⟩,t0,fi⟩ [.x (.sl u) v,.x (.i q) i] s k=some r):EG P o [x,y] [.x (.sl u) v,.x (.i q) i] s k r:=by
 obtain⟨e,h⟩:=aC (show(bif dh u==sz then(cH i v.l.length).bind (fun m=>k (.pt u (gt v.l m)) s [])else none)=some r from h);obtain⟨m,hm,hk⟩:=uh h;obtain rfl:=eq_of_beq e;exact PR.Nh hk trivial fun ρ S K w0 w φ H _ hI _ har=>by obtain⟨bb,off,len,cap,e1,h0,h1,rfl,h3⟩:=abV (show RT S w (.sl u) v [ρ x]from(R1.f_ har.1)) hm;exact fS.pure hI (AP ho hu hsz (R1.int har.2.1) e1 h0 h1) h3
theorem KM{α:Type}{v:Sl α}{i:Int}{m:Nat}(hm:cH i v.l.length=some m):v.od=false:=by cases v with|nil=>exact absurd (sV hm).2.2.2 (by simp[Sl.l])|mk r=>rfl
theorem XQ{id n lo:Nat}{u:Ty}{v:Sl (El u)}{q:IntKind}{i:Int}(ho:o.op=.indexAddr t x y)(hu:P.underlying t=some (.slice el))(hsz:dK P el=some sz)(hok:d9 s.next s.heap (.sb id n lo u v))
  (h:part ⟨⟨d,.indexAddr none sz,as,g⟩,t0,fi⟩ [.sb id n lo u v,.x (.i q) i] s k=some r):EG P o [x,y] [.sb id n lo u v,.x (.i q) i] s k r:=by
 obtain⟨e,h⟩:=aC (show(bif dh u==sz then(cH i v.l.length).bind (fun m=>k (.ep id (lo+m) u []) s [])else none)=some r from h);obtain⟨m,hm,hk⟩:=uh h;obtain rfl:=eq_of_beq e;have hn:v.od=false:=KM hm;exact PR.Nh hk ⟨hok.1,hok.2.1 hn⟩ fun ρ S K w0 w φ H _ hI _ har=>by obtain⟨l1,k1,rfl,k3,k4⟩:=R1.f_ (v:=.sb id n lo u v) har.1;cases v with|nil=>exact absurd (sV hm).2.2.2 (by simp[Sl.l])|mk rr=>obtain⟨bb,off,len,cap,e1,h0,h1,rfl,h3⟩:=Rt k1 k4 k3 hm;exact fS.pure hI (AP ho hu hsz (R1.int har.2.1) e1 h0 h1) h3
theorem Wj{id m0:Nat}{u:Ty}{v:V}{q:IntKind}{i:Int}{m:Nat}(ho:o.op=.indexAddr t x y)(hu:P.underlying t=some (.slice el))(hsz:dK P el=some (dh u))(hid:id<s.next)(hno:∀o,fO s.heap id=some o->Ug o)(hv:v=.so id\/v=.sr id)
  (hs:∀φ l,vk φ s.heap->φ id=some l->l.t=u/\l.n=some m0) (hm:cH i m0=some m) (hk:k (.ep id m u []) s []=some r):EG P o [x,y] [v,.x (.i q) i] s k r:=
 PR.Nh hk ⟨hid,hno⟩ fun ρ S K w0 w φ H _ hI hp har=>by
  have h1:∃l,φ id=some l/\zB l 0 l.n [ρ x]:=by
   rcases hv with rfl|rfl
   .exact R1.f_ (v:=.so id) har.1
   .exact R1.f_ (v:=.sr id) har.1
  obtain⟨l1,k1,k4⟩:=h1;obtain⟨rfl,k5⟩:=hs φ l1 hp k1;rw[k5]at k4;obtain⟨bb,off,len,cap,e1,h0,h1,rfl,h3⟩:=Rt k1 k4 ⟨m0,k5,by omega⟩ hm;rw[cW]at h3;exact fS.pure hI (AP ho hu hsz (R1.int har.2.1) e1 h0 h1) h3
theorem Mr{α:Type}{v:Sl α}{i:Int}{m:Nat}(hm:cH i v.l.length=some m):kJ v=some v.l.length:=by cases v with|nil=>exact absurd (sV hm).2.2.2 (by simp[Sl.l])|mk r=>rfl
theorem Ux{a:V}{q:IntKind}{i:Int}(ho:o.op=.indexAddr t x y)(hu:P.underlying t=some (.slice el))(hsz:dK P el=some sz)(hok:∀v∈[a,.x (.i q) i],d9 s.next s.heap v)
  (h:part ⟨⟨d,.indexAddr none sz,as,g⟩,t0,fi⟩ [a,.x (.i q) i] s k=some r):EG P o [x,y] [a,.x (.i q) i] s k r:=by
 cases a<;>first|(cases h;done)|skip
 case x ta v=>
  cases ta<;>first|(cases h;done)|skip
  exact abW ho hu hsz h
 case sb id n lo u v=>exact XQ ho hu hsz (hok _ (by simp)) h
 case so id=>
  change (match HR s.heap (.so id)with|some ⟨t,v,_⟩=>bif dh t==sz then(cH i v.l.length).bind fun m=>k (.ep id m t []) s []else none|none=>none)=_ at h;split at h<;>first|(cases h;done)|skip
  rename_i u v l hv;obtain⟨e,h⟩:=aC h;obtain⟨m,hm,hk⟩:=uh h;obtain rfl:=eq_of_beq e;simp only[HR]at hv;split at hv<;>first|(cases hv;done)|skip
  all_goals
   rename_i o' ho';refine Wj ho hu hsz (hok (.so id) (by simp)) (fun o ho=>by rw[ho']at ho;cases ho;cases hv;exact KM hm) (.inl rfl) (fun φ l1 hp h1=>?_) hm hk;obtain⟨e1,e2⟩:=hp id l1 _ h1 ho';cases hv;exact⟨e1,e2.trans (Mr hm)⟩
 case sr id=>
  change (match fO s.heap id with|some (.rw t v _)=>bif 1==sz then(cH i v.l.length).bind fun m=>k (.ep id m (.sl t) []) s []else none|_=>none)=_ at h;split at h<;>first|(cases h;done)|skip
  rename_i u v l hv;obtain⟨e,h⟩:=aC h;obtain⟨m,hm,hk⟩:=uh h;obtain rfl:=eq_of_beq e;refine Wj (u:=.sl u) ho hu hsz (hok (.sr id) (by simp)) (fun o ho=>by rw[hv]at ho;cases ho;exact KM hm) (.inr rfl) (fun φ l1 hp h1=>?_) hm hk;obtain⟨e1,e2⟩:=hp id l1 _ h1 hv;exact⟨e1,e2.trans (Mr hm)⟩
theorem DD(ho:o.op=.indexAddr t x y)(hu:P.underlying t=some (.slice el))(hsz:dK P el=some sz)(hok:∀v∈vs,d9 s.next s.heap v)
  (h:part ⟨⟨d,.indexAddr none sz,as,g⟩,t0,fi⟩ vs s k=some r):EG P o [x,y] vs s k r:=by
 rcases vs with _|⟨a,_|⟨b,_|⟨c,vr⟩⟩⟩
 case cons.cons.nil=>
  cases b<;>first|(cases h;done)|skip
  rename_i tb i;cases tb<;>first|(cases h;done)|skip
  rename_i q;exact Ux ho hu hsz hok h
 case cons.cons.cons=>
  cases b<;>first|(cases h;done)|skip
  rename_i tb i;cases tb<;>cases h
 all_goals cases h
end
section
variable{P:Program}{o:Oper}{vs:List V}{s:S2}{β:Type}{k:V->S2->List Nat->Option β}{r:β}{d:Option Nat}{as args:List Operand}{g:Option (Nat×Bool)}{t0:Ty}{fi:List Nat}{t el:TypeId}{sz n:Nat}{x y:Operand}
theorem XO{id:Nat}{t1:Ty}{p:sK}{q:IntKind}{i:Int}(ho:o.op=.indexAddr t x y)(hu:P.underlying t=some (.array n el))(hsz:dK P el=some sz)(hok:d9 s.next s.heap (.op id t1 p))
  (h:part ⟨⟨d,.indexAddr (some n) sz,as,g⟩,t0,fi⟩ [.op id t1 p,.x (.i q) i] s k=some r):EG P o [x,y] [.op id t1 p,.x (.i q) i] s k r:=by
 change (match yY t1 p with|some (.ar n' u)=>bif(n'==n)&&(dh u==sz)then(cH i n).bind fun m=>k (.op id t1 (p++[(.ix m:Pe)])) s []else none|_=>none)=_ at h;split at h<;>first|(cases h;done)|skip
 rename_i n' u hp;obtain⟨e,h⟩:=aC h;obtain⟨m,hm,hk⟩:=uh h;simp only[ax,beq_iff_eq]at e;obtain⟨rfl,rfl⟩:=e;exact PR.Nh hk hok fun ρ S K w0 w φ H _ hI _ har=>by obtain⟨l1,k1,k2,k3,e1⟩:=R1.f_ (v:=.op id t1 p) har.1;obtain⟨h0,h1,rfl,h2⟩:=sV hm;obtain⟨q1,q2⟩:=QR k3 hp (k:=i.toNat) (by omega);exact fS.pure hI (Ec ho hu hsz (R1.int har.2.1) (aB e1).1 h0 h1) (R1.xb (v:=.op id t1 _) ⟨l1,k1,k2,q1,by rw[q2]⟩ rfl).rw
theorem XP{id j:Nat}{t1:Ty}{p:sK}{q:IntKind}{i:Int}(ho:o.op=.indexAddr t x y)(hu:P.underlying t=some (.array n el))(hsz:dK P el=some sz)(hok:d9 s.next s.heap (.ep id j t1 p))
  (h:part ⟨⟨d,.indexAddr (some n) sz,as,g⟩,t0,fi⟩ [.ep id j t1 p,.x (.i q) i] s k=some r):EG P o [x,y] [.ep id j t1 p,.x (.i q) i] s k r:=by
 change (match yY t1 p with|some (.ar n' u)=>bif(n'==n)&&(dh u==sz)then(cH i n).bind fun m=>k (.ep id j t1 (p++[(.ix m:Pe)])) s []else none|_=>none)=_ at h;split at h<;>first|(cases h;done)|skip
 rename_i n' u hp;obtain⟨e,h⟩:=aC h;obtain⟨m,hm,hk⟩:=uh h;simp only[ax,beq_iff_eq]at e;obtain⟨rfl,rfl⟩:=e;exact PR.Nh hk hok fun ρ S K w0 w φ H _ hI _ har=>by obtain⟨l1,mm,k1,k2,k4,k5,k3,e1⟩:=R1.f_ (v:=.ep id j t1 p) har.1;obtain⟨h0,h1,rfl,h2⟩:=sV hm;obtain⟨q1,q2⟩:=QR k3 hp (k:=i.toNat) (by omega);exact fS.pure hI (Ec ho hu hsz (R1.int har.2.1) (aB e1).1 h0 h1) (R1.xb (v:=.ep id j t1 _) ⟨l1,mm,k1,k2,k4,k5,q1,by rw[q2,Nat.add_assoc]⟩ rfl).rw
theorem XN{n':Nat}{u:Ty}{v:Arr n' (El u)}{q:IntKind}{i:Int}(ho:o.op=.indexAddr t x y)(hu:P.underlying t=some (.array n el))(hsz:dK P el=some sz)
  (h:part ⟨⟨d,.indexAddr (some n) sz,as,g⟩,t0,fi⟩ [.pt (.ar n' u) v,.x (.i q) i] s k=some r):EG P o [x,y] [.pt (.ar n' u) v,.x (.i q) i] s k r:=by
 obtain⟨e,h⟩:=aC (show(bif(n'==n)&&(dh u==sz)then(cH i n).bind (fun m=>k (.pt u (gt v.1 m)) s [])else none)=some r from h);obtain⟨m,hm,hk⟩:=uh h;simp only[ax,beq_iff_eq]at e;obtain⟨rfl,rfl⟩:=e;exact PR.Nh hk trivial fun ρ S K w0 w φ H _ hI _ har=>by obtain⟨bb,off,c,e1,k1,k2,k3⟩:=R1.f_ (v:=.pt (.ar n' u) v) har.1;obtain⟨h0,h1,rfl,h5⟩:=sV hm;obtain⟨p,mm,q,rfl,r1,r2,_⟩:=wP (fun _ _ _ h=>RT.len h) (by rw[v.2];exact h5) (show lW (RT S w u) v.1 c from k2);exact fS.pure hI (Ec ho hu hsz (R1.int har.2.1) (aB e1).1 h0 h1) (R1.xb (v:=.pt u _) ⟨bb,_,mm,rfl,k1,r2,by rw[<-r1];exact sL k3⟩ rfl).rw
theorem Cs(ho:o.op=.indexAddr t x y)(hu:P.underlying t=some (.array n el))(hsz:dK P el=some sz)(hok:∀v∈vs,d9 s.next s.heap v)
  (h:part ⟨⟨d,.indexAddr (some n) sz,as,g⟩,t0,fi⟩ vs s k=some r):EG P o [x,y] vs s k r:=by
 rcases vs with _|⟨a,_|⟨b,_|⟨c,vr⟩⟩⟩
 case cons.cons.nil=>
  cases b<;>first|(cases h;done)|skip
  rename_i tb i;cases tb<;>first|(cases h;done)|skip
  cases a<;>first|(cases h;done)|skip
  case op=>exact XO ho hu hsz (hok _ (by simp)) h
  case ep=>exact XP ho hu hsz (hok _ (by simp)) h
  case pt ta v=>
   cases ta<;>first|(cases h;done)|skip
   exact XN ho hu hsz h
 case cons.cons.cons=>
  cases b<;>first|(cases h;done)|skip
  rename_i tb i;cases tb<;>cases h
 all_goals cases h
end
section
variable{P:Program}{o:Oper}{vs:List V}{s:S2}{β:Type}{k:V->S2->List Nat->Option β}{r:β}{d:Option Nat}{as args:List Operand}{g:Option (Nat×Bool)}{t0:Ty}{fi:List Nat}{t el:TypeId}{sz n:Nat}{x y:Operand}
theorem Rb{id m:Nat}{u:Ty}(ho:o.op=.load t x)(hag:eS P t=some false)(hs:dK P t=some 1)(hok:id<s.next)
  (h:part ⟨⟨d,.IX,as,g⟩,t0,fi⟩ [.ep id m u []] s k=some r):PR P o [x] [.ep id m u []] s k r:=by
 change (match fO s.heap id with|some (.rw t v none)=>bif decide (u=Ty.sl t)then(k (.so s.next) (pw (iq s id (some (.rw t v (some (m,s.next))))) (.ar t (gt v.l m) 0)) [id])else none|_=>none)=_ at h;split at h<;>first|(cases h;done)|skip
 rename_i u v hv;obtain⟨e,h2⟩:=aC h;obtain rfl:=of_decide_eq_true e;refine⟨.so s.next,[(s.next,some (.ar u (gt v.l m) 0)),(id,some (.rw u v (some (m,s.next))))],s.next+1,[id],h2,aO _,?_,aM _,?_,?_,fun ρ S K w0 w φ H _ hI _ har hl hn=>QI ho hag hs hI har.1 ((hl id (by simp)).trans hv) (hn _ (aq _) (aM _))⟩
 .exact j7.cons (fun _ _=>.inl (aq _)) (j7.cons (fun o' e=>.inr (.inr ⟨_,hv,by cases e;exact⟨rfl,rfl⟩⟩)) j7.nil)
 .intro p hp t c e;simp only[aI,aX,or_false]at hp;rcases hp with rfl|rfl<;>cases e
 .intro p hp;simp only[aI,aX,or_false]at hp;rcases hp with rfl|rfl
  .exact .inl ⟨aM _,trivial⟩
  .exact .inl ⟨Nat.lt_succ_of_lt hok,aM _⟩
theorem PP{id:Nat}{u:Ty}{p:sK}{wv:V}(ho:o.op=.store t x y)(hs:dK P t=some n)(hok:∀v∈[V.op id u p,wv],d9 s.next s.heap v)(hbx:∀id t c,fO s.heap id=some (.bx t c)->d9 s.next s.heap c)
  (h:part ⟨⟨d,.store n,as,g⟩,t0,fi⟩ [.op id u p,wv] s k=some r):PR P o [x,y] [.op id u p,wv] s k r:=by
 obtain⟨e,h1⟩:=aC (show(bif(Ft wv==n)then(match fO s.heap id with
  |some (.bx u1 c)=>bif decide (u1=u)then(match yY u p with
   |some a=>(match J2 a wv with
    |some w=>(match qM c p w with|some c=>bif dJ c false u then k (.tp .ni) (iq s id (some (.bx u c))) [id]else none|none=>none)
    |none=>none)
   |none=>none)else none
  |_=>none)else none)=some r from h)
 obtain rfl:=eq_of_beq e;split at h1<;>first|(cases h1;done)|skip
 rename_i u1 c hv;obtain⟨e1,h2⟩:=aC h1;obtain rfl:=of_decide_eq_true e1;split at h2<;>first|(cases h2;done)|skip
 rename_i a ha;split at h2<;>first|(cases h2;done)|skip
 rename_i w1 hw;split at h2<;>first|(cases h2;done)|skip
 rename_i c' hc;obtain⟨e2,h3⟩:=aC h2;have hu:j7 s.next s.heap [(id,some (.bx u1 c'))]:=j7.cons (fun o' e=>.inr (.inl (by cases e;rfl))) j7.nil;refine⟨.tp .ni,[(id,some (.bx u1 c'))],s.next,[id],h3,aq _,hu,trivial,?_,?_,fun ρ S K w0 w φ H _ hI _ har hl hn=>IB ho hs hI har.1 har.2.1 ((hl id (by simp)).trans hv) ha hw hc e2⟩
 .intro p hp t c e;obtain rfl:=az.1 hp;cases e;exact dU (aq _) hu.fh (Au (hbx _ _ _ hv) (CV (hok wv (by simp)) hw) hc)
 .intro p hp;obtain rfl:=az.1 hp;exact .inl ⟨hok (.op id u1 p) aF,trivial⟩
theorem KA(ho:o.op=.load t x)(hag:eS P t=some false)(hs:dK P t=some 1)(hok:∀v∈vs,d9 s.next s.heap v)
  (h:part ⟨⟨d,.IX,as,g⟩,t0,fi⟩ vs s k=some r):PR P o [x] vs s k r:=by
 rcases vs with _|⟨a,_|⟨b,vr⟩⟩
 case cons.nil=>
  cases a<;>first|(cases h;done)|skip
  rename_i id m u p;cases p<;>first|(cases h;done)|skip
  exact Rb ho hag hs (hok (.ep id m _ []) aF).1 h
 case cons.cons=>
  cases a<;>first|(cases h;done)|skip
  rename_i id m u p;cases p<;>cases h
 all_goals cases h
end
end Go.Ev
