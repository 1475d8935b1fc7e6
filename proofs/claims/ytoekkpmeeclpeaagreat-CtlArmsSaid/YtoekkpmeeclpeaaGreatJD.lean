/- Runs that end, with what holds then; bits; the journal's steps. Conditions: as stated. -/
import Derived.Test.YtoekkpmeeclpeaaGreatS
import Derived.Test.YtoekkpmeeclpeaaGreatFz
open BitVec renaming ofInt->bc
open List renaming getElem_mem->aX,length_append->aA,length_singleton->aP,map_append->eS,map_cons->a_,map_nil->gF,mem_append->aF,mem_cons->aI,mem_cons_of_mem->bd,mem_cons_self->aG,mem_of_getElem?->bj,mem_singleton->az,nodup_append->bD,not_mem_nil->aW
open Nat renaming le_trans->bg,zero_le->cp
open Option renaming bind_some->ad,some->ah
open Go.Ev Go
namespace Go.Proofs.YtoekkpmeeclpeaaGreat.S
def Wq{α:Type}(x:Option α)(Q:α->Prop):Prop:=∃a,x=some a/\Q a
section
variable{α β:Type}{x y:Option α}{f:α->Option β}{P:α->Prop}{Q:β->Prop}
theorem Wq.some{a:α}(h:P a):Wq (some a) P:=⟨a,rfl,h⟩
theorem Wq.bind(h:Wq x P)(g:∀a,P a->Wq (f a) Q):Wq (x.bind f) Q:=by obtain⟨a,rfl,ha⟩:=h;exact g a ha
theorem Wq.mono{P':α->Prop}(h:Wq x P)(g:∀a,P a->P' a):Wq x P':=by obtain⟨a,rfl,ha⟩:=h;exact⟨a,rfl,g a ha⟩
theorem Wq.cond{b:Bool}(h1:b=true->Wq x P)(h2:b=false->Wq y P):Wq (bif b then x else y) P:=by cases b with|true=>exact h1 rfl|false=>exact h2 rfl
theorem Wq.Aq(h:Wq x P):Wq (x.bind fun t=>ah t) P:=by obtain⟨a,rfl,ha⟩:=h;exact⟨a,rfl,ha⟩
theorem Wq.loop{σ:Type}{f:σ->Option (σ⊕β)}{a:σ}(m:σ->Nat)(I:σ->Prop)(h0:I a)
  (h:∀a,I a->Wq (f a) fun r=>match r with|.inl b=>I b/\m b<m a|.inr c=>Q c):Wq (aU f a) Q:=by
 suffices H:∀n a,m a<=n->I a->Wq (aU f a) Q from H (m a) a (Nat.le_refl _) h0;intro n;induction n with
 |zero=>intro a hm ha;obtain⟨r,hr,hp⟩:=h a ha;cases r with|inl b=>exact absurd hp.2 (by omega)|inr c=>exact⟨c,cM hr,hp⟩
 |succ n ih=>intro a hm ha;obtain⟨r,hr,hp⟩:=h a ha;cases r with|inl b=>rw[fu hr];exact ih b (by have:=hp.2;omega) hp.1|inr c=>exact⟨c,cM hr,hp⟩
end
theorem pX{n:Int}(h0:-9223372036854775808<=n)(h1:n<=9223372036854775807):wr .i64 n=n:=by simp[wr,IntKind.wrap,IntKind.bits,IntKind.signed];omega
theorem jq{i:Int}{n:Nat}(h0:0<=i)(h1:i<n):cD i n=some i.toNat:=mJ.2 ⟨by omega,by omega⟩
theorem AE{k:IntKind}{a b:Int}(h:0<=b):AF k a b=some (sd k a b):=if_neg (by omega)
theorem AA{k:IntKind}{a b:Int}(h:0<=b):AB k a b=some (od k a b):=if_neg (by omega)
def M8(s:Int):Prop:=0<=s/\s<256
theorem I2{n:Nat}(h:n<256):IntKind.wrap .i64 (n:Int)=n:=by simp[IntKind.wrap,IntKind.bits,IntKind.signed];omega
theorem M8.bv{s:Int}(h:M8 s):(bc 64 s).toNat<256:=by unfold M8 at h;simp;omega
theorem Bh:As=KP:=by unfold As;exact XR.2
theorem qF:gu=tg:=by unfold gu;exact DT.2
theorem M8.or{a b:Int}(ha:M8 a)(hb:(bc 64 b).toNat<256):M8 (As .i64 a b):=by
 rw[Bh];unfold KP;have h:(bc 64 a|||bc 64 b).toNat<256:=by rw[BitVec.toNat_or];exact Nat.or_lt_two_pow (n:=8) ha.bv hb
 show M8 (IntKind.wrap .i64 ((bc 64 a|||bc 64 b).toNat:Int));rw[I2 h];exact⟨by omega,by omega⟩
theorem M8.abB{a b:Int}(ha:M8 a):M8 (gu .i64 a b):=by
 rw[qF];unfold tg;have h:(bc 64 a&&&~~~bc 64 b).toNat<256:=by rw[BitVec.toNat_and];exact Nat.lt_of_le_of_lt Nat.and_le_left ha.bv
 show M8 (IntKind.wrap .i64 ((bc 64 a&&&~~~bc 64 b).toNat:Int));rw[I2 h];exact⟨by omega,by omega⟩
theorem ZC{n:Nat}(h:n<=8):sd .i64 1 (n:Int)=(2^n:Nat):=by
 have:∀n:Fin 9,sd .i64 1 ((n.val:Nat):Int)=((2^n.val:Nat):Int):=by decide+kernel
 exact this ⟨n,by omega⟩
theorem M8.bit{a:Int}(ha:M8 a){s:Int}(h0:0<=s)(h1:s<8):M8 (As .i64 a (sd .i64 1 s)):=by
 obtain⟨n,rfl⟩:=Int.eq_ofNat_of_zero_le h0;rw[ZC (by omega)];have:∀n:Fin 8,(2^n.val:Nat)<256:=by decide
 have h2:2^n<256:=this ⟨n,by omega⟩;exact ha.or (M8.bv ⟨Int.natCast_nonneg _,by omega⟩)
theorem M8.bh{a up:Int}(ha:M8 a){s:Int}(h0:0<=s)(h1:s<=8):M8 (As .i64 a (gu .i64 (wr .i64 (sd .i64 1 s-1)) up)):=by
 obtain⟨n,rfl⟩:=Int.eq_ofNat_of_zero_le h0;rw[ZC (by omega)];have h:∀n:Fin 9,1<=(2^n.val:Nat)/\(2^n.val:Nat)<=256:=by decide
 have h2:1<=2^n/\2^n<=256:=h ⟨n,by omega⟩;rw[pX (by omega) (by omega)];exact ha.or (M8.bv (M8.abB ⟨by omega,by omega⟩))
def rh(s:af)(r:aj)(s':af):Prop:=ga s r=some (s',0)
inductive Ve:List aj->af->Prop
 |nil:Ve [] (0,0,false,0,0,0,false,false,0)
 |JC {l s r s'}:Ve l s->rh s r s'->Ve (l++[r]) s'
section
variable{s:af}
theorem Db{u a b:Int}(h1:s.jg=false)(h2:s.og=0)(h3:u=wr .i64 (s.U+1))(h4:0<=a/\a<16)(h5:0<=b/\b<1125899906842625):
  rh s (1,u,a,b) (u,s.pk,true,a,b,0,false,false,0):=by
 subst h3;simp[rh,ga,aj.cN,aj.U,aj.A,aj.B,qM,gA,h1,h2,h4,h5]
theorem H5(h1:s.jg=true)(h2:s.oe=false)(h3:s.bH=false)(h4:0<=s.fC/\s.fC<8):
  rh s (2,s.U,s.fC,0) (s.U,s.pk,true,s.eL,s.At,s.fC+1,s.oe,s.bH,s.og):=by
 simp[rh,ga,aj.cN,aj.U,aj.A,aj.B,jM,gA,h1,h2,h3,h4];exact pX (n:=s.fC+1) (by omega) (by omega)
theorem E7(h1:s.jg=true)(h2:s.oe=false)(h3:s.bH=false)(h4:0<s.fC):
  rh s (3,s.U,0,0) (s.U,s.pk,true,s.eL,s.At,s.fC,true,s.bH,s.og):=by
 simp[rh,ga,aj.cN,aj.U,aj.A,aj.B,jM,gA,h1,h2,h3,h4]
theorem Bz(h1:s.jg=true)(h3:s.bH=false):
  rh s (4,s.U,0,0) (s.U,s.pk,true,s.eL,s.At,s.fC,s.oe,true,s.og):=by
 simp[rh,ga,aj.cN,aj.U,aj.A,aj.B,jM,gA,h1,h3]
theorem By(h1:s.jg=true)(h2:s.oe=true)(h3:s.bH=false):
  rh s (5,s.U,0,0) (s.U,s.eL,false,0,0,0,false,false,s.og):=by
 simp[rh,ga,aj.cN,aj.U,aj.A,aj.B,jM,gA,mI,h1,h2,h3]
theorem Bx{a:Int}(h1:s.jg=true)(h3:s.bH=true)(h4:M8 a):
  rh s (6,s.U,a,0) (s.U,s.pk,false,0,0,0,false,false,a):=by
 unfold M8 at h4;simp[rh,ga,aj.cN,aj.U,aj.A,aj.B,jM,gA,mI,h1,h3,h4]
theorem zE{a:Int}(h1:s.jg=false)(h4:0<=a/\a<8)(h2:p7 .i64 (od .i64 s.og a) 1=1):
  rh s (7,s.U,a,0) (s.U,s.pk,s.jg,s.eL,s.At,s.fC,s.oe,s.bH,gu .i64 s.og (sd .i64 1 a)):=by
 simp[rh,ga,aj.cN,aj.U,aj.A,aj.B,lK,gA,h1,h4,AA h4.1,AE h4.1,h2]
end
end Go.Proofs.YtoekkpmeeclpeaaGreat.S
open Go.Ev Go
namespace Go.Proofs.YtoekkpmeeclpeaaGreat.S
section
variable{κ ν:Type}
theorem CV{v:ν}:∀{es:List (κ×ν×Nat)}{i:Nat},(mH es i v).map (·.1)=es.map (·.1)
 |[],_=>rfl
 |_::_,0=>rfl
 |e::es,i+1=>congrArg (e.1::·) (CV (es:=es))
theorem E2{v:ν}:∀{es:List (κ×ν×Nat)}{i:Nat},(mH es i v).map (·.2.2)=es.map (·.2.2)
 |[],_=>rfl
 |_::_,0=>rfl
 |e::es,i+1=>congrArg (e.2.2::·) (E2 (es:=es))
theorem Ls{v:ν}{es:List (κ×ν×Nat)}{i:Nat}:(mH es i v).length=es.length:=by have:=congrArg List.length (CV (v:=v) (es:=es) (i:=i));simpa using this
theorem Cj{v:ν}{x:κ×ν×Nat}:∀{es:List (κ×ν×Nat)}{i:Nat},x∈mH es i v->x∈es\/∃e,es[i]?=some e/\x=(e.1,v,e.2.2)
 |[],_,h=>by simp[mH]at h
 |e::es,0,h=>by
  simp only[mH,aI]at h;rcases h with h|h
  .exact .inr ⟨e,rfl,h⟩
  .exact .inl (bd _ h)
 |e::es,i+1,h=>by
  simp only[mH,aI]at h;rcases h with h|h
  .exact .inl (h▸aG)
  .rcases Cj h with h|⟨y,h1,h2⟩
   .exact .inl (bd _ h)
   .exact .inr ⟨y,by simpa using h1,h2⟩
theorem A1[DecidableEq κ]{k:κ}:∀{es:List (κ×ν×Nat)}{i:Nat},dx k es i=none->k∉es.map (·.1)
 |[],_,_=>by simp
 |e::es,i,h=>by
  simp only[dx]at h;split at h
  .simp at h
  .rename_i hk;have:=A1 h;simp only[a_,aI,not_or];exact⟨hk,this⟩
end
structure Ca(m:Mp Int aa):Prop where
 MY:∀e∈m.es,e.2.2<m.ce
 nd:(m.es.map (·.2.2)).Nodup
 kd:(m.es.map (·.1)).Nodup
 key:∀e∈m.es,(0<=e.2.1.Sw/\e.2.1.Sw<8)/\(0<=e.2.1.Rd/\e.2.1.Rd<8)/\e.1=e.2.1.Rd*8+e.2.1.Sw
 len:m.es.length<=64
theorem Ca.none:Ca Mp.none:=⟨fun _ h=>(aW h).elim,.nil,.nil,fun _ h=>(aW h).elim,cp _⟩
section
variable{m:Mp Int aa}{k:Int}{v:aa}
theorem Ca.sub{m':Mp Int aa}(h:Ca m)(hs:m'.es.Sublist m.es)(hc:m'.ce=m.ce):Ca m':=⟨fun e he=>hc▸h.MY e (hs.subset he),h.nd.sublist (hs.map _),h.kd.sublist (hs.map _),fun e he=>h.key e (hs.subset he),bg hs.length_le h.len⟩
theorem Ux:(wb m k).es.Sublist m.es/\(wb m k).ce=m.ce:=by
 unfold wb;split
 .exact ⟨List.eraseIdx_sublist _ _,rfl⟩
 .exact ⟨.refl _,rfl⟩
theorem QK{up:Int}:(rL up m).es.Sublist m.es/\(rL up m).ce=m.ce:=⟨List.filter_sublist,rfl⟩
theorem Sq{x:Int×aa×Nat}(h:x∈(wV m k v).es):x∈m.es\/x.2.1=v:=by
 unfold wV at h;split at h
 .rcases Cj h with h|⟨e,_,rfl⟩
  .exact .inl h
  .exact .inr rfl
 .rcases aF.1 h with h|h
  .exact .inl h
  .rw [az.1 h];exact .inr rfl
theorem K8:(wV m k v).es.length<=m.es.length+1:=by
 unfold wV;split
 .rw [Ls];omega
 .simp
theorem Ca.Yg(h:Ca m)(h1:0<=v.Sw/\v.Sw<8)(h2:0<=v.Rd/\v.Rd<8)(h3:k=v.Rd*8+v.Sw)(hl:m.es.length<64):Ca (wV m k v):=by
 have hlen:=K8 (m:=m) (k:=k) (v:=v);unfold wV at hlen|-;split
 .rename_i i e hf;obtain⟨hi,he,hk⟩:=kU hf;refine⟨fun x hx=>?_,?_,?_,fun x hx=>?_,by rw[Ls];exact h.len⟩
  .rcases Cj hx with hx|⟨y,hy,rfl⟩
   .exact h.MY x hx
   .exact h.MY y (bj hy)
  .show ((mH _ _ _).map _).Nodup;rw[E2];exact h.nd
  .show ((mH _ _ _).map _).Nodup;rw[CV];exact h.kd
  .rcases Cj hx with hx|⟨y,hy,rfl⟩
   .exact h.key x hx
   .rw [Nat.sub_zero]at he;rw[he]at hy;cases hy;exact⟨h1,h2,hk.trans h3⟩
 .rename_i hf;refine⟨fun x hx=>?_,?_,?_,fun x hx=>?_,?_⟩
  .rcases aF.1 hx with hx|hx
   .exact Nat.lt_succ_of_lt (h.MY x hx)
   .rw [az.1 hx];exact Nat.lt_succ_self _
  .rw [eS];refine bD.2 ⟨h.nd,by simp,fun a ha b hb=>?_⟩;obtain⟨e,he,rfl⟩:=List.mem_map.1 ha;have:=h.MY e he;simp only[a_,gF,az]at hb;omega
  .rw [eS];refine bD.2 ⟨h.kd,by simp,fun a ha b hb hab=>?_⟩;simp only[a_,gF,az]at hb;subst hb;subst hab;exact A1 hf ha
  .rcases aF.1 hx with hx|hx
   .exact h.key x hx
   .rw [az.1 hx];exact⟨h1,h2,h3⟩
  .rw [aA,aP];omega
theorem Ca.ok(h:Ca m):Ov m:=by refine⟨by have:=h.len;omega,fun e he=>⟨h.MY e he,?_⟩,h.nd,h.kd⟩;have:=h.key e he;omega
theorem Ca.okB(h:Ca m):E9 m=true:=decide_eq_true h.ok
theorem Ca.aeX(h:Ca m):A7 (β:=Int×Int×Int×Int×Int×Int×Int×Sl bl) m=true:=by unfold A7;rw[Bool.and_eq_true,List.all_eq_true];exact⟨decide_eq_true h.ok,fun e he=>decide_eq_true (h.key e he).1.1⟩
theorem SM(h:Ca m){up sk:Int}(hs:M8 sk):M8 (kC (β:=Int×Int×Int×Int×Int×Int×Int×Sl bl) up m sk):=by
 unfold kC
 have:∀(es:List (Int×aa×Nat)),(∀e∈es,0<=e.2.1.Sw/\e.2.1.Sw<8)->∀sk,M8 sk->M8 (es.foldl (fun s e=>bif ME up e.2.1.2.1 then s else As .i64 s (sd .i64 1 e.2.1.2.1)) sk):=by
  intro es;induction es with
  |nil=>intro _ sk h;exact h
  |cons e es ih=>intro he sk hk;refine ih (fun x hx=>he x (bd _ hx)) _ ?_;show M8 (bif ME up e.2.1.2.1 then sk else As .i64 sk (sd .i64 1 e.2.1.2.1));cases ME up e.2.1.2.1 with|true=>exact hk|false=>exact hk.bit (he e aG).1 (he e aG).2
 exact this m.es (fun e he=>(h.key e he).1) sk hs
theorem QG{k:Int}:k∈(nW m).l<->k∈m.es.map (·.1):=by
 unfold nW Ev.Dm;split
 .rename_i h;simp[h]
 .exact (q_ _).mem_iff
theorem QH:(nW m).l.length=m.es.length:=by
 unfold nW Ev.Dm;split
 .rename_i h;simp[h]
 .rw [Sl.qz,(q_ _).length_eq,List.length_map]
theorem Ud{z:aa}(h:k∈m.es.map (·.1)):∃e∈m.es,kp m z k=e.2.1:=by
 unfold kp;split
 .rename_i i e hf;obtain⟨_,he,_⟩:=kU hf;exact⟨e,bj he,rfl⟩
 .rename_i hf;exact absurd h (A1 hf)
end
end Go.Proofs.YtoekkpmeeclpeaaGreat.S
open Go.Ev Go
namespace Go.Proofs.YtoekkpmeeclpeaaGreat.S
structure Cx where
 c:ai
 d_:Sl (Sl (Sl Int))
 l:Sl aj
 cw:af
 cu:Int
 dp:am
 lU:Int
 cZ:Mp Int aa
 eU:Int
 bh:Int
 skip:Int
 dJ:Int
 vP:Arr 8 ak
 eQ:Arr 8 Int
 out:Sl aa
 bX:Sl ax
abbrev Tu:Type:=ai×Sl (Sl (Sl Int))×Sl aj×af×Int×am×Int×Mp Int aa×Int×Int×Int×Int×Arr 8 ak×Arr 8 Int×Sl aa×Sl ax
abbrev Tl:Type:=ai×Sl (Sl (Sl Int))×af×Int×am×Int×Int×Int×Int×Int×Arr 8 ak×Arr 8 Int×Sl aj×Mp Int aa×Sl aa×Sl ax
@[reducible] def Cx.tu (x:Cx):Tu:=(x.c,x.d_,x.l,x.cw,x.cu,x.dp,x.lU,x.cZ,x.eU,x.bh,x.skip,x.dJ,x.vP,x.eQ,x.out,x.bX)
@[reducible] def Cx.lp (x:Cx):Tl:=(x.c,x.d_,x.cw,x.cu,x.dp,x.lU,x.eU,x.bh,x.skip,x.dJ,x.vP,x.eQ,x.l,x.cZ,x.out,x.bX)
def Wc(p:Option Tu)(Q:Cx->Prop):Prop:=∃x:Cx,p=some x.tu/\Q x
def Wl(p:Option Tl)(Q:Cx->Prop):Prop:=∃x:Cx,p=some x.lp/\Q x
section
variable{β:Type}{P Q:Cx->Prop}{R:β->Prop}
theorem Wc.some{x:Cx}(h:Q x):Wc (some x.tu) Q:=⟨x,rfl,h⟩
theorem Wl.some{x:Cx}(h:Q x):Wl (some x.lp) Q:=⟨x,rfl,h⟩
theorem Wc.bind{p:Option Tu}{f:Tu->Option β}(h:Wc p P)(g:∀x,P x->Wq (f x.tu) R):Wq (p.bind f) R:=by obtain⟨x,rfl,hx⟩:=h;exact g x hx
theorem Wc.mP{p:Option Tu}{f:Tu->Option Tu}(h:Wc p P)(g:∀x,P x->Wc (f x.tu) Q):Wc (p.bind f) Q:=by obtain⟨x,rfl,hx⟩:=h;exact g x hx
theorem Wl.mP{p:Option Tl}{f:Tl->Option Tu}(h:Wl p P)(g:∀x,P x->Wc (f x.lp) Q):Wc (p.bind f) Q:=by obtain⟨x,rfl,hx⟩:=h;exact g x hx
theorem Wq.mP{α:Type}{P:α->Prop}{p:Option α}{f:α->Option Tu}(h:Wq p P)(g:∀x,P x->Wc (f x) Q):Wc (p.bind f) Q:=by obtain⟨x,rfl,hx⟩:=h;exact g x hx
theorem Wc.Aq{p:Option Tu}(h:Wc p P):Wc (p.bind fun(a,b,c,d,e,f,g,h,i,j,k,l,m,n,o,q)=>ah (a,b,c,d,e,f,g,h,i,j,k,l,m,n,o,q)) P:=by obtain⟨x,rfl,hx⟩:=h;exact⟨x,rfl,hx⟩
theorem Wc.mono{p:Option Tu}(h:Wc p P)(g:∀x,P x->Q x):Wc p Q:=by obtain⟨x,rfl,hx⟩:=h;exact⟨x,rfl,g x hx⟩
theorem Wc.cond{b:Bool}{x y:Option Tu}(h1:b=true->Wc x P)(h2:b=false->Wc y P):Wc (bif b then x else y) P:=by cases b with|true=>exact h1 rfl|false=>exact h2 rfl
theorem Wl.up{f:Int×Tl->Option ((Int×Tl)⊕Tl)}{x:Cx}(n:Nat)(hn:n<4611686018427387904)(J:Nat->Cx->Prop)(h0:J 0 x)
  (h:∀i x,i<=n->J i x->Wq (f (i,x.lp)) fun r=>match r with|.inl b=>∃y:Cx,b=(wr .i64 ((i:Int)+1),y.lp)/\i<n/\J (i+1) y|.inr c=>∃y:Cx,c=y.lp/\Q y):Wl (aU f (0,x.lp)) Q:=by
 have H:Wq (aU f (0,x.lp)) fun c=>∃y:Cx,c=y.lp/\Q y:=by
  refine Wq.loop (fun a=>n-a.1.toNat) (fun a=>∃(i:Nat)(y:Cx),a=((i:Int),y.lp)/\i<=n/\J i y) ⟨0,x,rfl,by omega,h0⟩ ?_;rintro _ ⟨i,y,rfl,hi,hj⟩;refine(h i y hi hj).mono ?_;rintro(b|c) hr
  .obtain ⟨z,rfl,h1,h2⟩:=hr;rw[pX (by omega) (by omega)];exact⟨⟨i+1,z,by simp,by omega,h2⟩,by simp only;omega⟩
  .exact hr
 obtain⟨c,hc,y,rfl,hy⟩:=H;exact⟨y,hc,hy⟩
theorem Wq.up{σ:Type}{f:Int×σ->Option ((Int×σ)⊕β)}{s:σ}(n:Nat)(hn:n<4611686018427387904)(J:Nat->σ->Prop)(h0:J 0 s)
  (h:∀i s,i<=n->J i s->Wq (f (i,s)) fun r=>match r with|.inl b=>∃y,b=(wr .i64 ((i:Int)+1),y)/\i<n/\J (i+1) y|.inr c=>R c):Wq (aU f (0,s)) R:=by
 refine Wq.loop (fun a=>n-a.1.toNat) (fun a=>∃(i:Nat)(y:σ),a=((i:Int),y)/\i<=n/\J i y) ⟨0,s,rfl,by omega,h0⟩ ?_;rintro _ ⟨i,y,rfl,hi,hj⟩;refine(h i y hi hj).mono ?_;rintro(b|c) hr
 .obtain ⟨z,rfl,h1,h2⟩:=hr;rw[pX (by omega) (by omega)];exact⟨⟨i+1,z,by simp,by omega,h2⟩,by simp only;omega⟩
 .exact hr
end
theorem pJ{α:Type}{l:List α}(h:l.length<=1000000):ic l=some l:=nm (by omega)
theorem RE{x:Cx}{now at':Int}:∃b,mN x.c x.d_ x.l x.cw x.cu x.dp x.lU x.cZ x.eU x.bh x.skip x.dJ x.vP x.eQ x.out x.bX now at'=some (b,x.tu):=⟨_,rfl⟩
def kr(o:Sl aa):Prop:=∀m∈o.l,m.cN≠4
theorem kr.add{o:Sl aa}{m:aa}(h:kr o)(hm:m.cN≠4):kr (.mk (o.l++[m])):=fun x hx=>by
 rcases aF.1 hx with hx|hx
 .exact h x hx
 .rw [az.1 hx];exact hm
section
variable{x:Cx}{now up:Int}
theorem UR(hs:0<=x.c.T.au/\x.c.T.au<=8)(ho:x.out.l.length<10000)(hN:kr x.out):
  Wc (lV x.c x.d_ x.l x.cw x.cu x.dp x.lU x.cZ x.eU x.bh x.skip x.dJ x.vP x.eQ x.out x.bX now up) fun y=>∃o a,y={x with out:=o,eQ:=a}/\o.l.length<=x.out.l.length+8/\kr o:=by
 unfold lV
 have H:Wl (aU (kM x.c now up) (0,x.lp)) fun y=>∃o a,y={x with out:=o,eQ:=a}/\o.l.length<=x.out.l.length+8/\kr o:=by
  refine Wl.up x.c.T.au.toNat (by omega) (fun i y=>∃o a,y={x with out:=o,eQ:=a}/\o.l.length<=x.out.l.length+i/\kr o) ⟨x.out,x.eQ,rfl,by omega,hN⟩ ?_;rintro i _ hi ⟨o,a,rfl,hl,hn⟩;dsimp only[kM];refine Wq.cond (fun hb=>?_) (fun hb=>?_)
  .have hlt:(i:Int)<x.c.T.au:=of_decide_eq_true hb;rw[AA (by omega),jq (i:=(i:Int)) (n:=8) (by omega) (by omega)];simp only[ad];refine Wq.bind (P:=fun r=>∃o' a',r=({x with out:=o',eQ:=a'}:Cx).lp/\o'.l.length<=x.out.l.length+(i+1)/\kr o') ?_ ?_
   .refine Wq.bind (P:=fun r=>∃b,r=(b,({x with out:=o,eQ:=a}:Cx).lp)) ?_ ?_
    .refine Wq.cond (fun _=>?_) (fun _=>Wq.some ⟨false,rfl⟩);obtain⟨b,hb⟩:=RE (x:={x with out:=o,eQ:=a}) (now:=now) (at':=gt a.1 (i:Int).toNat);dsimp only at hb;rw[hb];exact Wq.some ⟨b,rfl⟩
    .rintro _ ⟨b,rfl⟩;dsimp only;refine Wq.cond (fun _=>?_) (fun _=>Wq.some ⟨o,a,rfl,by omega,hn⟩);rw[pJ (by rw[aA,aP];omega)];exact Wq.some ⟨_,_,rfl,by simp;omega,hn.add (show(1:Int)≠4 by decide)⟩
   .rintro _ ⟨o',a',rfl,h1,h2⟩;exact Wq.some ⟨{x with out:=o',eQ:=a'},rfl,by omega,o',a',rfl,by omega,h2⟩
  .exact Wq.some ⟨_,rfl,o,a,rfl,by omega,hn⟩
 refine H.mP ?_;rintro _ ⟨o,a,rfl,h⟩;exact Wc.some (x:={x with out:=o,eQ:=a}) ⟨o,a,rfl,h⟩
theorem XM(hs:0<=x.c.T.au/\x.c.T.au<=8)(ho:x.out.l.length<10000)(hN:kr x.out):
  Wc (nh x.c x.d_ x.l x.cw x.cu x.dp x.lU x.cZ x.eU x.bh x.skip x.dJ x.vP x.eQ x.out x.bX now up) fun y=>∃o a,y={x with out:=o,dJ:=a}/\o.l.length<=x.out.l.length+8/\kr o:=by
 unfold nh;refine Wq.mP (P:=fun r=>∃b,r=(b,x.lp)) ?_ ?_
 .refine Wq.cond (fun _=>Wq.some ⟨true,rfl⟩) (fun _=>?_);obtain⟨b,hb⟩:=RE (x:=x) (now:=now) (at':=x.dJ);rw[hb];exact Wq.some ⟨!b,rfl⟩
 .rintro _ ⟨b,rfl⟩;dsimp only;refine Wc.cond (fun _=>Wc.some ⟨_,_,rfl,by omega,hN⟩) (fun _=>?_)
  have H:Wl (aU (lM up x.c) (0,({x with dJ:=now}:Cx).lp)) fun y=>∃o,y={x with out:=o,dJ:=now}/\o.l.length<=x.out.l.length+8/\kr o:=by
   refine Wl.up x.c.T.au.toNat (by omega) (fun i y=>∃o,y={x with out:=o,dJ:=now}/\o.l.length<=x.out.l.length+i/\kr o) ⟨x.out,rfl,by omega,hN⟩ ?_;rintro i _ hi ⟨o,rfl,hl,hn⟩;dsimp only[lM];refine Wq.cond (fun hb=>?_) (fun hb=>Wq.some ⟨_,rfl,o,rfl,by omega,hn⟩);have hlt:(i:Int)<x.c.T.au:=of_decide_eq_true hb;rw[AA (by omega)];simp only[ad];refine Wq.bind (P:=fun r=>∃o',r=({x with out:=o',dJ:=now}:Cx).lp/\o'.l.length<=x.out.l.length+(i+1)/\kr o') ?_ ?_
   .refine Wq.cond (fun _=>?_) (fun _=>Wq.some ⟨o,rfl,by omega,hn⟩);rw[pJ (by rw[aA,aP];omega)];exact Wq.some ⟨_,rfl,by simp;omega,hn.add (show(5:Int)≠4 by decide)⟩
   .rintro _ ⟨o',rfl,h1,h2⟩;exact Wq.some ⟨{x with out:=o',dJ:=now},rfl,by omega,o',rfl,by omega,h2⟩
  refine H.mP ?_;rintro _ ⟨o,rfl,h⟩;exact Wc.some (x:={x with out:=o,dJ:=now}) ⟨o,now,rfl,h⟩
theorem vW{k u a b:Int}{s':af}(hl:x.l.l.length<10000)(hn:rh x.cw (k,u,a,b) s'):
  eD x.c x.d_ x.l x.cw x.cu x.dp x.lU x.cZ x.eU x.bh x.skip x.dJ x.vP x.eQ x.out x.bX k u a b=some ({x with l:=.mk (x.l.l++[(k,u,a,b)]),cw:=s'}:Cx).tu:=by
 unfold eD;rw[pJ (by rw[aA,aP];omega)];unfold rh at hn;rw[ad,hn];rfl
theorem Gu{k sw a b:Int}(hl:x.bX.l.length<10000):
  ∃e:Sl ax,e.l.length=x.bX.l.length+1/\iM x.c x.d_ x.l x.cw x.cu x.dp x.lU x.cZ x.eU x.bh x.skip x.dJ x.vP x.eQ x.out x.bX now k sw a b=some ({x with bX:=e}:Cx).tu:=by
 unfold iM;rw[pJ (by rw[aA,aP];omega)];exact⟨.mk (x.bX.l++[_]),aA,rfl⟩
theorem I1(hw:Ca x.cZ)(ho:x.out.l.length<10000):
  Wc (je x.c x.d_ x.l x.cw x.cu x.dp x.lU x.cZ x.eU x.bh x.skip x.dJ x.vP x.eQ x.out x.bX now) fun y=>∃o,y={x with out:=o,eU:=now}/\o.l.length<=x.out.l.length+64/\∀m∈o.l,m∈x.out.l\/∃e∈x.cZ.es,e.2.1=m:=by
 unfold je;refine Wc.cond (fun _=>?_) (fun h=>absurd hw.okB (by rw[h];decide));have hlen:=QH (m:=x.cZ);have h64:=hw.len
 have H:Wl (aU (mn x.cZ) (0,({x with eU:=now}:Cx).lp)) fun y=>∃o,y={x with out:=o,eU:=now}/\o.l.length<=x.out.l.length+64/\∀m∈o.l,m∈x.out.l\/∃e∈x.cZ.es,e.2.1=m:=by
  refine Wl.up (nW x.cZ).l.length (by omega) (fun i y=>∃o,y={x with out:=o,eU:=now}/\o.l.length<=x.out.l.length+i/\∀m∈o.l,m∈x.out.l\/∃e∈x.cZ.es,e.2.1=m) ⟨x.out,rfl,by omega,fun _ h=>.inl h⟩ ?_;rintro i _ hi ⟨o,rfl,hl,hn⟩;dsimp only[mn];refine Wq.cond (fun hb=>?_) (fun hb=>Wq.some ⟨_,rfl,o,rfl,by omega,hn⟩);have hlt:i<(nW x.cZ).l.length:=by have:=of_decide_eq_true hb;omega
  rw[bS hlt];simp only[ad];rw[pJ (by rw[aA,aP];omega)];refine Wq.some ⟨{x with out:=.mk (o.l++[_]),eU:=now},rfl,hlt,_,rfl,by simp;omega,fun m hm=>?_⟩;rcases aF.1 hm with hm|hm
  .exact hn m hm
  .rw [az.1 hm];have:gt (nW x.cZ).l i∈(nW x.cZ).l:=by rw[cU hlt];exact aX _
   obtain⟨e,he,h⟩:=Ud (z:=(0,0,0,0,0,0,0,0,0,Sl.nil)) (QG.1 this);exact .inr ⟨e,he,h.symm⟩
 refine H.mP ?_;rintro _ ⟨o,rfl,h⟩;exact Wc.some (x:={x with out:=o,eU:=now}) ⟨o,rfl,h⟩
def Ask(l:List aa):Prop:=l.length<=64/\∀m∈l,(0<=m.Sw/\m.Sw<8)/\(0<=m.Rd/\m.Rd<8)
theorem Xe{m:aa}(h1:0<=m.Sw/\m.Sw<8)(h2:0<=m.Rd/\m.Rd<8):tY m.Rd m.Sw=some (m.Rd*8+m.Sw):=by unfold tY;rw[pX (n:=m.Rd*8) (by omega) (by omega),pX (by omega) (by omega)]
theorem Mk{l:Sl aa}(hl:Ask l.l)(ho:x.out.l.length<10000):
  Wc (jO x.c x.d_ x.l x.cw x.cu x.dp x.lU x.cZ x.eU x.bh x.skip x.dJ x.vP x.eQ x.out x.bX now l) fun y=>∃o w,y={x with cZ:=w,out:=o,eU:=now}/\Ca w/\(∀e∈w.es,e.2.1∈l.l)/\(l.l=[]->w.es=[])/\o.l.length<=x.out.l.length+64/\∀m∈o.l,m∈x.out.l\/∃e∈w.es,e.2.1=m:=by
 unfold jO;have h64:=hl.1
 have H:Wl (aU (pH l) (0,({x with cZ:=.none}:Cx).lp)) fun y=>∃w,y={x with cZ:=w}/\Ca w/\(∀e∈w.es,e.2.1∈l.l)/\(l.l=[]->w.es=[]):=by
  refine Wl.up l.l.length (by omega) (fun i y=>∃w,y={x with cZ:=w}/\Ca w/\(∀e∈w.es,e.2.1∈l.l)/\w.es.length<=i) ⟨.none,rfl,.none,fun _ h=>(aW h).elim,cp _⟩ ?_;rintro i _ hi ⟨w,rfl,hw,hm,hle⟩;dsimp only[pH];refine Wq.cond (fun hb=>?_) (fun hb=>Wq.some ⟨_,rfl,w,rfl,hw,hm,fun h=>?_⟩)
  .have hlt:i<l.l.length:=by have:=of_decide_eq_true hb;omega
   rw[bS hlt];simp only[ad];have hmem:gt l.l i∈l.l:=by rw[cU hlt];exact aX _
   obtain⟨h1,h2⟩:=hl.2 _ hmem;rw[Xe h1 h2];refine Wq.some ⟨{x with cZ:=wV w ((gt l.l i).Rd*8+(gt l.l i).Sw) (gt l.l i)},rfl,hlt,_,rfl,hw.Yg h1 h2 rfl (by omega),fun e he=>?_,bg K8 (by omega)⟩;rcases Sq he with he|he
   .exact hm e he
   .rw [he];exact hmem
  .rw [h]at hi;exact List.eq_nil_of_length_eq_zero (by simp at hi;omega)
 refine H.mP ?_;rintro _ ⟨w,rfl,hw,hm,hz⟩;refine Wc.Aq ((I1 (x:={x with cZ:=w}) (now:=now) hw ho).mono ?_);rintro _ ⟨o,rfl,h1,h2⟩;exact⟨o,w,rfl,hw,hm,hz,h1,h2⟩
end
end Go.Proofs.YtoekkpmeeclpeaaGreat.S
open Go.Ev Go
namespace Go.Proofs.YtoekkpmeeclpeaaGreat.S
abbrev Tt{α:Type}(x:Option α):Prop:=Wq x fun _=>True
theorem O6{a:Int}:Tt (sg a):=by unfold sg;(repeat'(first|assumption|exact Wq.some trivial|with_reducible refine Wq.cond (fun _=>?_) (fun _=>?_)|with_reducible refine Wq.bind (P:=fun _=>True) ?_ (fun _ _=>?_)))
theorem Ay:Tt mZ:=by unfold mZ;(repeat'(first|assumption|exact Wq.some trivial|with_reducible refine Wq.cond (fun _=>?_) (fun _=>?_)|with_reducible refine Wq.bind (P:=fun _=>True) ?_ (fun _ _=>?_)))
theorem zf{a:bA}:Tt (ja a):=by have:=@O6;have:=Ay;unfold ja;(repeat'(first|assumption|exact Wq.some trivial|with_reducible refine Wq.cond (fun _=>?_) (fun _=>?_)|with_reducible refine Wq.bind (P:=fun _=>True) ?_ (fun _ _=>?_)))<;>apply_assumption
theorem Ce{a:bA}:Tt (oC a):=by have:=@zf;have:=Ay;unfold oC;(repeat'(first|assumption|exact Wq.some trivial|with_reducible refine Wq.cond (fun _=>?_) (fun _=>?_)|with_reducible refine Wq.bind (P:=fun _=>True) ?_ (fun _ _=>?_)))<;>apply_assumption
theorem K_{a:bA}{b:Int}:Tt (sE a b):=by have:=@zf;have:=@O6;have:=@Ce;unfold sE;(repeat'(first|assumption|exact Wq.some trivial|with_reducible refine Wq.cond (fun _=>?_) (fun _=>?_)|with_reducible refine Wq.bind (P:=fun _=>True) ?_ (fun _ _=>?_)))<;>apply_assumption
theorem Vl{a:bA}:Tt (wL a):=by have:=@zf;have:=@Ce;unfold wL;(repeat'(first|assumption|exact Wq.some trivial|with_reducible refine Wq.cond (fun _=>?_) (fun _=>?_)|with_reducible refine Wq.bind (P:=fun _=>True) ?_ (fun _ _=>?_)))<;>apply_assumption
theorem Ww{a:bA}:Tt (xq a):=by have:=@zf;have:=@Ce;have:=@Vl;unfold xq;(repeat'(first|assumption|exact Wq.some trivial|with_reducible refine Wq.cond (fun _=>?_) (fun _=>?_)|with_reducible refine Wq.bind (P:=fun _=>True) ?_ (fun _ _=>?_)))<;>apply_assumption
theorem Wv{a b:bA}:Tt (xp a b):=by have:=@zf;unfold xp;(repeat'(first|assumption|exact Wq.some trivial|with_reducible refine Wq.cond (fun _=>?_) (fun _=>?_)|with_reducible refine Wq.bind (P:=fun _=>True) ?_ (fun _ _=>?_)))<;>apply_assumption
theorem La{a b:Int}:Tt (re a b):=by unfold re;(repeat'(first|assumption|exact Wq.some trivial|with_reducible refine Wq.cond (fun _=>?_) (fun _=>?_)|with_reducible refine Wq.bind (P:=fun _=>True) ?_ (fun _ _=>?_)))
theorem Yi{e:ak}{a b:Int}:Tt (zi e a b):=by have:=@La;have:=@K_;have:=Ay;unfold zi;(repeat'(first|assumption|exact Wq.some trivial|with_reducible refine Wq.cond (fun _=>?_) (fun _=>?_)|with_reducible refine Wq.bind (P:=fun _=>True) ?_ (fun _ _=>?_)))<;>apply_assumption
theorem SH{a b c d:Int}:Tt (vn a b c d):=by have:=@La;have:=@K_;unfold vn;(repeat'(first|assumption|exact Wq.some trivial|with_reducible refine Wq.cond (fun _=>?_) (fun _=>?_)|with_reducible refine Wq.bind (P:=fun _=>True) ?_ (fun _ _=>?_)))<;>apply_assumption
theorem Yk{e:ak}{a b:Int}:Tt (zj e a b):=by have:=@Yi;have:=@Vl;have:=@Ww;unfold zj;(repeat'(first|assumption|exact Wq.some trivial|with_reducible refine Wq.cond (fun _=>?_) (fun _=>?_)|with_reducible refine Wq.bind (P:=fun _=>True) ?_ (fun _ _=>?_)))<;>apply_assumption
theorem SE{e:ak}{a b c d:Int}:Tt (uM e a b c d):=by have:=@Yi;have:=@SH;have:=@Wv;have:=@Ce;unfold uM;(repeat'(first|assumption|exact Wq.some trivial|with_reducible refine Wq.cond (fun _=>?_) (fun _=>?_)|with_reducible refine Wq.bind (P:=fun _=>True) ?_ (fun _ _=>?_)))<;>apply_assumption
theorem Yj{a b c:Int}:Tt (f0 a b c):=by unfold f0;(repeat'(first|assumption|exact Wq.some trivial|with_reducible refine Wq.cond (fun _=>?_) (fun _=>?_)|with_reducible refine Wq.bind (P:=fun _=>True) ?_ (fun _ _=>?_)))
theorem Wx{f:Int}:Wq (tR f) fun r=>0<=r:=by unfold tR;refine Wq.bind (P:=fun _=>True) (by(repeat'(first|assumption|exact Wq.some trivial|with_reducible refine Wq.cond (fun _=>?_) (fun _=>?_)|with_reducible refine Wq.bind (P:=fun _=>True) ?_ (fun _ _=>?_)))) fun b _=>?_;exact Wq.cond (fun _=>Wq.some (by decide)) fun _=>Wq.cond (fun _=>Wq.some (by decide)) fun _=>Wq.some (by decide)
theorem Vk{f:Int}:Tt (mG f):=by unfold mG;refine Wx.bind fun r hr=>?_;rw[AE hr];exact Wq.some trivial
theorem SG{m:dO}:Tt (tT m):=by
 unfold tT;refine Wq.cond (fun _=>Wq.some trivial) fun _=>Wq.bind (P:=fun _=>True) ?_ fun r _=>?_
 .refine Wq.loop (fun i=>4-i.toNat) (fun i=>0<=i/\i<=4) ⟨by omega,by omega⟩ ?_;rintro i ⟨h0,h4⟩;unfold wX;refine Wq.cond (fun hb=>?_) (fun _=>Wq.some trivial);have hlt:i<4:=of_decide_eq_true hb;rw[jq h0 (by omega)];simp only[ad];refine Wq.bind (P:=fun _=>True) ?_ fun b _=>?_
  .have:=@Vk;(repeat'(first|assumption|exact Wq.some trivial|with_reducible refine Wq.cond (fun _=>?_) (fun _=>?_)|with_reducible refine Wq.bind (P:=fun _=>True) ?_ (fun _ _=>?_)))<;>apply_assumption
  .refine Wq.cond (fun _=>Wq.some trivial) fun _=>Wq.some ?_;show(0<=wr .i64 (i+1)/\wr .i64 (i+1)<=4)/\4-(wr .i64 (i+1)).toNat<4-i.toNat;rw[pX (by omega) (by omega)];omega
 .cases r<;>exact Wq.some trivial
theorem Yl{a:dS}{p:Int}:Tt (xG a p):=by have:=@Vk;unfold xG;(repeat'(first|assumption|exact Wq.some trivial|with_reducible refine Wq.cond (fun _=>?_) (fun _=>?_)|with_reducible refine Wq.bind (P:=fun _=>True) ?_ (fun _ _=>?_)))<;>apply_assumption
theorem WA{a:dS}{p:Int}:Tt (t_ a p):=by have:=@Yl;unfold t_;(repeat'(first|assumption|exact Wq.some trivial|with_reducible refine Wq.cond (fun _=>?_) (fun _=>?_)|with_reducible refine Wq.bind (P:=fun _=>True) ?_ (fun _ _=>?_)))<;>apply_assumption
theorem Wz{l:Sl dS}{p:Int}:Tt (xH l p):=by
 unfold xH;refine Wq.bind (P:=fun _=>True) (Wq.cond (fun hb=>?_) fun _=>Wq.some trivial) fun _ _=>Wq.some trivial;have hl:(l.l.length:Int)<=16:=of_decide_eq_true hb;unfold d9 ew;refine Wq.bind (P:=fun _=>True) ?_ fun _ _=>Wq.some trivial;refine Wq.bind (P:=fun _=>True) ?_ fun _ _=>Wq.some trivial;refine Wq.bind (P:=fun _=>True) ?_ fun r _=>by cases r<;>exact Wq.some trivial
 refine Wq.loop (fun i=>l.l.length-i.toNat) (fun i=>0<=i/\i<=l.l.length) ⟨by omega,by omega⟩ ?_;rintro i ⟨h0,h4⟩;unfold fV;refine Wq.cond (fun hb=>?_) (fun _=>Wq.some trivial);have hlt:i<l.l.length:=of_decide_eq_true hb;rw[jq h0 hlt];simp only[ad];refine WA.bind fun b _=>Wq.cond (fun _=>Wq.some trivial) fun _=>Wq.some ?_;show(0<=wr .i64 (i+1)/\wr .i64 (i+1)<=l.l.length)/\l.l.length-(wr .i64 (i+1)).toNat<l.l.length-i.toNat;rw[pX (by omega) (by omega)];omega
theorem Wu{r:cX}{p:Int}:Tt (vv r p):=by have:=@SG;have:=@Wz;unfold vv;(repeat'(first|assumption|exact Wq.some trivial|with_reducible refine Wq.cond (fun _=>?_) (fun _=>?_)|with_reducible refine Wq.bind (P:=fun _=>True) ?_ (fun _ _=>?_)))<;>apply_assumption
theorem O7{m:bl}:Tt (rP m):=by have:=@Wu;have:=@Yj;unfold rP;(repeat'(first|assumption|exact Wq.some trivial|with_reducible refine Wq.cond (fun _=>?_) (fun _=>?_)|with_reducible refine Wq.bind (P:=fun _=>True) ?_ (fun _ _=>?_)))<;>apply_assumption
theorem MO{m:bl}:Tt (nR m):=by have:=@O7;unfold nR;(repeat'(first|assumption|exact Wq.some trivial|with_reducible refine Wq.cond (fun _=>?_) (fun _=>?_)|with_reducible refine Wq.bind (P:=fun _=>True) ?_ (fun _ _=>?_)))<;>apply_assumption
theorem MN{l:Sl bl}(hl:l.l.length<=1000):Tt (bG l):=by
 unfold bG cA;refine Wq.bind (P:=fun _=>True) ?_ fun _ _=>Wq.some trivial;refine Wq.bind (P:=fun _=>True) ?_ fun r _=>by cases r<;>exact Wq.some trivial
 refine Wq.loop (fun i=>l.l.length-i.toNat) (fun i=>0<=i/\i<=l.l.length) ⟨by omega,by omega⟩ ?_;rintro i ⟨h0,h4⟩;unfold cO;refine Wq.cond (fun hb=>?_) (fun _=>Wq.some trivial);have hlt:i<l.l.length:=of_decide_eq_true hb;rw[jq h0 hlt];simp only[ad];refine MO.bind fun b _=>Wq.cond (fun _=>Wq.some trivial) fun _=>Wq.some ?_;show(0<=wr .i64 (i+1)/\wr .i64 (i+1)<=l.l.length)/\l.l.length-(wr .i64 (i+1)).toNat<l.l.length-i.toNat;rw[pX (by omega) (by omega)];omega
theorem Ju{a b:Sl dS}(hl:a.l.length<=1000):Tt (Ag a b):=by
 unfold Ag iq;refine Wq.bind (P:=fun _=>True) ?_ fun _ _=>Wq.some trivial;refine Wq.cond (fun _=>Wq.some trivial) fun hne=>?_;have he:a.l.length=b.l.length:=by simp at hne;omega
 refine Wq.bind (P:=fun _=>True) ?_ fun r _=>by cases r<;>exact Wq.some trivial
 refine Wq.loop (fun i=>a.l.length-i.toNat) (fun i=>0<=i/\i<=a.l.length) ⟨by omega,by omega⟩ ?_;rintro i ⟨h0,h4⟩;unfold ko;refine Wq.cond (fun hb=>?_) (fun _=>Wq.some trivial);have hlt:i<a.l.length:=of_decide_eq_true hb;rw[jq h0 hlt,jq h0 (by omega)];simp only[ad];refine Wq.cond (fun _=>Wq.some trivial) fun _=>Wq.some ?_;show(0<=wr .i64 (i+1)/\wr .i64 (i+1)<=a.l.length)/\a.l.length-(wr .i64 (i+1)).toNat<a.l.length-i.toNat;rw[pX (by omega) (by omega)];omega
def Ow(l:List bl):Prop:=l.length<=20/\∀m∈l,(cX.GK (bl.R m)).l.length<=16
theorem MM{a b:bl}(hl:(cX.GK (bl.R a)).l.length<=16):Tt (mF a b):=by
 have h:=@Ju (cX.GK (bl.R a)) (cX.GK (bl.R b)) (by omega);unfold mF AH CP
 (repeat'(first|assumption|exact Wq.some trivial|with_reducible refine Wq.cond (fun _=>?_) (fun _=>?_)|with_reducible refine Wq.bind (P:=fun _=>True) ?_ (fun _ _=>?_)))
theorem Wt{a b:aa}(h:Ow a.nq.l):Tt (qp a b):=by
 unfold qp;refine Wq.bind (P:=fun _=>True) (Wq.cond (fun _=>?_) fun _=>Wq.some trivial) fun _ _=>Wq.some trivial;refine Wq.bind (P:=fun _=>True) ?_ fun _ _=>Wq.some trivial;generalize ha:aa.nq a=a at h;generalize aa.nq b=b;unfold bm;refine Wq.cond (fun _=>Wq.some trivial) fun hne=>?_;have he:a.l.length=b.l.length:=by simp at hne;omega
 have h20:=h.1;refine Wq.bind (P:=fun _=>True) ?_ fun r _=>by cases r<;>exact Wq.some trivial
 refine Wq.loop (fun i=>a.l.length-i.toNat) (fun i=>0<=i/\i<=a.l.length) ⟨by omega,by omega⟩ ?_;rintro i ⟨h0,h4⟩;unfold bI;refine Wq.cond (fun hb=>?_) (fun _=>Wq.some trivial);have hlt:i<a.l.length:=of_decide_eq_true hb;rw[jq h0 hlt,jq h0 (by omega)];simp only[ad];refine(MM (h.2 _ (by rw[cU (by omega)];exact aX _))).bind fun _ _=>?_;refine Wq.cond (fun _=>Wq.some trivial) fun _=>Wq.some ?_;show(0<=wr .i64 (i+1)/\wr .i64 (i+1)<=a.l.length)/\a.l.length-(wr .i64 (i+1)).toNat<a.l.length-i.toNat;rw[pX (by omega) (by omega)];omega
theorem Oc{m:aa}(h:Ow m.nq.l):Wq (qX m) fun r=>Ow r.nq.l:=by
 have h0:Ow ([]:List bl):=⟨by simp,fun _ h=>(aW h).elim⟩
 unfold qX
 repeat'(first|exact Wq.some h0|exact Wq.some h|refine Wq.cond (fun _=>?_) (fun _=>?_))
theorem NB{m:aa}(h:Ow m.nq.l):Wq (oV m) fun b=>b=true->0<=m.Sw/\m.Sw<8:=by
 unfold oV;refine Wq.bind (P:=fun _=>True) (by(repeat'(first|assumption|exact Wq.some trivial|with_reducible refine Wq.cond (fun _=>?_) (fun _=>?_)|with_reducible refine Wq.bind (P:=fun _=>True) ?_ (fun _ _=>?_)))) fun i _=>?_;refine Wq.bind (P:=fun b=>b=false->0<=m.Sw/\m.Sw<8) ?_ fun b hb=>?_
 .refine Wq.cond (fun _=>Wq.some (by simp)) fun _=>?_;unfold f0;simp only[ad];refine Wq.cond (fun _=>Wq.some (by simp)) fun hb=>?_;have hin:0<=m.Sw/\m.Sw<8:=by simp at hb;omega
  exact(Oc h).bind fun r hr=>(Wt hr).bind fun _ _=>Wq.some fun _=>hin
 .refine Wq.cond (fun _=>Wq.some (by simp)) fun hbf=>?_;have hin:=hb hbf;refine Wq.mono (P:=fun _=>True) ?_ fun _ _ _=>hin;have:=@Yj;have:=@MN m.nq (by have:=h.1;omega)
  (repeat'(first|assumption|exact Wq.some trivial|with_reducible refine Wq.cond (fun _=>?_) (fun _=>?_)|with_reducible refine Wq.bind (P:=fun _=>True) ?_ (fun _ _=>?_)))<;>apply_assumption
end Go.Proofs.YtoekkpmeeclpeaaGreat.S
