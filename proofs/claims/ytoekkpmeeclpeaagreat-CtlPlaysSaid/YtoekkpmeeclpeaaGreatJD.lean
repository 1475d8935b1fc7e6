/- Runs that end, with what holds then; bits; the journal's steps. Conditions: as stated. -/
import Derived.Test.YtoekkpmeeclpeaaGreatFz
open BitVec renaming ofInt->aW
open Int renaming eq_ofNat_of_zero_le->dR
open List renaming length_append->au,length_singleton->aH,map_append->dm,map_cons->bN,map_nil->iv,mem_append->aK,mem_cons->aO,mem_cons_of_mem->bp,mem_cons_self->aL,mem_singleton->aB,nodup_append->cm,not_mem_nil->bF
open Option renaming bind_some->aa
open Go.Ev Go
namespace Go.Proofs.YtoekkpmeeclpeaaGreat.S
def Wq{α:Type}(x:Option α)(Q:α->Prop):Prop:=∃a,x=some a/\Q a
section
variable{α β:Type}{x y:Option α}{f:α->Option β}{P:α->Prop}{Q:β->Prop}
theorem Wq.some{a:α}(h:P a):Wq (some a) P:=⟨a,rfl,h⟩
theorem Wq.bind(h:Wq x P)(g:∀a,P a->Wq (f a) Q):Wq (x.bind f) Q:=by obtain⟨a,rfl,ha⟩:=h;exact g a ha
theorem Wq.mono{P':α->Prop}(h:Wq x P)(g:∀a,P a->P' a):Wq x P':=by obtain⟨a,rfl,ha⟩:=h;exact⟨a,rfl,g a ha⟩
theorem Wq.cond{b:Bool}(h1:b=true->Wq x P)(h2:b=false->Wq y P):Wq (bif b then x else y) P:=by cases b with|true=>exact h1 rfl|false=>exact h2 rfl
theorem Wq.loop{σ:Type}{f:σ->Option (σ⊕β)}{a:σ}(m:σ->Nat)(I:σ->Prop)(h0:I a)
  (h:∀a,I a->Wq (f a) fun r=>match r with|.inl b=>I b/\m b<m a|.inr c=>Q c):Wq (aJ f a) Q:=by
 suffices H:∀n a,m a<=n->I a->Wq (aJ f a) Q from H (m a) a (Nat.le_refl _) h0;intro n;induction n with
 |zero=>intro a hm ha;obtain⟨r,hr,hp⟩:=h a ha;cases r with|inl b=>exact absurd hp.2 (by omega)|inr c=>exact⟨c,bW hr,hp⟩
 |succ n ih=>intro a hm ha;obtain⟨r,hr,hp⟩:=h a ha;cases r with|inl b=>rw[dD hr];exact ih b (by have:=hp.2;omega) hp.1|inr c=>exact⟨c,bW hr,hp⟩
end
theorem fE{n:Int}(h0:-9223372036854775808<=n)(h1:n<=9223372036854775807):wr .i64 n=n:=by simp[wr,IntKind.wrap,IntKind.bits,IntKind.signed];omega
theorem p8{i:Int}{n:Nat}(h0:0<=i)(h1:i<n):bS i n=some i.toNat:=jy.2 ⟨by omega,by omega⟩
theorem GO{k:IntKind}{a b:Int}(h:0<=b):GP k a b=some (pS k a b):=if_neg (by omega)
theorem ED{k:IntKind}{a b:Int}(h:0<=b):FB k a b=some (pR k a b):=if_neg (by omega)
def M8(s:Int):Prop:=0<=s/\s<256
theorem Gw{n:Nat}(h:n<256):IntKind.wrap .i64 (n:Int)=n:=by simp[IntKind.wrap,IntKind.bits,IntKind.signed];omega
theorem M8.bv{s:Int}(h:M8 s):(aW 64 s).toNat<256:=by unfold M8 at h;simp;omega
theorem M8.or{a b:Int}(ha:M8 a)(hb:(aW 64 b).toNat<256):M8 (CL .i64 a b):=by
 rw[Fg];unfold Qs;have h:(aW 64 a|||aW 64 b).toNat<256:=by rw[BitVec.toNat_or];exact Nat.or_lt_two_pow (n:=8) ha.bv hb
 show M8 (IntKind.wrap .i64 ((aW 64 a|||aW 64 b).toNat:Int));rw[Gw h];exact⟨by omega,by omega⟩
theorem M8.acV{a b:Int}(ha:M8 a):M8 (fQ .i64 a b):=by
 rw[oV];unfold sF;have h:(aW 64 a&&&~~~aW 64 b).toNat<256:=by rw[BitVec.toNat_and];exact Nat.lt_of_le_of_lt Nat.and_le_left ha.bv
 show M8 (IntKind.wrap .i64 ((aW 64 a&&&~~~aW 64 b).toNat:Int));rw[Gw h];exact⟨by omega,by omega⟩
theorem afp{n:Nat}(h:n<=8):pS .i64 1 (n:Int)=(2^n:Nat):=by
 have:∀n:Fin 9,pS .i64 1 ((n.val:Nat):Int)=((2^n.val:Nat):Int):=by decide+kernel
 exact this ⟨n,by omega⟩
theorem M8.bit{a:Int}(ha:M8 a){s:Int}(h0:0<=s)(h1:s<8):M8 (CL .i64 a (pS .i64 1 s)):=by
 obtain⟨n,rfl⟩:=dR h0;rw[afp (by omega)];have:∀n:Fin 8,(2^n.val:Nat)<256:=by decide
 have h2:2^n<256:=this ⟨n,by omega⟩;exact ha.or (M8.bv ⟨Int.natCast_nonneg _,by omega⟩)
theorem M8.bH{a up:Int}(ha:M8 a){s:Int}(h0:0<=s)(h1:s<=8):M8 (CL .i64 a (fQ .i64 (wr .i64 (pS .i64 1 s-1)) up)):=by
 obtain⟨n,rfl⟩:=dR h0;rw[afp (by omega)];have h:∀n:Fin 9,1<=(2^n.val:Nat)/\(2^n.val:Nat)<=256:=by decide
 have h2:1<=2^n/\2^n<=256:=h ⟨n,by omega⟩;rw[fE (by omega) (by omega)];exact ha.or (M8.bv (M8.acV ⟨by omega,by omega⟩))
def vI(s:ap)(r:aI)(s':ap):Prop:=iK s r=some (s',0)
inductive agW:List aI->ap->Prop
 |nil:agW [] (0,0,false,0,0,0,false,false,0)
 |arD {l s r s'}:agW l s->vI s r s'->agW (l++[r]) s'
section
variable{s:ap}
theorem RI{u a b:Int}(h1:s.hZ=false)(h2:s.ik=0)(h3:u=wr .i64 (s.U+1))(h4:0<=a/\a<16)(h5:0<=b/\b<1125899906842625):
  vI s (1,u,a,b) (u,s.lh,true,a,b,0,false,false,0):=by
 subst h3;simp[vI,iK,aI.bP,aI.U,aI.A,aI.B,wN,i_,h1,h2,h4,h5]
theorem YY(h1:s.hZ=true)(h2:s.lf=false)(h3:s.bD=false)(h4:0<=s.fx/\s.fx<8):
  vI s (2,s.U,s.fx,0) (s.U,s.lh,true,s.dF,s.At,s.fx+1,s.lf,s.bD,s.ik):=by
 simp[vI,iK,aI.bP,aI.U,aI.A,aI.B,mI,i_,h1,h2,h3,h4];exact fE (n:=s.fx+1) (by omega) (by omega)
theorem Vz(h1:s.hZ=true)(h2:s.lf=false)(h3:s.bD=false)(h4:0<s.fx):
  vI s (3,s.U,0,0) (s.U,s.lh,true,s.dF,s.At,s.fx,true,s.bD,s.ik):=by
 simp[vI,iK,aI.bP,aI.U,aI.A,aI.B,mI,i_,h1,h2,h3,h4]
theorem Pq(h1:s.hZ=true)(h3:s.bD=false):
  vI s (4,s.U,0,0) (s.U,s.lh,true,s.dF,s.At,s.fx,s.lf,true,s.ik):=by
 simp[vI,iK,aI.bP,aI.U,aI.A,aI.B,mI,i_,h1,h3]
theorem Pp(h1:s.hZ=true)(h2:s.lf=true)(h3:s.bD=false):
  vI s (5,s.U,0,0) (s.U,s.dF,false,0,0,0,false,false,s.ik):=by
 simp[vI,iK,aI.bP,aI.U,aI.A,aI.B,mI,i_,qK,h1,h2,h3]
theorem Po{a:Int}(h1:s.hZ=true)(h3:s.bD=true)(h4:M8 a):
  vI s (6,s.U,a,0) (s.U,s.lh,false,0,0,0,false,false,a):=by
 unfold M8 at h4;simp[vI,iK,aI.bP,aI.U,aI.A,aI.B,mI,i_,qK,h1,h3,h4]
theorem Nd{a:Int}(h1:s.hZ=false)(h4:0<=a/\a<8)(h2:pT .i64 (pR .i64 s.ik a) 1=1):
  vI s (7,s.U,a,0) (s.U,s.lh,s.hZ,s.dF,s.At,s.fx,s.lf,s.bD,fQ .i64 s.ik (pS .i64 1 a)):=by
 simp[vI,iK,aI.bP,aI.U,aI.A,aI.B,pz,i_,h1,h4,ED h4.1,GO h4.1,h2]
end
end Go.Proofs.YtoekkpmeeclpeaaGreat.S
open Go.Ev Go
namespace Go.Proofs.YtoekkpmeeclpeaaGreat.S
section
variable{κ ν:Type}
theorem JD{v:ν}:∀{es:List (κ×ν×Nat)}{i:Nat},(qJ es i v).map (·.1)=es.map (·.1)
 |[],_=>rfl
 |_::_,0=>rfl
 |e::es,i+1=>congrArg (e.1::·) (JD (es:=es))
theorem LX{v:ν}:∀{es:List (κ×ν×Nat)}{i:Nat},(qJ es i v).map (·.2.2)=es.map (·.2.2)
 |[],_=>rfl
 |_::_,0=>rfl
 |e::es,i+1=>congrArg (e.2.2::·) (LX (es:=es))
theorem S7{v:ν}{es:List (κ×ν×Nat)}{i:Nat}:(qJ es i v).length=es.length:=by have:=congrArg List.length (JD (v:=v) (es:=es) (i:=i));simpa using this
theorem MV{v:ν}{x:κ×ν×Nat}:∀{es:List (κ×ν×Nat)}{i:Nat},x∈qJ es i v->x∈es\/∃e,es[i]?=some e/\x=(e.1,v,e.2.2)
 |[],_,h=>by simp[qJ]at h
 |e::es,0,h=>by
  simp only[qJ,aO]at h;rcases h with h|h
  .exact .inr ⟨e,rfl,h⟩
  .exact .inl (bp _ h)
 |e::es,i+1,h=>by
  simp only[qJ,aO]at h;rcases h with h|h
  .exact .inl (h▸aL)
  .rcases MV h with h|⟨y,h1,h2⟩
   .exact .inl (bp _ h)
   .exact .inr ⟨y,by simpa using h1,h2⟩
theorem DU[DecidableEq κ]{k:κ}:∀{es:List (κ×ν×Nat)}{i:Nat},d_ k es i=none->k∉es.map (·.1)
 |[],_,_=>by simp
 |e::es,i,h=>by
  simp only[d_]at h;split at h
  .simp at h
  .rename_i hk;have:=DU h;simp only[bN,aO,not_or];exact⟨hk,this⟩
end
structure Qy(m:Mp Int ac):Prop where
 UU:∀e∈m.es,e.2.2<m.c_
 nd:(m.es.map (·.2.2)).Nodup
 kd:(m.es.map (·.1)).Nodup
 key:∀e∈m.es,(0<=e.2.1.Sw/\e.2.1.Sw<8)/\(0<=e.2.1.Rd/\e.2.1.Rd<8)/\e.1=e.2.1.Rd*8+e.2.1.Sw
 len:m.es.length<=64
theorem Qy.none:Qy Mp.none:=⟨fun _ h=>(bF h).elim,.nil,.nil,fun _ h=>(bF h).elim,Nat.zero_le _⟩
section
variable{m:Mp Int ac}{k:Int}{v:ac}
theorem Qy.sub{m':Mp Int ac}(h:Qy m)(hs:m'.es.Sublist m.es)(hc:m'.c_=m.c_):Qy m':=⟨fun e he=>hc▸h.UU e (hs.subset he),h.nd.sublist (hs.map _),h.kd.sublist (hs.map _),fun e he=>h.key e (hs.subset he),Nat.le_trans hs.length_le h.len⟩
theorem T9:(Br m k).es.Sublist m.es/\(Br m k).c_=m.c_:=by
 unfold Br;split
 .exact ⟨List.eraseIdx_sublist _ _,rfl⟩
 .exact ⟨.refl _,rfl⟩
theorem PJ{up:Int}:(Dg up m).es.Sublist m.es/\(Dg up m).c_=m.c_:=⟨List.filter_sublist,rfl⟩
theorem aa6:(Cw m k v).es.length<=m.es.length+1:=by
 unfold Cw;split
 .rw [S7];omega
 .simp
theorem Qy.upd(h:Qy m)(h1:0<=v.Sw/\v.Sw<8)(h2:0<=v.Rd/\v.Rd<8)(h3:k=v.Rd*8+v.Sw)(hl:m.es.length<64):Qy (Cw m k v):=by
 have hlen:=aa6 (m:=m) (k:=k) (v:=v);unfold Cw at hlen|-;split
 .rename_i i e hf;obtain⟨hi,he,hk⟩:=kg hf;refine⟨fun x hx=>?_,?_,?_,fun x hx=>?_,by rw[S7];exact h.len⟩
  .rcases MV hx with hx|⟨y,hy,rfl⟩
   .exact h.UU x hx
   .exact h.UU y (List.mem_of_getElem? hy)
  .show ((qJ _ _ _).map _).Nodup;rw[LX];exact h.nd
  .show ((qJ _ _ _).map _).Nodup;rw[JD];exact h.kd
  .rcases MV hx with hx|⟨y,hy,rfl⟩
   .exact h.key x hx
   .rw [Nat.sub_zero]at he;rw[he]at hy;cases hy;exact⟨h1,h2,hk.trans h3⟩
 .rename_i hf;refine⟨fun x hx=>?_,?_,?_,fun x hx=>?_,?_⟩
  .rcases aK.1 hx with hx|hx
   .exact Nat.lt_succ_of_lt (h.UU x hx)
   .rw [aB.1 hx];exact Nat.lt_succ_self _
  .rw [dm];refine cm.2 ⟨h.nd,by simp,fun a ha b hb=>?_⟩;obtain⟨e,he,rfl⟩:=List.mem_map.1 ha;have:=h.UU e he;simp only[bN,iv,aB]at hb;omega
  .rw [dm];refine cm.2 ⟨h.kd,by simp,fun a ha b hb hab=>?_⟩;simp only[bN,iv,aB]at hb;subst hb;subst hab;exact DU hf ha
  .rcases aK.1 hx with hx|hx
   .exact h.key x hx
   .rw [aB.1 hx];exact⟨h1,h2,h3⟩
  .rw [au,aH];omega
theorem Qy.ok(h:Qy m):WF m:=by refine⟨by have:=h.len;omega,fun e he=>⟨h.UU e he,?_⟩,h.nd,h.kd⟩;have:=h.key e he;omega
theorem Qy.okB(h:Qy m):L8 m=true:=decide_eq_true h.ok
theorem Qy.aq4(h:Qy m):Fa (β:=Int×Int×Int×Int×Int×Int×Int×Sl aV) m=true:=by unfold Fa;rw[Bool.and_eq_true,List.all_eq_true];exact⟨decide_eq_true h.ok,fun e he=>decide_eq_true (h.key e he).1.1⟩
theorem abn(h:Qy m){up sk:Int}(hs:M8 sk):M8 (tU (β:=Int×Int×Int×Int×Int×Int×Int×Sl aV) up m sk):=by
 unfold tU
 have:∀(es:List (Int×ac×Nat)),(∀e∈es,0<=e.2.1.Sw/\e.2.1.Sw<8)->∀sk,M8 sk->M8 (es.foldl (fun s e=>bif GI up e.2.1.2.1 then s else CL .i64 s (pS .i64 1 e.2.1.2.1)) sk):=by
  intro es;induction es with
  |nil=>intro _ sk h;exact h
  |cons e es ih=>intro he sk hk;refine ih (fun x hx=>he x (bp _ hx)) _ ?_;show M8 (bif GI up e.2.1.2.1 then sk else CL .i64 sk (pS .i64 1 e.2.1.2.1));cases GI up e.2.1.2.1 with|true=>exact hk|false=>exact hk.bit (he e aL).1 (he e aL).2
 exact this m.es (fun e he=>(h.key e he).1) sk hs
theorem PI:(rn m).l.length=m.es.length:=by
 unfold rn Ev.J5;split
 .rename_i h;simp[h]
 .rw [Sl.lc,(xd _).length_eq,List.length_map]
end
end Go.Proofs.YtoekkpmeeclpeaaGreat.S
open Go.Ev Go
namespace Go.Proofs.YtoekkpmeeclpeaaGreat.S
structure Cx where
 c:aA
 gp:Sl (Sl (Sl Int))
 l:Sl aI
 bK:ap
 cI:Int
 eM:aC
 nv:Int
 eG:Mp Int ac
 gE:Int
 bH:Int
 skip:Int
 tI:Int
 vF:Arr 8 aZ
 Au:Arr 8 Int
 out:Sl ac
 gq:Sl dE
@[reducible] def Cx.tu (x:Cx):aj:=(x.c,x.gp,x.l,x.bK,x.cI,x.eM,x.nv,x.eG,x.gE,x.bH,x.skip,x.tI,x.vF,x.Au,x.out,x.gq)
theorem Cx.pr(x:Cx):aj.c x.tu=x.c/\aj.gp x.tu=x.gp/\aj.l x.tu=x.l/\aj.bK x.tu=x.bK/\aj.cX x.tu=x.cI/\aj.dj x.tu=x.eM/\aj.oE x.tu=x.nv/\aj.cM x.tu=x.eG/\aj.Eb x.tu=x.gE/\aj.AA x.tu=x.bH/\aj.jT x.tu=x.skip/\aj.xo x.tu=x.tI/\aj.oD x.tu=x.vF/\aj.qg x.tu=x.Au/\aj.oC x.tu=x.out/\aj.xp x.tu=x.gq:=⟨rfl,rfl,rfl,rfl,rfl,rfl,rfl,rfl,rfl,rfl,rfl,rfl,rfl,rfl,rfl,rfl⟩
theorem Cx.st(x:Cx):(∀v13 v14,aj.kF x.tu v13 v14=({x with Au:=v13,out:=v14}:Cx).tu)/\(∀v11 v14,aj.wW x.tu v11 v14=({x with tI:=v11,out:=v14}:Cx).tu)/\(∀v11,aj.vK x.tu v11=({x with tI:=v11}:Cx).tu)/\(∀v14,aj.wx x.tu v14=({x with out:=v14}:Cx).tu)/\(∀v7 v10,aj.gy x.tu v7 v10=({x with eG:=v7,skip:=v10}:Cx).tu)/\(∀v2 v3,aj.RZ x.tu v2 v3=({x with l:=v2,bK:=v3}:Cx).tu)/\(∀v4,aj.iG x.tu v4=({x with cI:=v4}:Cx).tu)/\(∀v6 v9 v10,aj.pd x.tu v6 v9 v10=({x with nv:=v6,bH:=v9,skip:=v10}:Cx).tu)/\(∀v6 v9,aj.pX x.tu v6 v9=({x with nv:=v6,bH:=v9}:Cx).tu)/\(∀v10,aj.CO x.tu v10=({x with skip:=v10}:Cx).tu)/\(∀v7,aj.nH x.tu v7=({x with eG:=v7}:Cx).tu)/\(∀v8,aj.yx x.tu v8=({x with gE:=v8}:Cx).tu)/\(∀v8 v14,aj.xU x.tu v8 v14=({x with gE:=v8,out:=v14}:Cx).tu)/\(∀v15,aj.A9 x.tu v15=({x with gq:=v15}:Cx).tu)/\(∀v4 v9 v11,aj.iM x.tu v4 v9 v11=({x with cI:=v4,bH:=v9,tI:=v11}:Cx).tu)/\(∀v9,aj.yy x.tu v9=({x with bH:=v9}:Cx).tu)/\(∀v4 v6,aj.pc x.tu v4 v6=({x with cI:=v4,nv:=v6}:Cx).tu)/\(∀v12,aj.AB x.tu v12=({x with vF:=v12}:Cx).tu)/\(∀v14 v15,aj.ox x.tu v14 v15=({x with out:=v14,gq:=v15}:Cx).tu)/\(∀v5 v10,aj.kE x.tu v5 v10=({x with eM:=v5,skip:=v10}:Cx).tu)/\(∀v5,aj.CP x.tu v5=({x with eM:=v5}:Cx).tu)/\(∀v4 v5,aj.ov x.tu v4 v5=({x with cI:=v4,eM:=v5}:Cx).tu):=⟨fun _ _=>rfl,fun _ _=>rfl,fun _=>rfl,fun _=>rfl,fun _ _=>rfl,fun _ _=>rfl,fun _=>rfl,fun _ _ _=>rfl,fun _ _=>rfl,fun _=>rfl,fun _=>rfl,fun _=>rfl,fun _ _=>rfl,fun _=>rfl,fun _ _ _=>rfl,fun _=>rfl,fun _ _=>rfl,fun _=>rfl,fun _ _=>rfl,fun _ _=>rfl,fun _=>rfl,fun _ _=>rfl⟩
abbrev Tu:Type:=aj
abbrev Tl:Type:=Tu
def Wc(p:Option Tu)(Q:Cx->Prop):Prop:=∃x:Cx,p=some x.tu/\Q x
def Wl(p:Option Tl)(Q:Cx->Prop):Prop:=∃x:Cx,p=some x.tu/\Q x
section
variable{β:Type}{P Q:Cx->Prop}{R:β->Prop}
theorem Wc.some{x:Cx}(h:Q x):Wc (some x.tu) Q:=⟨x,rfl,h⟩
theorem Wl.aeK{p:Option Tl}{f:Tl->Option Tu}(h:Wl p P)(g:∀x,P x->Wc (f x.tu) Q):Wc (p.bind f) Q:=by obtain⟨x,rfl,hx⟩:=h;exact g x hx
theorem Wc.eta{p:Option Tu}(h:Wc p P):Wc (p.bind fun q=>Option.some q) P:=by obtain⟨x,rfl,hx⟩:=h;exact⟨x,rfl,hx⟩
theorem Wc.mono{p:Option Tu}(h:Wc p P)(g:∀x,P x->Q x):Wc p Q:=by obtain⟨x,rfl,hx⟩:=h;exact⟨x,rfl,g x hx⟩
theorem Wc.cond{b:Bool}{x y:Option Tu}(h1:b=true->Wc x P)(h2:b=false->Wc y P):Wc (bif b then x else y) P:=by cases b with|true=>exact h1 rfl|false=>exact h2 rfl
theorem Wl.up{f:Int×Tl->Option ((Int×Tl)⊕Tl)}{x:Cx}(n:Nat)(hn:n<4611686018427387904)(J:Nat->Cx->Prop)(h0:J 0 x)
  (h:∀i x,i<=n->J i x->Wq (f (i,x.tu)) fun r=>match r with|.inl b=>∃y:Cx,b=(wr .i64 ((i:Int)+1),y.tu)/\i<n/\J (i+1) y|.inr c=>∃y:Cx,c=y.tu/\Q y):Wl (aJ f (0,x.tu)) Q:=by
 have H:Wq (aJ f (0,x.tu)) fun c=>∃y:Cx,c=y.tu/\Q y:=by
  refine Wq.loop (fun a=>n-a.1.toNat) (fun a=>∃(i:Nat)(y:Cx),a=((i:Int),y.tu)/\i<=n/\J i y) ⟨0,x,rfl,by omega,h0⟩ ?_;rintro _ ⟨i,y,rfl,hi,hj⟩;refine(h i y hi hj).mono ?_;rintro(b|c) hr
  .obtain ⟨z,rfl,h1,h2⟩:=hr;rw[fE (by omega) (by omega)];exact⟨⟨i+1,z,by simp,by omega,h2⟩,by simp only;omega⟩
  .exact hr
 obtain⟨c,hc,y,rfl,hy⟩:=H;exact⟨y,hc,hy⟩
theorem Wq.up{σ:Type}{f:Int×σ->Option ((Int×σ)⊕β)}{s:σ}(n:Nat)(hn:n<4611686018427387904)(J:Nat->σ->Prop)(h0:J 0 s)
  (h:∀i s,i<=n->J i s->Wq (f (i,s)) fun r=>match r with|.inl b=>∃y,b=(wr .i64 ((i:Int)+1),y)/\i<n/\J (i+1) y|.inr c=>R c):Wq (aJ f (0,s)) R:=by
 refine Wq.loop (fun a=>n-a.1.toNat) (fun a=>∃(i:Nat)(y:σ),a=((i:Int),y)/\i<=n/\J i y) ⟨0,s,rfl,by omega,h0⟩ ?_;rintro _ ⟨i,y,rfl,hi,hj⟩;refine(h i y hi hj).mono ?_;rintro(b|c) hr
 .obtain ⟨z,rfl,h1,h2⟩:=hr;rw[fE (by omega) (by omega)];exact⟨⟨i+1,z,by simp,by omega,h2⟩,by simp only;omega⟩
 .exact hr
end
theorem jw{α:Type}{l:List α}(h:l.length<=1000000):fA l=some l:=kz (by omega)
section
variable{x:Cx}{now up:Int}
theorem ade{k u a b:Int}{s':ap}(hl:x.l.l.length<500000)(hn:vI x.bK (k,u,a,b) s'):
  fB x.tu k u a b=some ({x with l:=.mk (x.l.l++[(k,u,a,b)]),bK:=s'}:Cx).tu:=by
 unfold fB
 try simp only[Cx.pr,Cx.st]
 rw[jw (by rw[au,aH];omega)];unfold vI at hn;rw[aa,hn];rfl
def Ask(l:List ac):Prop:=l.length<=64/\∀m∈l,(0<=m.Sw/\m.Sw<8)/\(0<=m.Rd/\m.Rd<8)
theorem af2{m:ac}(h1:0<=m.Sw/\m.Sw<8)(h2:0<=m.Rd/\m.Rd<8):Ao m.Rd m.Sw=some (m.Rd*8+m.Sw):=by
 unfold Ao
 try simp only[Cx.pr,Cx.st]
 rw[fE (n:=m.Rd*8) (by omega) (by omega),fE (by omega) (by omega)]
end
end Go.Proofs.YtoekkpmeeclpeaaGreat.S
open Go.Ev Go
namespace Go.Proofs.YtoekkpmeeclpeaaGreat.S
abbrev Tt{α:Type}(x:Option α):Prop:=Wq x fun _=>True
theorem ahg{a b c:Int}:Tt (gP a b c):=by unfold gP;(repeat'(first|assumption|exact Wq.some trivial|with_reducible refine Wq.cond (fun _=>?_) (fun _=>?_)|with_reducible refine Wq.bind (P:=fun _=>True) ?_ (fun _ _=>?_)))
theorem afg{f:Int}:Wq (Af f) fun r=>0<=r:=by unfold Af;refine Wq.bind (P:=fun _=>True) (by(repeat'(first|assumption|exact Wq.some trivial|with_reducible refine Wq.cond (fun _=>?_) (fun _=>?_)|with_reducible refine Wq.bind (P:=fun _=>True) ?_ (fun _ _=>?_)))) fun b _=>?_;exact Wq.cond (fun _=>Wq.some (by decide)) fun _=>Wq.cond (fun _=>Wq.some (by decide)) fun _=>Wq.some (by decide)
theorem adF{f:Int}:Tt (nk f):=by unfold nk;refine afg.bind fun r hr=>?_;rw[GO hr];exact Wq.some trivial
theorem abg{m:ck}:Tt (tZ m):=by
 unfold tZ;refine Wq.cond (fun _=>Wq.some trivial) fun _=>Wq.bind (P:=fun _=>True) ?_ fun r _=>?_
 .refine Wq.loop (fun i=>4-i.toNat) (fun i=>0<=i/\i<=4) ⟨by omega,by omega⟩ ?_;rintro i ⟨h0,h4⟩;unfold nW;refine Wq.cond (fun hb=>?_) (fun _=>Wq.some trivial);have hlt:i<4:=of_decide_eq_true hb;rw[p8 h0 (by omega)];simp only[aa];refine Wq.bind (P:=fun _=>True) ?_ fun b _=>?_
  .have:=@adF;(repeat'(first|assumption|exact Wq.some trivial|with_reducible refine Wq.cond (fun _=>?_) (fun _=>?_)|with_reducible refine Wq.bind (P:=fun _=>True) ?_ (fun _ _=>?_)))<;>apply_assumption
  .refine Wq.cond (fun _=>Wq.some trivial) fun _=>Wq.some ?_;show(0<=wr .i64 (i+1)/\wr .i64 (i+1)<=4)/\4-(wr .i64 (i+1)).toNat<4-i.toNat;rw[fE (by omega) (by omega)];omega
 .cases r<;>exact Wq.some trivial
theorem adG{a:cz}{p:Int}:Tt (uc a p):=by have:=@adF;unfold uc;(repeat'(first|assumption|exact Wq.some trivial|with_reducible refine Wq.cond (fun _=>?_) (fun _=>?_)|with_reducible refine Wq.bind (P:=fun _=>True) ?_ (fun _ _=>?_)))<;>apply_assumption
theorem afi{a:cz}{p:Int}:Tt (xj a p):=by have:=@adG;unfold xj;(repeat'(first|assumption|exact Wq.some trivial|with_reducible refine Wq.cond (fun _=>?_) (fun _=>?_)|with_reducible refine Wq.bind (P:=fun _=>True) ?_ (fun _ _=>?_)))<;>apply_assumption
theorem afh{l:Sl cz}{p:Int}:Tt (yw l p):=by
 unfold yw;refine Wq.bind (P:=fun _=>True) (Wq.cond (fun hb=>?_) fun _=>Wq.some trivial) fun _ _=>Wq.some trivial;have hl:(l.l.length:Int)<=16:=of_decide_eq_true hb;unfold dV ez;refine Wq.bind (P:=fun _=>True) ?_ fun _ _=>Wq.some trivial;refine Wq.bind (P:=fun _=>True) ?_ fun _ _=>Wq.some trivial;refine Wq.bind (P:=fun _=>True) ?_ fun r _=>by cases r<;>exact Wq.some trivial
 refine Wq.loop (fun i=>l.l.length-i.toNat) (fun i=>0<=i/\i<=l.l.length) ⟨by omega,by omega⟩ ?_;rintro i ⟨h0,h4⟩;unfold dp;refine Wq.cond (fun hb=>?_) (fun _=>Wq.some trivial);have hlt:i<l.l.length:=of_decide_eq_true hb;rw[p8 h0 hlt];simp only[aa];refine afi.bind fun b _=>Wq.cond (fun _=>Wq.some trivial) fun _=>Wq.some ?_;show(0<=wr .i64 (i+1)/\wr .i64 (i+1)<=l.l.length)/\l.l.length-(wr .i64 (i+1)).toNat<l.l.length-i.toNat;rw[fE (by omega) (by omega)];omega
theorem Xn{r:bR}{p:Int}:Tt (qn r p):=by have:=@abg;have:=@afh;unfold qn;(repeat'(first|assumption|exact Wq.some trivial|with_reducible refine Wq.cond (fun _=>?_) (fun _=>?_)|with_reducible refine Wq.bind (P:=fun _=>True) ?_ (fun _ _=>?_)))<;>apply_assumption
theorem Xo{m:aV}:Tt (uN m):=by have:=@Xn;have:=@ahg;unfold uN;(repeat'(first|assumption|exact Wq.some trivial|with_reducible refine Wq.cond (fun _=>?_) (fun _=>?_)|with_reducible refine Wq.bind (P:=fun _=>True) ?_ (fun _ _=>?_)))<;>apply_assumption
theorem UM{m:aV}:Tt (pH m):=by have:=@Xo;unfold pH;(repeat'(first|assumption|exact Wq.some trivial|with_reducible refine Wq.cond (fun _=>?_) (fun _=>?_)|with_reducible refine Wq.bind (P:=fun _=>True) ?_ (fun _ _=>?_)))<;>apply_assumption
theorem UL{l:Sl aV}(hl:l.l.length<=1000):Tt (bQ l):=by
 unfold bQ cO;refine Wq.bind (P:=fun _=>True) ?_ fun _ _=>Wq.some trivial;refine Wq.bind (P:=fun _=>True) ?_ fun r _=>by cases r<;>exact Wq.some trivial
 refine Wq.loop (fun i=>l.l.length-i.toNat) (fun i=>0<=i/\i<=l.l.length) ⟨by omega,by omega⟩ ?_;rintro i ⟨h0,h4⟩;unfold b_;refine Wq.cond (fun hb=>?_) (fun _=>Wq.some trivial);have hlt:i<l.l.length:=of_decide_eq_true hb;rw[p8 h0 hlt];simp only[aa];refine UM.bind fun b _=>Wq.cond (fun _=>Wq.some trivial) fun _=>Wq.some ?_;show(0<=wr .i64 (i+1)/\wr .i64 (i+1)<=l.l.length)/\l.l.length-(wr .i64 (i+1)).toNat<l.l.length-i.toNat;rw[fE (by omega) (by omega)];omega
theorem QS{a b:Sl cz}(hl:a.l.length<=1000):Tt (BE a b):=by
 unfold BE iH;refine Wq.bind (P:=fun _=>True) ?_ fun _ _=>Wq.some trivial;refine Wq.cond (fun _=>Wq.some trivial) fun hne=>?_;have he:a.l.length=b.l.length:=by simp at hne;omega
 refine Wq.bind (P:=fun _=>True) ?_ fun r _=>by cases r<;>exact Wq.some trivial
 refine Wq.loop (fun i=>a.l.length-i.toNat) (fun i=>0<=i/\i<=a.l.length) ⟨by omega,by omega⟩ ?_;rintro i ⟨h0,h4⟩;unfold fW;refine Wq.cond (fun hb=>?_) (fun _=>Wq.some trivial);have hlt:i<a.l.length:=of_decide_eq_true hb;rw[p8 h0 hlt,p8 h0 (by omega)];simp only[aa];refine Wq.cond (fun _=>Wq.some trivial) fun _=>Wq.some ?_;show(0<=wr .i64 (i+1)/\wr .i64 (i+1)<=a.l.length)/\a.l.length-(wr .i64 (i+1)).toNat<a.l.length-i.toNat;rw[fE (by omega) (by omega)];omega
def Few(l:List aV):Prop:=l.length<=20/\∀m∈l,(bR.Ct (aV.R m)).l.length<=16
theorem UK{a b:aV}(hl:(bR.Ct (aV.R a)).l.length<=16):Tt (lR a b):=by
 have h:=@QS (bR.Ct (aV.R a)) (bR.Ct (aV.R b)) (by omega);unfold lR DI FH
 (repeat'(first|assumption|exact Wq.some trivial|with_reducible refine Wq.cond (fun _=>?_) (fun _=>?_)|with_reducible refine Wq.bind (P:=fun _=>True) ?_ (fun _ _=>?_)))
theorem aff{a b:ac}(h:Few a.gW.l):Tt (nh a b):=by
 unfold nh;refine Wq.bind (P:=fun _=>True) (Wq.cond (fun _=>?_) fun _=>Wq.some trivial) fun _ _=>Wq.some trivial;refine Wq.bind (P:=fun _=>True) ?_ fun _ _=>Wq.some trivial;generalize ha:ac.gW a=a at h;generalize ac.gW b=b;unfold aT;refine Wq.cond (fun _=>Wq.some trivial) fun hne=>?_;have he:a.l.length=b.l.length:=by simp at hne;omega
 have h20:=h.1;refine Wq.bind (P:=fun _=>True) ?_ fun r _=>by cases r<;>exact Wq.some trivial
 refine Wq.loop (fun i=>a.l.length-i.toNat) (fun i=>0<=i/\i<=a.l.length) ⟨by omega,by omega⟩ ?_;rintro i ⟨h0,h4⟩;unfold bi;refine Wq.cond (fun hb=>?_) (fun _=>Wq.some trivial);have hlt:i<a.l.length:=of_decide_eq_true hb;rw[p8 h0 hlt,p8 h0 (by omega)];simp only[aa];refine(UK (h.2 _ (by rw[dx (by omega)];exact List.getElem_mem _))).bind fun _ _=>?_;refine Wq.cond (fun _=>Wq.some trivial) fun _=>Wq.some ?_;show(0<=wr .i64 (i+1)/\wr .i64 (i+1)<=a.l.length)/\a.l.length-(wr .i64 (i+1)).toNat<a.l.length-i.toNat;rw[fE (by omega) (by omega)];omega
theorem Ws{m:ac}(h:Few m.gW.l):Wq (qI m) fun r=>Few r.gW.l:=by
 have h0:Few ([]:List aV):=⟨by simp,fun _ h=>(bF h).elim⟩
 unfold qI
 repeat'(first|exact Wq.some h0|exact Wq.some h|refine Wq.cond (fun _=>?_) (fun _=>?_))
theorem L6{m:ac}(h:Few m.gW.l):Wq (ly m) fun b=>b=true->0<=m.Sw/\m.Sw<8:=by
 unfold ly;refine Wq.bind (P:=fun _=>True) (by(repeat'(first|assumption|exact Wq.some trivial|with_reducible refine Wq.cond (fun _=>?_) (fun _=>?_)|with_reducible refine Wq.bind (P:=fun _=>True) ?_ (fun _ _=>?_)))) fun i _=>?_;refine Wq.bind (P:=fun b=>b=false->0<=m.Sw/\m.Sw<8) ?_ fun b hb=>?_
 .refine Wq.cond (fun _=>Wq.some (by simp)) fun _=>?_;unfold gP;simp only[aa];refine Wq.cond (fun _=>Wq.some (by simp)) fun hb=>?_;have hin:0<=m.Sw/\m.Sw<8:=by simp at hb;omega
  exact(Ws h).bind fun r hr=>(aff hr).bind fun _ _=>Wq.some fun _=>hin
 .refine Wq.cond (fun _=>Wq.some (by simp)) fun hbf=>?_;have hin:=hb hbf;refine Wq.mono (P:=fun _=>True) ?_ fun _ _ _=>hin;have:=@ahg;have:=@UL m.gW (by have:=h.1;omega)
  (repeat'(first|assumption|exact Wq.some trivial|with_reducible refine Wq.cond (fun _=>?_) (fun _=>?_)|with_reducible refine Wq.bind (P:=fun _=>True) ?_ (fun _ _=>?_)))<;>apply_assumption
end Go.Proofs.YtoekkpmeeclpeaaGreat.S
