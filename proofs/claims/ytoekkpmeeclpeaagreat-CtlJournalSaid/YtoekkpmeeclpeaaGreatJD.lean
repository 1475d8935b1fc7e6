/- Runs that end, with what holds then; bits; the journal's steps. Conditions: as stated. -/
import Derived.Test.YtoekkpmeeclpeaaGreatS
import Derived.Test.YtoekkpmeeclpeaaGreatFz
open BitVec renaming ofInt->ba
open List renaming getElem_mem->aZ,length_append->aA,length_singleton->aR,map_append->fM,map_cons->bd,map_nil->gM,mem_append->aG,mem_cons->aI,mem_cons_of_mem->bc,mem_cons_self->aF,mem_of_getElem?->bl,mem_singleton->az,nodup_append->bD,not_mem_nil->aX,take_append_of_le_length->lA,take_of_length_le->fV
open Nat renaming le_refl->aq,le_trans->bh,zero_le->cp
open Option renaming bind_some->af,some->ah
open Option.some renaming inj->ac
open Go.Ev Go
namespace Go.Proofs.YtoekkpmeeclpeaaGreat.S
def Wq{α:Type}(x:Option α)(Q:α->Prop):Prop:=∃a,x=some a/\Q a
section
variable{α β:Type}{x y:Option α}{f:α->Option β}{P:α->Prop}{Q:β->Prop}
theorem Wq.some{a:α}(h:P a):Wq (some a) P:=⟨a,rfl,h⟩
theorem Wq.bind(h:Wq x P)(g:∀a,P a->Wq (f a) Q):Wq (x.bind f) Q:=by obtain⟨a,rfl,ha⟩:=h;exact g a ha
theorem Wq.mono{P':α->Prop}(h:Wq x P)(g:∀a,P a->P' a):Wq x P':=by obtain⟨a,rfl,ha⟩:=h;exact⟨a,rfl,g a ha⟩
theorem Wq.cond{b:Bool}(h1:b=true->Wq x P)(h2:b=false->Wq y P):Wq (bif b then x else y) P:=by cases b with|true=>exact h1 rfl|false=>exact h2 rfl
theorem Wq.A8(h:Wq x P):Wq (x.bind fun t=>ah t) P:=by obtain⟨a,rfl,ha⟩:=h;exact⟨a,rfl,ha⟩
theorem Wq.loop{σ:Type}{f:σ->Option (σ⊕β)}{a:σ}(m:σ->Nat)(I:σ->Prop)(h0:I a)
  (h:∀a,I a->Wq (f a) fun r=>match r with|.inl b=>I b/\m b<m a|.inr c=>Q c):Wq (aU f a) Q:=by
 suffices H:∀n a,m a<=n->I a->Wq (aU f a) Q from H (m a) a (aq _) h0;intro n;induction n with
 |zero=>intro a hm ha;obtain⟨r,hr,hp⟩:=h a ha;cases r with|inl b=>exact absurd hp.2 (by omega)|inr c=>exact⟨c,cQ hr,hp⟩
 |succ n ih=>intro a hm ha;obtain⟨r,hr,hp⟩:=h a ha;cases r with|inl b=>rw[fA hr];exact ih b (by have:=hp.2;omega) hp.1|inr c=>exact⟨c,cQ hr,hp⟩
end
theorem pZ{n:Int}(h0:-9223372036854775808<=n)(h1:n<=9223372036854775807):wr .i64 n=n:=by simp[wr,IntKind.wrap,IntKind.bits,IntKind.signed];omega
theorem jq{i:Int}{n:Nat}(h0:0<=i)(h1:i<n):cH i n=some i.toNat:=nq.2 ⟨by omega,by omega⟩
theorem Bl{k:IntKind}{a b:Int}(h:0<=b):zd k a b=some (te k a b):=if_neg (by omega)
theorem Bh{k:IntKind}{a b:Int}(h:0<=b):yt k a b=some (oT k a b):=if_neg (by omega)
def M8(s:Int):Prop:=0<=s/\s<256
theorem JE{n:Nat}(h:n<256):IntKind.wrap .i64 (n:Int)=n:=by simp[IntKind.wrap,IntKind.bits,IntKind.signed];omega
theorem M8.bv{s:Int}(h:M8 s):(ba 64 s).toNat<256:=by unfold M8 at h;simp;omega
theorem xW:A9=Fe:=by unfold A9;exact Yn.2
theorem kB:gC=mn:=by unfold gC;exact Ez.2
theorem M8.or{a b:Int}(ha:M8 a)(hb:(ba 64 b).toNat<256):M8 (A9 .i64 a b):=by
 rw[xW];unfold Fe;have h:(ba 64 a|||ba 64 b).toNat<256:=by rw[BitVec.toNat_or];exact Nat.or_lt_two_pow (n:=8) ha.bv hb
 show M8 (IntKind.wrap .i64 ((ba 64 a|||ba 64 b).toNat:Int));rw[JE h];exact⟨by omega,by omega⟩
theorem M8.ab9{a b:Int}(ha:M8 a):M8 (gC .i64 a b):=by
 rw[kB];unfold mn;have h:(ba 64 a&&&~~~ba 64 b).toNat<256:=by rw[BitVec.toNat_and];exact Nat.lt_of_le_of_lt Nat.and_le_left ha.bv
 show M8 (IntKind.wrap .i64 ((ba 64 a&&&~~~ba 64 b).toNat:Int));rw[JE h];exact⟨by omega,by omega⟩
theorem Z_{n:Nat}(h:n<=8):te .i64 1 (n:Int)=(2^n:Nat):=by
 have:∀n:Fin 9,te .i64 1 ((n.val:Nat):Int)=((2^n.val:Nat):Int):=by decide+kernel
 exact this ⟨n,by omega⟩
theorem M8.bit{a:Int}(ha:M8 a){s:Int}(h0:0<=s)(h1:s<8):M8 (A9 .i64 a (te .i64 1 s)):=by
 obtain⟨n,rfl⟩:=Int.eq_ofNat_of_zero_le h0;rw[Z_ (by omega)];have:∀n:Fin 8,(2^n.val:Nat)<256:=by decide
 have h2:2^n<256:=this ⟨n,by omega⟩;exact ha.or (M8.bv ⟨Int.natCast_nonneg _,by omega⟩)
theorem M8.bi{a up:Int}(ha:M8 a){s:Int}(h0:0<=s)(h1:s<=8):M8 (A9 .i64 a (gC .i64 (wr .i64 (te .i64 1 s-1)) up)):=by
 obtain⟨n,rfl⟩:=Int.eq_ofNat_of_zero_le h0;rw[Z_ (by omega)];have h:∀n:Fin 9,1<=(2^n.val:Nat)/\(2^n.val:Nat)<=256:=by decide
 have h2:1<=2^n/\2^n<=256:=h ⟨n,by omega⟩;rw[pZ (by omega) (by omega)];exact ha.or (M8.bv (M8.ab9 ⟨by omega,by omega⟩))
def pV(s:ad)(r:ai)(s':ad):Prop:=fP s r=some (s',0)
inductive x5:List ai->ad->Prop
 |nil:x5 [] (0,0,false,0,0,0,false,false,0)
 |Bg {l s r s'}:x5 l s->pV s r s'->x5 (l++[r]) s'
section
variable{s:ad}
theorem DJ{u a b:Int}(h1:s.jz=false)(h2:s.oD=0)(h3:u=wr .i64 (s.U+1))(h4:0<=a/\a<16)(h5:0<=b/\b<1125899906842625):
  pV s (1,u,a,b) (u,s.pU,true,a,b,0,false,false,0):=by
 subst h3;simp[pV,fP,ai.cY,ai.U,ai.A,ai.B,rJ,gH,h1,h2,h4,h5]
theorem IJ(h1:s.jz=true)(h2:s.oU=false)(h3:s.bH=false)(h4:0<=s.f9/\s.f9<8):
  pV s (2,s.U,s.f9,0) (s.U,s.pU,true,s.eQ,s.At,s.f9+1,s.oU,s.bH,s.oD):=by
 simp[pV,fP,ai.cY,ai.U,ai.A,ai.B,jW,gH,h1,h2,h3,h4];exact pZ (n:=s.f9+1) (by omega) (by omega)
theorem FJ(h1:s.jz=true)(h2:s.oU=false)(h3:s.bH=false)(h4:0<s.f9):
  pV s (3,s.U,0,0) (s.U,s.pU,true,s.eQ,s.At,s.f9,true,s.bH,s.oD):=by
 simp[pV,fP,ai.cY,ai.U,ai.A,ai.B,jW,gH,h1,h2,h3,h4]
theorem B8(h1:s.jz=true)(h3:s.bH=false):
  pV s (4,s.U,0,0) (s.U,s.pU,true,s.eQ,s.At,s.f9,s.oU,true,s.oD):=by
 simp[pV,fP,ai.cY,ai.U,ai.A,ai.B,jW,gH,h1,h3]
theorem B7(h1:s.jz=true)(h2:s.oU=true)(h3:s.bH=false):
  pV s (5,s.U,0,0) (s.U,s.eQ,false,0,0,0,false,false,s.oD):=by
 simp[pV,fP,ai.cY,ai.U,ai.A,ai.B,jW,gH,nm,h1,h2,h3]
theorem B6{a:Int}(h1:s.jz=true)(h3:s.bH=true)(h4:M8 a):
  pV s (6,s.U,a,0) (s.U,s.pU,false,0,0,0,false,false,a):=by
 unfold M8 at h4;simp[pV,fP,ai.cY,ai.U,ai.A,ai.B,jW,gH,nm,h1,h3,h4]
theorem Av{a:Int}(h1:s.jz=false)(h4:0<=a/\a<8)(h2:qO .i64 (oT .i64 s.oD a) 1=1):
  pV s (7,s.U,a,0) (s.U,s.pU,s.jz,s.eQ,s.At,s.f9,s.oU,s.bH,gC .i64 s.oD (te .i64 1 a)):=by
 simp[pV,fP,ai.cY,ai.U,ai.A,ai.B,me,gH,h1,h4,Bh h4.1,Bl h4.1,h2]
end
theorem x5.take{l:List ai}{s:ad}(h:x5 l s):∀i,i<=l.length->∃t,x5 (l.take i) t/\(∀hi:i<l.length,∃t',pV t l[i] t'/\x5 (l.take (i+1)) t'):=by
 induction h with
 |nil=>intro i hi;exact⟨_,by simpa using x5.nil,fun h=>absurd h (by simp)⟩
 |@Bg l s r s' h hn ih=>
  intro i hi;rw[aA,aR]at hi;by_cases e:i<=l.length
  .by_cases e2:i=l.length
   .subst e2;refine⟨s,by simpa using h,fun _=>⟨s',by simpa using hn,?_⟩⟩;rw[fV (by simp)];exact .Bg h hn
   .obtain ⟨t,h1,h2⟩:=ih i e;obtain⟨t',h3,h4⟩:=h2 (by omega);refine⟨t,by rw[lA e];exact h1,fun _=>⟨t',?_,?_⟩⟩
    .rw [List.getElem_append_left (by omega)];exact h3
    .rw [lA (by omega)];exact h4
  .have e3:i=l.length+1:=by omega
   subst e3;exact⟨s',by rw[fV (by simp)];exact .Bg h hn,fun hx=>absurd hx (by simp)⟩
theorem x5.det{l:List ai}{s t:ad}(h:x5 l s)(h':x5 l t):s=t:=by
 induction h generalizing t with
 |nil=>generalize hl:[]=m at h';cases h' with|nil=>rfl|Bg _ _=>simp at hl
 |@Bg l s r s' h hn ih=>generalize hl:l++[r]=m at h';cases h' with|nil=>simp at hl|@Bg l2 s2 r2 _ h2 hn2=>obtain⟨rfl,e⟩:=List.append_inj' hl rfl;cases e;rw[ih h2]at hn;unfold pV at hn hn2;rw[hn]at hn2;exact congrArg Prod.fst (ac hn2)
theorem Kp{l:Sl ai}{s:ad}(hl:l.l.length<1000000)(h:x5 l.l s):qr l=some (s,(l.l.length:Int),0):=by
 unfold qr
 have H:Wq (aU (qp l) (0,(0,0,false,0,0,0,false,false,0),(0,0,false,0,0,0,false,false,0))) fun r=>∃z,r=.inr (z,s):=by
  refine Wq.loop (fun a=>l.l.length-a.1.toNat) (fun a=>∃i:Nat,a.1=i/\i<=l.l.length/\x5 (l.l.take i) a.2.2) ⟨0,rfl,by omega,by simpa using x5.nil⟩ ?_;rintro⟨i,z,t⟩ ⟨n,rfl,hn,ht⟩;simp only at ht|-;unfold qp;refine Wq.cond (fun hb=>?_) (fun hb=>?_)
  .have hi:n<l.l.length:=by have:=of_decide_eq_true hb;omega
   obtain⟨t1,h1,h2⟩:=h.take n hn;obtain⟨t',h3,h4⟩:=h2 hi;rw[x5.det h1 ht]at h3;rw[bV hi];simp only[af,dc hi];unfold pV at h3;rw[h3];refine Wq.some ⟨⟨n+1,?_,by omega,h4⟩,?_⟩
   .exact pZ (by omega) (by omega)
   .show _-(wr .i64 ((n:Int)+1)).toNat<_;rw[pZ (by omega) (by omega)];omega
  .have hi:n=l.l.length:=by have:=of_decide_eq_false hb;omega
   rw[hi,fV (aq _)]at ht;rw[x5.det h ht];exact Wq.some ⟨z,rfl⟩
 obtain⟨r,hr,z,rfl⟩:=H;show Option.bind (aU _ _) _=_;rw[hr];rfl
end Go.Proofs.YtoekkpmeeclpeaaGreat.S
open Go.Ev Go
namespace Go.Proofs.YtoekkpmeeclpeaaGreat.S
section
variable{κ ν:Type}
theorem Dt{v:ν}:∀{es:List (κ×ν×Nat)}{i:Nat},(nk es i v).map (·.1)=es.map (·.1)
 |[],_=>rfl
 |_::_,0=>rfl
 |e::es,i+1=>congrArg (e.1::·) (Dt (es:=es))
theorem FE{v:ν}:∀{es:List (κ×ν×Nat)}{i:Nat},(nk es i v).map (·.2.2)=es.map (·.2.2)
 |[],_=>rfl
 |_::_,0=>rfl
 |e::es,i+1=>congrArg (e.2.2::·) (FE (es:=es))
theorem L7{v:ν}{es:List (κ×ν×Nat)}{i:Nat}:(nk es i v).length=es.length:=by have:=congrArg List.length (Dt (v:=v) (es:=es) (i:=i));simpa using this
theorem CS{v:ν}{x:κ×ν×Nat}:∀{es:List (κ×ν×Nat)}{i:Nat},x∈nk es i v->x∈es\/∃e,es[i]?=some e/\x=(e.1,v,e.2.2)
 |[],_,h=>by simp[nk]at h
 |e::es,0,h=>by
  simp only[nk,aI]at h;rcases h with h|h
  .exact .inr ⟨e,rfl,h⟩
  .exact .inl (bc _ h)
 |e::es,i+1,h=>by
  simp only[nk,aI]at h;rcases h with h|h
  .exact .inl (h▸aF)
  .rcases CS h with h|⟨y,h1,h2⟩
   .exact .inl (bc _ h)
   .exact .inr ⟨y,by simpa using h1,h2⟩
theorem BG[DecidableEq κ]{k:κ}:∀{es:List (κ×ν×Nat)}{i:Nat},dA k es i=none->k∉es.map (·.1)
 |[],_,_=>by simp
 |e::es,i,h=>by
  simp only[dA]at h;split at h
  .simp at h
  .rename_i hk;have:=BG h;simp only[bd,aI,not_or];exact⟨hk,this⟩
end
structure C4(m:Mp Int aa):Prop where
 NE:∀e∈m.es,e.2.2<m.ce
 nd:(m.es.map (·.2.2)).Nodup
 kd:(m.es.map (·.1)).Nodup
 key:∀e∈m.es,(0<=e.2.1.Sw/\e.2.1.Sw<8)/\(0<=e.2.1.Rd/\e.2.1.Rd<8)/\e.1=e.2.1.Rd*8+e.2.1.Sw
 len:m.es.length<=64
theorem C4.none:C4 Mp.none:=⟨fun _ h=>(aX h).elim,.nil,.nil,fun _ h=>(aX h).elim,cp _⟩
section
variable{m:Mp Int aa}{k:Int}{v:aa}
theorem C4.sub{m':Mp Int aa}(h:C4 m)(hs:m'.es.Sublist m.es)(hc:m'.ce=m.ce):C4 m':=⟨fun e he=>hc▸h.NE e (hs.subset he),h.nd.sublist (hs.map _),h.kd.sublist (hs.map _),fun e he=>h.key e (hs.subset he),bh hs.length_le h.len⟩
theorem U9:(tQ m k).es.Sublist m.es/\(tQ m k).ce=m.ce:=by
 unfold tQ;split
 .exact ⟨List.eraseIdx_sublist _ _,rfl⟩
 .exact ⟨.refl _,rfl⟩
theorem Rr{up:Int}:(oP up m).es.Sublist m.es/\(oP up m).ce=m.ce:=⟨List.filter_sublist,rfl⟩
theorem Td{x:Int×aa×Nat}(h:x∈(xA m k v).es):x∈m.es\/x.2.1=v:=by
 unfold xA at h;split at h
 .rcases CS h with h|⟨e,_,rfl⟩
  .exact .inl h
  .exact .inr rfl
 .rcases aG.1 h with h|h
  .exact .inl h
  .rw [az.1 h];exact .inr rfl
theorem LN:(xA m k v).es.length<=m.es.length+1:=by
 unfold xA;split
 .rw [L7];omega
 .simp
theorem C4.YN(h:C4 m)(h1:0<=v.Sw/\v.Sw<8)(h2:0<=v.Rd/\v.Rd<8)(h3:k=v.Rd*8+v.Sw)(hl:m.es.length<64):C4 (xA m k v):=by
 have hlen:=LN (m:=m) (k:=k) (v:=v);unfold xA at hlen|-;split
 .rename_i i e hf;obtain⟨hi,he,hk⟩:=lr hf;refine⟨fun x hx=>?_,?_,?_,fun x hx=>?_,by rw[L7];exact h.len⟩
  .rcases CS hx with hx|⟨y,hy,rfl⟩
   .exact h.NE x hx
   .exact h.NE y (bl hy)
  .show ((nk _ _ _).map _).Nodup;rw[FE];exact h.nd
  .show ((nk _ _ _).map _).Nodup;rw[Dt];exact h.kd
  .rcases CS hx with hx|⟨y,hy,rfl⟩
   .exact h.key x hx
   .rw [Nat.sub_zero]at he;rw[he]at hy;cases hy;exact⟨h1,h2,hk.trans h3⟩
 .rename_i hf;refine⟨fun x hx=>?_,?_,?_,fun x hx=>?_,?_⟩
  .rcases aG.1 hx with hx|hx
   .exact Nat.lt_succ_of_lt (h.NE x hx)
   .rw [az.1 hx];exact Nat.lt_succ_self _
  .rw [fM];refine bD.2 ⟨h.nd,by simp,fun a ha b hb=>?_⟩;obtain⟨e,he,rfl⟩:=List.mem_map.1 ha;have:=h.NE e he;simp only[bd,gM,az]at hb;omega
  .rw [fM];refine bD.2 ⟨h.kd,by simp,fun a ha b hb hab=>?_⟩;simp only[bd,gM,az]at hb;subst hb;subst hab;exact BG hf ha
  .rcases aG.1 hx with hx|hx
   .exact h.key x hx
   .rw [az.1 hx];exact⟨h1,h2,h3⟩
  .rw [aA,aR];omega
theorem C4.ok(h:C4 m):O8 m:=by refine⟨by have:=h.len;omega,fun e he=>⟨h.NE e he,?_⟩,h.nd,h.kd⟩;have:=h.key e he;omega
theorem C4.okB(h:C4 m):FL m=true:=decide_eq_true h.ok
theorem C4.afu(h:C4 m):zH (β:=Int×Int×Int×Int×Int×Int×Int×Sl aY) m=true:=by unfold zH;rw[Bool.and_eq_true,List.all_eq_true];exact⟨decide_eq_true h.ok,fun e he=>decide_eq_true (h.key e he).1.1⟩
theorem TB(h:C4 m){up sk:Int}(hs:M8 sk):M8 (iM (β:=Int×Int×Int×Int×Int×Int×Int×Sl aY) up m sk):=by
 unfold iM
 have:∀(es:List (Int×aa×Nat)),(∀e∈es,0<=e.2.1.Sw/\e.2.1.Sw<8)->∀sk,M8 sk->M8 (es.foldl (fun s e=>bif Nj up e.2.1.2.1 then s else A9 .i64 s (te .i64 1 e.2.1.2.1)) sk):=by
  intro es;induction es with
  |nil=>intro _ sk h;exact h
  |cons e es ih=>intro he sk hk;refine ih (fun x hx=>he x (bc _ hx)) _ ?_;show M8 (bif Nj up e.2.1.2.1 then sk else A9 .i64 sk (te .i64 1 e.2.1.2.1));cases Nj up e.2.1.2.1 with|true=>exact hk|false=>exact hk.bit (he e aF).1 (he e aF).2
 exact this m.es (fun e he=>(h.key e he).1) sk hs
theorem Rn{k:Int}:k∈(oO m).l<->k∈m.es.map (·.1):=by
 unfold oO Ev.DW;split
 .rename_i h;simp[h]
 .exact (rY _).mem_iff
theorem Ro:(oO m).l.length=m.es.length:=by
 unfold oO Ev.DW;split
 .rename_i h;simp[h]
 .rw [Sl.sB,(rY _).length_eq,List.length_map]
theorem UQ{z:aa}(h:k∈m.es.map (·.1)):∃e∈m.es,kF m z k=e.2.1:=by
 unfold kF;split
 .rename_i i e hf;obtain⟨_,he,_⟩:=lr hf;exact⟨e,bl he,rfl⟩
 .rename_i hf;exact absurd h (BG hf)
end
end Go.Proofs.YtoekkpmeeclpeaaGreat.S
open Go.Ev Go
namespace Go.Proofs.YtoekkpmeeclpeaaGreat.S
structure Cx where
 c:aj
 dF:Sl (Sl (Sl Int))
 l:Sl ai
 cF:ad
 cq:Int
 dx:am
 mK:Int
 di:Mp Int aa
 fy:Int
 bi:Int
 skip:Int
 dT:Int
 wV:Arr 8 ak
 eY:Arr 8 Int
 out:Sl aa
 bX:Sl aw
abbrev Tu:Type:=aj×Sl (Sl (Sl Int))×Sl ai×ad×Int×am×Int×Mp Int aa×Int×Int×Int×Int×Arr 8 ak×Arr 8 Int×Sl aa×Sl aw
abbrev Tl:Type:=aj×Sl (Sl (Sl Int))×ad×Int×am×Int×Int×Int×Int×Int×Arr 8 ak×Arr 8 Int×Sl ai×Mp Int aa×Sl aa×Sl aw
@[reducible] def Cx.tu (x:Cx):Tu:=(x.c,x.dF,x.l,x.cF,x.cq,x.dx,x.mK,x.di,x.fy,x.bi,x.skip,x.dT,x.wV,x.eY,x.out,x.bX)
@[reducible] def Cx.lp (x:Cx):Tl:=(x.c,x.dF,x.cF,x.cq,x.dx,x.mK,x.fy,x.bi,x.skip,x.dT,x.wV,x.eY,x.l,x.di,x.out,x.bX)
def Wc(p:Option Tu)(Q:Cx->Prop):Prop:=∃x:Cx,p=some x.tu/\Q x
def Wl(p:Option Tl)(Q:Cx->Prop):Prop:=∃x:Cx,p=some x.lp/\Q x
section
variable{β:Type}{P Q:Cx->Prop}{R:β->Prop}
theorem Wc.some{x:Cx}(h:Q x):Wc (some x.tu) Q:=⟨x,rfl,h⟩
theorem Wl.some{x:Cx}(h:Q x):Wl (some x.lp) Q:=⟨x,rfl,h⟩
theorem Wc.bind{p:Option Tu}{f:Tu->Option β}(h:Wc p P)(g:∀x,P x->Wq (f x.tu) R):Wq (p.bind f) R:=by obtain⟨x,rfl,hx⟩:=h;exact g x hx
theorem Wc.nw{p:Option Tu}{f:Tu->Option Tu}(h:Wc p P)(g:∀x,P x->Wc (f x.tu) Q):Wc (p.bind f) Q:=by obtain⟨x,rfl,hx⟩:=h;exact g x hx
theorem Wl.nw{p:Option Tl}{f:Tl->Option Tu}(h:Wl p P)(g:∀x,P x->Wc (f x.lp) Q):Wc (p.bind f) Q:=by obtain⟨x,rfl,hx⟩:=h;exact g x hx
theorem Wq.nw{α:Type}{P:α->Prop}{p:Option α}{f:α->Option Tu}(h:Wq p P)(g:∀x,P x->Wc (f x) Q):Wc (p.bind f) Q:=by obtain⟨x,rfl,hx⟩:=h;exact g x hx
theorem Wc.A8{p:Option Tu}(h:Wc p P):Wc (p.bind fun(a,b,c,d,e,f,g,h,i,j,k,l,m,n,o,q)=>ah (a,b,c,d,e,f,g,h,i,j,k,l,m,n,o,q)) P:=by obtain⟨x,rfl,hx⟩:=h;exact⟨x,rfl,hx⟩
theorem Wc.mono{p:Option Tu}(h:Wc p P)(g:∀x,P x->Q x):Wc p Q:=by obtain⟨x,rfl,hx⟩:=h;exact⟨x,rfl,g x hx⟩
theorem Wc.cond{b:Bool}{x y:Option Tu}(h1:b=true->Wc x P)(h2:b=false->Wc y P):Wc (bif b then x else y) P:=by cases b with|true=>exact h1 rfl|false=>exact h2 rfl
theorem Wl.up{f:Int×Tl->Option ((Int×Tl)⊕Tl)}{x:Cx}(n:Nat)(hn:n<4611686018427387904)(J:Nat->Cx->Prop)(h0:J 0 x)
  (h:∀i x,i<=n->J i x->Wq (f (i,x.lp)) fun r=>match r with|.inl b=>∃y:Cx,b=(wr .i64 ((i:Int)+1),y.lp)/\i<n/\J (i+1) y|.inr c=>∃y:Cx,c=y.lp/\Q y):Wl (aU f (0,x.lp)) Q:=by
 have H:Wq (aU f (0,x.lp)) fun c=>∃y:Cx,c=y.lp/\Q y:=by
  refine Wq.loop (fun a=>n-a.1.toNat) (fun a=>∃(i:Nat)(y:Cx),a=((i:Int),y.lp)/\i<=n/\J i y) ⟨0,x,rfl,by omega,h0⟩ ?_;rintro _ ⟨i,y,rfl,hi,hj⟩;refine(h i y hi hj).mono ?_;rintro(b|c) hr
  .obtain ⟨z,rfl,h1,h2⟩:=hr;rw[pZ (by omega) (by omega)];exact⟨⟨i+1,z,by simp,by omega,h2⟩,by simp only;omega⟩
  .exact hr
 obtain⟨c,hc,y,rfl,hy⟩:=H;exact⟨y,hc,hy⟩
theorem Wq.up{σ:Type}{f:Int×σ->Option ((Int×σ)⊕β)}{s:σ}(n:Nat)(hn:n<4611686018427387904)(J:Nat->σ->Prop)(h0:J 0 s)
  (h:∀i s,i<=n->J i s->Wq (f (i,s)) fun r=>match r with|.inl b=>∃y,b=(wr .i64 ((i:Int)+1),y)/\i<n/\J (i+1) y|.inr c=>R c):Wq (aU f (0,s)) R:=by
 refine Wq.loop (fun a=>n-a.1.toNat) (fun a=>∃(i:Nat)(y:σ),a=((i:Int),y)/\i<=n/\J i y) ⟨0,s,rfl,by omega,h0⟩ ?_;rintro _ ⟨i,y,rfl,hi,hj⟩;refine(h i y hi hj).mono ?_;rintro(b|c) hr
 .obtain ⟨z,rfl,h1,h2⟩:=hr;rw[pZ (by omega) (by omega)];exact⟨⟨i+1,z,by simp,by omega,h2⟩,by simp only;omega⟩
 .exact hr
end
theorem qz{α:Type}{l:List α}(h:l.length<=1000000):g_ l=some l:=nX (by omega)
theorem Ss{x:Cx}{now at':Int}:∃b,lw x.c x.dF x.l x.cF x.cq x.dx x.mK x.di x.fy x.bi x.skip x.dT x.wV x.eY x.out x.bX now at'=some (b,x.tu):=⟨_,rfl⟩
def kG(o:Sl aa):Prop:=∀m∈o.l,m.cY≠4
theorem kG.add{o:Sl aa}{m:aa}(h:kG o)(hm:m.cY≠4):kG (.mk (o.l++[m])):=fun x hx=>by
 rcases aG.1 hx with hx|hx
 .exact h x hx
 .rw [az.1 hx];exact hm
section
variable{x:Cx}{now up:Int}
theorem Vs(hs:0<=x.c.T.au/\x.c.T.au<=8)(ho:x.out.l.length<10000)(hN:kG x.out):
  Wc (mB x.c x.dF x.l x.cF x.cq x.dx x.mK x.di x.fy x.bi x.skip x.dT x.wV x.eY x.out x.bX now up) fun y=>∃o a,y={x with out:=o,eY:=a}/\o.l.length<=x.out.l.length+8/\kG o:=by
 unfold mB
 have H:Wl (aU (k_ x.c now up) (0,x.lp)) fun y=>∃o a,y={x with out:=o,eY:=a}/\o.l.length<=x.out.l.length+8/\kG o:=by
  refine Wl.up x.c.T.au.toNat (by omega) (fun i y=>∃o a,y={x with out:=o,eY:=a}/\o.l.length<=x.out.l.length+i/\kG o) ⟨x.out,x.eY,rfl,by omega,hN⟩ ?_;rintro i _ hi ⟨o,a,rfl,hl,hn⟩;dsimp only[k_];refine Wq.cond (fun hb=>?_) (fun hb=>?_)
  .have hlt:(i:Int)<x.c.T.au:=of_decide_eq_true hb;rw[Bh (by omega),jq (i:=(i:Int)) (n:=8) (by omega) (by omega)];simp only[af];refine Wq.bind (P:=fun r=>∃o' a',r=({x with out:=o',eY:=a'}:Cx).lp/\o'.l.length<=x.out.l.length+(i+1)/\kG o') ?_ ?_
   .refine Wq.bind (P:=fun r=>∃b,r=(b,({x with out:=o,eY:=a}:Cx).lp)) ?_ ?_
    .refine Wq.cond (fun _=>?_) (fun _=>Wq.some ⟨false,rfl⟩);obtain⟨b,hb⟩:=Ss (x:={x with out:=o,eY:=a}) (now:=now) (at':=gt a.1 (i:Int).toNat);dsimp only at hb;rw[hb];exact Wq.some ⟨b,rfl⟩
    .rintro _ ⟨b,rfl⟩;dsimp only;refine Wq.cond (fun _=>?_) (fun _=>Wq.some ⟨o,a,rfl,by omega,hn⟩);rw[qz (by rw[aA,aR];omega)];exact Wq.some ⟨_,_,rfl,by simp;omega,hn.add (show(1:Int)≠4 by decide)⟩
   .rintro _ ⟨o',a',rfl,h1,h2⟩;exact Wq.some ⟨{x with out:=o',eY:=a'},rfl,by omega,o',a',rfl,by omega,h2⟩
  .exact Wq.some ⟨_,rfl,o,a,rfl,by omega,hn⟩
 refine H.nw ?_;rintro _ ⟨o,a,rfl,h⟩;exact Wc.some (x:={x with out:=o,eY:=a}) ⟨o,a,rfl,h⟩
theorem Yi(hs:0<=x.c.T.au/\x.c.T.au<=8)(ho:x.out.l.length<10000)(hN:kG x.out):
  Wc (nU x.c x.dF x.l x.cF x.cq x.dx x.mK x.di x.fy x.bi x.skip x.dT x.wV x.eY x.out x.bX now up) fun y=>∃o a,y={x with out:=o,dT:=a}/\o.l.length<=x.out.l.length+8/\kG o:=by
 unfold nU;refine Wq.nw (P:=fun r=>∃b,r=(b,x.lp)) ?_ ?_
 .refine Wq.cond (fun _=>Wq.some ⟨true,rfl⟩) (fun _=>?_);obtain⟨b,hb⟩:=Ss (x:=x) (now:=now) (at':=x.dT);rw[hb];exact Wq.some ⟨!b,rfl⟩
 .rintro _ ⟨b,rfl⟩;dsimp only;refine Wc.cond (fun _=>Wc.some ⟨_,_,rfl,by omega,hN⟩) (fun _=>?_)
  have H:Wl (aU (mh up x.c) (0,({x with dT:=now}:Cx).lp)) fun y=>∃o,y={x with out:=o,dT:=now}/\o.l.length<=x.out.l.length+8/\kG o:=by
   refine Wl.up x.c.T.au.toNat (by omega) (fun i y=>∃o,y={x with out:=o,dT:=now}/\o.l.length<=x.out.l.length+i/\kG o) ⟨x.out,rfl,by omega,hN⟩ ?_;rintro i _ hi ⟨o,rfl,hl,hn⟩;dsimp only[mh];refine Wq.cond (fun hb=>?_) (fun hb=>Wq.some ⟨_,rfl,o,rfl,by omega,hn⟩);have hlt:(i:Int)<x.c.T.au:=of_decide_eq_true hb;rw[Bh (by omega)];simp only[af];refine Wq.bind (P:=fun r=>∃o',r=({x with out:=o',dT:=now}:Cx).lp/\o'.l.length<=x.out.l.length+(i+1)/\kG o') ?_ ?_
   .refine Wq.cond (fun _=>?_) (fun _=>Wq.some ⟨o,rfl,by omega,hn⟩);rw[qz (by rw[aA,aR];omega)];exact Wq.some ⟨_,rfl,by simp;omega,hn.add (show(5:Int)≠4 by decide)⟩
   .rintro _ ⟨o',rfl,h1,h2⟩;exact Wq.some ⟨{x with out:=o',dT:=now},rfl,by omega,o',rfl,by omega,h2⟩
  refine H.nw ?_;rintro _ ⟨o,rfl,h⟩;exact Wc.some (x:={x with out:=o,dT:=now}) ⟨o,now,rfl,h⟩
theorem wL{k u a b:Int}{s':ad}(hl:x.l.l.length<10000)(hn:pV x.cF (k,u,a,b) s'):
  eI x.c x.dF x.l x.cF x.cq x.dx x.mK x.di x.fy x.bi x.skip x.dT x.wV x.eY x.out x.bX k u a b=some ({x with l:=.mk (x.l.l++[(k,u,a,b)]),cF:=s'}:Cx).tu:=by
 unfold eI;rw[qz (by rw[aA,aR];omega)];unfold pV at hn;rw[af,hn];rfl
theorem G7{k sw a b:Int}(hl:x.bX.l.length<10000):
  ∃e:Sl aw,e.l.length=x.bX.l.length+1/\fQ x.c x.dF x.l x.cF x.cq x.dx x.mK x.di x.fy x.bi x.skip x.dT x.wV x.eY x.out x.bX now k sw a b=some ({x with bX:=e}:Cx).tu:=by
 unfold fQ;rw[qz (by rw[aA,aR];omega)];exact⟨.mk (x.bX.l++[_]),aA,rfl⟩
theorem JD(hw:C4 x.di)(ho:x.out.l.length<10000):
  Wc (jw x.c x.dF x.l x.cF x.cq x.dx x.mK x.di x.fy x.bi x.skip x.dT x.wV x.eY x.out x.bX now) fun y=>∃o,y={x with out:=o,fy:=now}/\o.l.length<=x.out.l.length+64/\∀m∈o.l,m∈x.out.l\/∃e∈x.di.es,e.2.1=m:=by
 unfold jw;refine Wc.cond (fun _=>?_) (fun h=>absurd hw.okB (by rw[h];decide));have hlen:=Ro (m:=x.di);have h64:=hw.len
 have H:Wl (aU (mV x.di) (0,({x with fy:=now}:Cx).lp)) fun y=>∃o,y={x with out:=o,fy:=now}/\o.l.length<=x.out.l.length+64/\∀m∈o.l,m∈x.out.l\/∃e∈x.di.es,e.2.1=m:=by
  refine Wl.up (oO x.di).l.length (by omega) (fun i y=>∃o,y={x with out:=o,fy:=now}/\o.l.length<=x.out.l.length+i/\∀m∈o.l,m∈x.out.l\/∃e∈x.di.es,e.2.1=m) ⟨x.out,rfl,by omega,fun _ h=>.inl h⟩ ?_;rintro i _ hi ⟨o,rfl,hl,hn⟩;dsimp only[mV];refine Wq.cond (fun hb=>?_) (fun hb=>Wq.some ⟨_,rfl,o,rfl,by omega,hn⟩);have hlt:i<(oO x.di).l.length:=by have:=of_decide_eq_true hb;omega
  rw[bV hlt];simp only[af];rw[qz (by rw[aA,aR];omega)];refine Wq.some ⟨{x with out:=.mk (o.l++[_]),fy:=now},rfl,hlt,_,rfl,by simp;omega,fun m hm=>?_⟩;rcases aG.1 hm with hm|hm
  .exact hn m hm
  .rw [az.1 hm];have:gt (oO x.di).l i∈(oO x.di).l:=by rw[dc hlt];exact aZ _
   obtain⟨e,he,h⟩:=UQ (z:=(0,0,0,0,0,0,0,0,0,Sl.nil)) (Rn.1 this);exact .inr ⟨e,he,h.symm⟩
 refine H.nw ?_;rintro _ ⟨o,rfl,h⟩;exact Wc.some (x:={x with out:=o,fy:=now}) ⟨o,rfl,h⟩
def Ask(l:List aa):Prop:=l.length<=64/\∀m∈l,(0<=m.Sw/\m.Sw<8)/\(0<=m.Rd/\m.Rd<8)
theorem XM{m:aa}(h1:0<=m.Sw/\m.Sw<8)(h2:0<=m.Rd/\m.Rd<8):sX m.Rd m.Sw=some (m.Rd*8+m.Sw):=by unfold sX;rw[pZ (n:=m.Rd*8) (by omega) (by omega),pZ (by omega) (by omega)]
theorem MZ{l:Sl aa}(hl:Ask l.l)(ho:x.out.l.length<10000):
  Wc (jY x.c x.dF x.l x.cF x.cq x.dx x.mK x.di x.fy x.bi x.skip x.dT x.wV x.eY x.out x.bX now l) fun y=>∃o w,y={x with di:=w,out:=o,fy:=now}/\C4 w/\(∀e∈w.es,e.2.1∈l.l)/\(l.l=[]->w.es=[])/\o.l.length<=x.out.l.length+64/\∀m∈o.l,m∈x.out.l\/∃e∈w.es,e.2.1=m:=by
 unfold jY;have h64:=hl.1
 have H:Wl (aU (qw l) (0,({x with di:=.none}:Cx).lp)) fun y=>∃w,y={x with di:=w}/\C4 w/\(∀e∈w.es,e.2.1∈l.l)/\(l.l=[]->w.es=[]):=by
  refine Wl.up l.l.length (by omega) (fun i y=>∃w,y={x with di:=w}/\C4 w/\(∀e∈w.es,e.2.1∈l.l)/\w.es.length<=i) ⟨.none,rfl,.none,fun _ h=>(aX h).elim,cp _⟩ ?_;rintro i _ hi ⟨w,rfl,hw,hm,hle⟩;dsimp only[qw];refine Wq.cond (fun hb=>?_) (fun hb=>Wq.some ⟨_,rfl,w,rfl,hw,hm,fun h=>?_⟩)
  .have hlt:i<l.l.length:=by have:=of_decide_eq_true hb;omega
   rw[bV hlt];simp only[af];have hmem:gt l.l i∈l.l:=by rw[dc hlt];exact aZ _
   obtain⟨h1,h2⟩:=hl.2 _ hmem;rw[XM h1 h2];refine Wq.some ⟨{x with di:=xA w ((gt l.l i).Rd*8+(gt l.l i).Sw) (gt l.l i)},rfl,hlt,_,rfl,hw.YN h1 h2 rfl (by omega),fun e he=>?_,bh LN (by omega)⟩;rcases Td he with he|he
   .exact hm e he
   .rw [he];exact hmem
  .rw [h]at hi;exact List.eq_nil_of_length_eq_zero (by simp at hi;omega)
 refine H.nw ?_;rintro _ ⟨w,rfl,hw,hm,hz⟩;refine Wc.A8 ((JD (x:={x with di:=w}) (now:=now) hw ho).mono ?_);rintro _ ⟨o,rfl,h1,h2⟩;exact⟨o,w,rfl,hw,hm,hz,h1,h2⟩
end
end Go.Proofs.YtoekkpmeeclpeaaGreat.S
open Go.Ev Go
namespace Go.Proofs.YtoekkpmeeclpeaaGreat.S
abbrev Tt{α:Type}(x:Option α):Prop:=Wq x fun _=>True
theorem PK{a:Int}:Tt (tg a):=by unfold tg;(repeat'(first|assumption|exact Wq.some trivial|with_reducible refine Wq.cond (fun _=>?_) (fun _=>?_)|with_reducible refine Wq.bind (P:=fun _=>True) ?_ (fun _ _=>?_)))
theorem Be:Tt nH:=by unfold nH;(repeat'(first|assumption|exact Wq.some trivial|with_reducible refine Wq.cond (fun _=>?_) (fun _=>?_)|with_reducible refine Wq.bind (P:=fun _=>True) ?_ (fun _ _=>?_)))
theorem zZ{a:bA}:Tt (jh a):=by have:=@PK;have:=Be;unfold jh;(repeat'(first|assumption|exact Wq.some trivial|with_reducible refine Wq.cond (fun _=>?_) (fun _=>?_)|with_reducible refine Wq.bind (P:=fun _=>True) ?_ (fun _ _=>?_)))<;>apply_assumption
theorem CN{a:bA}:Tt (pm a):=by have:=@zZ;have:=Be;unfold pm;(repeat'(first|assumption|exact Wq.some trivial|with_reducible refine Wq.cond (fun _=>?_) (fun _=>?_)|with_reducible refine Wq.bind (P:=fun _=>True) ?_ (fun _ _=>?_)))<;>apply_assumption
theorem LP{a:bA}{b:Int}:Tt (tF a b):=by have:=@zZ;have:=@PK;have:=@CN;unfold tF;(repeat'(first|assumption|exact Wq.some trivial|with_reducible refine Wq.cond (fun _=>?_) (fun _=>?_)|with_reducible refine Wq.bind (P:=fun _=>True) ?_ (fun _ _=>?_)))<;>apply_assumption
theorem VV{a:bA}:Tt (xl a):=by have:=@zZ;have:=@CN;unfold xl;(repeat'(first|assumption|exact Wq.some trivial|with_reducible refine Wq.cond (fun _=>?_) (fun _=>?_)|with_reducible refine Wq.bind (P:=fun _=>True) ?_ (fun _ _=>?_)))<;>apply_assumption
theorem W9{a:bA}:Tt (yc a):=by have:=@zZ;have:=@CN;have:=@VV;unfold yc;(repeat'(first|assumption|exact Wq.some trivial|with_reducible refine Wq.cond (fun _=>?_) (fun _=>?_)|with_reducible refine Wq.bind (P:=fun _=>True) ?_ (fun _ _=>?_)))<;>apply_assumption
theorem W8{a b:bA}:Tt (yb a b):=by have:=@zZ;unfold yb;(repeat'(first|assumption|exact Wq.some trivial|with_reducible refine Wq.cond (fun _=>?_) (fun _=>?_)|with_reducible refine Wq.bind (P:=fun _=>True) ?_ (fun _ _=>?_)))<;>apply_assumption
theorem LQ{a b:Int}:Tt (r_ a b):=by unfold r_;(repeat'(first|assumption|exact Wq.some trivial|with_reducible refine Wq.cond (fun _=>?_) (fun _=>?_)|with_reducible refine Wq.bind (P:=fun _=>True) ?_ (fun _ _=>?_)))
theorem YP{e:ak}{a b:Int}:Tt (z_ e a b):=by have:=@LQ;have:=@LP;have:=Be;unfold z_;(repeat'(first|assumption|exact Wq.some trivial|with_reducible refine Wq.cond (fun _=>?_) (fun _=>?_)|with_reducible refine Wq.bind (P:=fun _=>True) ?_ (fun _ _=>?_)))<;>apply_assumption
theorem Tv{a b c d:Int}:Tt (v7 a b c d):=by have:=@LQ;have:=@LP;unfold v7;(repeat'(first|assumption|exact Wq.some trivial|with_reducible refine Wq.cond (fun _=>?_) (fun _=>?_)|with_reducible refine Wq.bind (P:=fun _=>True) ?_ (fun _ _=>?_)))<;>apply_assumption
theorem YR{e:ak}{a b:Int}:Tt (Aa e a b):=by have:=@YP;have:=@VV;have:=@W9;unfold Aa;(repeat'(first|assumption|exact Wq.some trivial|with_reducible refine Wq.cond (fun _=>?_) (fun _=>?_)|with_reducible refine Wq.bind (P:=fun _=>True) ?_ (fun _ _=>?_)))<;>apply_assumption
theorem Tr{e:ak}{a b c d:Int}:Tt (vw e a b c d):=by have:=@YP;have:=@Tv;have:=@W8;have:=@CN;unfold vw;(repeat'(first|assumption|exact Wq.some trivial|with_reducible refine Wq.cond (fun _=>?_) (fun _=>?_)|with_reducible refine Wq.bind (P:=fun _=>True) ?_ (fun _ _=>?_)))<;>apply_assumption
theorem YQ{a b c:Int}:Tt (fY a b c):=by unfold fY;(repeat'(first|assumption|exact Wq.some trivial|with_reducible refine Wq.cond (fun _=>?_) (fun _=>?_)|with_reducible refine Wq.bind (P:=fun _=>True) ?_ (fun _ _=>?_)))
theorem W_{f:Int}:Wq (uF f) fun r=>0<=r:=by unfold uF;refine Wq.bind (P:=fun _=>True) (by(repeat'(first|assumption|exact Wq.some trivial|with_reducible refine Wq.cond (fun _=>?_) (fun _=>?_)|with_reducible refine Wq.bind (P:=fun _=>True) ?_ (fun _ _=>?_)))) fun b _=>?_;exact Wq.cond (fun _=>Wq.some (by decide)) fun _=>Wq.cond (fun _=>Wq.some (by decide)) fun _=>Wq.some (by decide)
theorem VU{f:Int}:Tt (lG f):=by unfold lG;refine W_.bind fun r hr=>?_;rw[Bl hr];exact Wq.some trivial
theorem Ts{m:cz}:Tt (pN m):=by
 unfold pN;refine Wq.cond (fun _=>Wq.some trivial) fun _=>Wq.bind (P:=fun _=>True) ?_ fun r _=>?_
 .refine Wq.loop (fun i=>4-i.toNat) (fun i=>0<=i/\i<=4) ⟨by omega,by omega⟩ ?_;rintro i ⟨h0,h4⟩;unfold qn;refine Wq.cond (fun hb=>?_) (fun _=>Wq.some trivial);have hlt:i<4:=of_decide_eq_true hb;rw[jq h0 (by omega)];simp only[af];refine Wq.bind (P:=fun _=>True) ?_ fun b _=>?_
  .have:=@VU;(repeat'(first|assumption|exact Wq.some trivial|with_reducible refine Wq.cond (fun _=>?_) (fun _=>?_)|with_reducible refine Wq.bind (P:=fun _=>True) ?_ (fun _ _=>?_)))<;>apply_assumption
  .refine Wq.cond (fun _=>Wq.some trivial) fun _=>Wq.some ?_;show(0<=wr .i64 (i+1)/\wr .i64 (i+1)<=4)/\4-(wr .i64 (i+1)).toNat<4-i.toNat;rw[pZ (by omega) (by omega)];omega
 .cases r<;>exact Wq.some trivial
theorem YS{a:cI}{p:Int}:Tt (yo a p):=by have:=@VU;unfold yo;(repeat'(first|assumption|exact Wq.some trivial|with_reducible refine Wq.cond (fun _=>?_) (fun _=>?_)|with_reducible refine Wq.bind (P:=fun _=>True) ?_ (fun _ _=>?_)))<;>apply_assumption
theorem Xb{a:cI}{p:Int}:Tt (uO a p):=by have:=@YS;unfold uO;(repeat'(first|assumption|exact Wq.some trivial|with_reducible refine Wq.cond (fun _=>?_) (fun _=>?_)|with_reducible refine Wq.bind (P:=fun _=>True) ?_ (fun _ _=>?_)))<;>apply_assumption
theorem Xa{l:Sl cI}{p:Int}:Tt (tA l p):=by
 unfold tA;refine Wq.bind (P:=fun _=>True) (Wq.cond (fun hb=>?_) fun _=>Wq.some trivial) fun _ _=>Wq.some trivial;have hl:(l.l.length:Int)<=16:=of_decide_eq_true hb;unfold cw cK;refine Wq.bind (P:=fun _=>True) ?_ fun _ _=>Wq.some trivial;refine Wq.bind (P:=fun _=>True) ?_ fun _ _=>Wq.some trivial;refine Wq.bind (P:=fun _=>True) ?_ fun r _=>by cases r<;>exact Wq.some trivial
 refine Wq.loop (fun i=>l.l.length-i.toNat) (fun i=>0<=i/\i<=l.l.length) ⟨by omega,by omega⟩ ?_;rintro i ⟨h0,h4⟩;unfold ei;refine Wq.cond (fun hb=>?_) (fun _=>Wq.some trivial);have hlt:i<l.l.length:=of_decide_eq_true hb;rw[jq h0 hlt];simp only[af];refine Xb.bind fun b _=>Wq.cond (fun _=>Wq.some trivial) fun _=>Wq.some ?_;show(0<=wr .i64 (i+1)/\wr .i64 (i+1)<=l.l.length)/\l.l.length-(wr .i64 (i+1)).toNat<l.l.length-i.toNat;rw[pZ (by omega) (by omega)];omega
theorem W7{r:bT}{p:Int}:Tt (qZ r p):=by have:=@Ts;have:=@Xa;unfold qZ;(repeat'(first|assumption|exact Wq.some trivial|with_reducible refine Wq.cond (fun _=>?_) (fun _=>?_)|with_reducible refine Wq.bind (P:=fun _=>True) ?_ (fun _ _=>?_)))<;>apply_assumption
theorem PL{m:aY}:Tt (nJ m):=by have:=@W7;have:=@YQ;unfold nJ;(repeat'(first|assumption|exact Wq.some trivial|with_reducible refine Wq.cond (fun _=>?_) (fun _=>?_)|with_reducible refine Wq.bind (P:=fun _=>True) ?_ (fun _ _=>?_)))<;>apply_assumption
theorem Nu{m:aY}:Tt (mw m):=by have:=@PL;unfold mw;(repeat'(first|assumption|exact Wq.some trivial|with_reducible refine Wq.cond (fun _=>?_) (fun _=>?_)|with_reducible refine Wq.bind (P:=fun _=>True) ?_ (fun _ _=>?_)))<;>apply_assumption
theorem Nt{l:Sl aY}(hl:l.l.length<=1000):Tt (bG l):=by
 unfold bG cD;refine Wq.bind (P:=fun _=>True) ?_ fun _ _=>Wq.some trivial;refine Wq.bind (P:=fun _=>True) ?_ fun r _=>by cases r<;>exact Wq.some trivial
 refine Wq.loop (fun i=>l.l.length-i.toNat) (fun i=>0<=i/\i<=l.l.length) ⟨by omega,by omega⟩ ?_;rintro i ⟨h0,h4⟩;unfold cR;refine Wq.cond (fun hb=>?_) (fun _=>Wq.some trivial);have hlt:i<l.l.length:=of_decide_eq_true hb;rw[jq h0 hlt];simp only[af];refine Nu.bind fun b _=>Wq.cond (fun _=>Wq.some trivial) fun _=>Wq.some ?_;show(0<=wr .i64 (i+1)/\wr .i64 (i+1)<=l.l.length)/\l.l.length-(wr .i64 (i+1)).toNat<l.l.length-i.toNat;rw[pZ (by omega) (by omega)];omega
theorem J_{a b:Sl cI}(hl:a.l.length<=1000):Tt (vU a b):=by
 unfold vU eT;refine Wq.bind (P:=fun _=>True) ?_ fun _ _=>Wq.some trivial;refine Wq.cond (fun _=>Wq.some trivial) fun hne=>?_;have he:a.l.length=b.l.length:=by simp at hne;omega
 refine Wq.bind (P:=fun _=>True) ?_ fun r _=>by cases r<;>exact Wq.some trivial
 refine Wq.loop (fun i=>a.l.length-i.toNat) (fun i=>0<=i/\i<=a.l.length) ⟨by omega,by omega⟩ ?_;rintro i ⟨h0,h4⟩;unfold gT;refine Wq.cond (fun hb=>?_) (fun _=>Wq.some trivial);have hlt:i<a.l.length:=of_decide_eq_true hb;rw[jq h0 hlt,jq h0 (by omega)];simp only[af];refine Wq.cond (fun _=>Wq.some trivial) fun _=>Wq.some ?_;show(0<=wr .i64 (i+1)/\wr .i64 (i+1)<=a.l.length)/\a.l.length-(wr .i64 (i+1)).toNat<a.l.length-i.toNat;rw[pZ (by omega) (by omega)];omega
def O9(l:List aY):Prop:=l.length<=20/\∀m∈l,(bT.CL (aY.R m)).l.length<=16
theorem Ns{a b:aY}(hl:(bT.CL (aY.R a)).l.length<=16):Tt (kU a b):=by
 have h:=@J_ (bT.CL (aY.R a)) (bT.CL (aY.R b)) (by omega);unfold kU vA Ag
 (repeat'(first|assumption|exact Wq.some trivial|with_reducible refine Wq.cond (fun _=>?_) (fun _=>?_)|with_reducible refine Wq.bind (P:=fun _=>True) ?_ (fun _ _=>?_)))
theorem W6{a b:aa}(h:O9 a.ny.l):Tt (ri a b):=by
 unfold ri;refine Wq.bind (P:=fun _=>True) (Wq.cond (fun _=>?_) fun _=>Wq.some trivial) fun _ _=>Wq.some trivial;refine Wq.bind (P:=fun _=>True) ?_ fun _ _=>Wq.some trivial;generalize ha:aa.ny a=a at h;generalize aa.ny b=b;unfold bm;refine Wq.cond (fun _=>Wq.some trivial) fun hne=>?_;have he:a.l.length=b.l.length:=by simp at hne;omega
 have h20:=h.1;refine Wq.bind (P:=fun _=>True) ?_ fun r _=>by cases r<;>exact Wq.some trivial
 refine Wq.loop (fun i=>a.l.length-i.toNat) (fun i=>0<=i/\i<=a.l.length) ⟨by omega,by omega⟩ ?_;rintro i ⟨h0,h4⟩;unfold bI;refine Wq.cond (fun hb=>?_) (fun _=>Wq.some trivial);have hlt:i<a.l.length:=of_decide_eq_true hb;rw[jq h0 hlt,jq h0 (by omega)];simp only[af];refine(Ns (h.2 _ (by rw[dc (by omega)];exact aZ _))).bind fun _ _=>?_;refine Wq.cond (fun _=>Wq.some trivial) fun _=>Wq.some ?_;show(0<=wr .i64 (i+1)/\wr .i64 (i+1)<=a.l.length)/\a.l.length-(wr .i64 (i+1)).toNat<a.l.length-i.toNat;rw[pZ (by omega) (by omega)];omega
theorem OY{m:aa}(h:O9 m.ny.l):Wq (rV m) fun r=>O9 r.ny.l:=by
 have h0:O9 ([]:List aY):=⟨by simp,fun _ h=>(aX h).elim⟩
 unfold rV
 repeat'(first|exact Wq.some h0|exact Wq.some h|refine Wq.cond (fun _=>?_) (fun _=>?_))
theorem Oe{m:aa}(h:O9 m.ny.l):Wq (pK m) fun b=>b=true->0<=m.Sw/\m.Sw<8:=by
 unfold pK;refine Wq.bind (P:=fun _=>True) (by(repeat'(first|assumption|exact Wq.some trivial|with_reducible refine Wq.cond (fun _=>?_) (fun _=>?_)|with_reducible refine Wq.bind (P:=fun _=>True) ?_ (fun _ _=>?_)))) fun i _=>?_;refine Wq.bind (P:=fun b=>b=false->0<=m.Sw/\m.Sw<8) ?_ fun b hb=>?_
 .refine Wq.cond (fun _=>Wq.some (by simp)) fun _=>?_;unfold fY;simp only[af];refine Wq.cond (fun _=>Wq.some (by simp)) fun hb=>?_;have hin:0<=m.Sw/\m.Sw<8:=by simp at hb;omega
  exact(OY h).bind fun r hr=>(W6 hr).bind fun _ _=>Wq.some fun _=>hin
 .refine Wq.cond (fun _=>Wq.some (by simp)) fun hbf=>?_;have hin:=hb hbf;refine Wq.mono (P:=fun _=>True) ?_ fun _ _ _=>hin;have:=@YQ;have:=@Nt m.ny (by have:=h.1;omega)
  (repeat'(first|assumption|exact Wq.some trivial|with_reducible refine Wq.cond (fun _=>?_) (fun _=>?_)|with_reducible refine Wq.bind (P:=fun _=>True) ?_ (fun _ _=>?_)))<;>apply_assumption
end Go.Proofs.YtoekkpmeeclpeaaGreat.S
