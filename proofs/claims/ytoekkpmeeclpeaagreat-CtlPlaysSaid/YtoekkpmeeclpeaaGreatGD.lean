/- The controller: plans, aims, who is concerned, parts. Conditions: as stated. -/
import Derived.Test.YtoekkpmeeclpeaaGreatJD
import Derived.Test.YtoekkpmeeclpeaaGreatLD
open BitVec renaming ofInt->aW
open Int renaming toNat_natCast->dA
open List renaming getElem_mem->cW,mem_append->aK,mem_cons->aO,mem_cons_of_mem->bp,mem_cons_self->aL,mem_filter->dy,mem_iff_getElem->ia,mem_map->aR,mem_of_getElem?->bA,mem_singleton->aB,not_mem_nil->bF,pairwise_cons->dW
open List.Pairwise renaming imp_of_mem->j6
open Option renaming bind_some->aa,some->ai
open Option.some renaming injEq->eZ
open Go.Ev Go
namespace Go.Proofs.YtoekkpmeeclpeaaGreat.S
structure agO(n:Int)(p:aC):Prop where
 rl:0<p.aF.l.length/\p.aF.l.length<=8
 sw:∀r∈p.aF.l,r.jm.l.length<=8/\∀s∈r.jm.l,0<=s/\s<n
 mv:p.sH.l.length<=1000/\∀m∈p.sH.l,0<=m.2.1/\m.2.1<=255
theorem aco{t:am}{old now:Sl (Sl Int)}(hN:jS t now){a b c:Int}{p:aC}(h:QB t old now a b c p 0):agO t.ao p:=by
 by_cases hm:tF t old now=[]
 .exact absurd (h.none hm).2 (by decide)
 obtain⟨s,R,hs,hR,h0,h⟩:=h.Yt hm;rcases h with⟨_,_,h⟩|⟨_,rfl,_⟩
 .exact absurd h (by decide)
 have hV:=hN.1.EA.sw;have hsw:∀r∈R.l,∀x∈r.jm.l,0<=x/\x<t.ao:=fun r hr x hx=>by obtain⟨i,hi,rfl⟩:=ia.1 hr;have:=hR.sws i hi;rw[dx hi]at this;obtain⟨m,hm,_,rfl⟩:=(this.yq x).1 hx;obtain⟨h,s,_,hs,_,rfl⟩:=Cd.1 (JU.1 hm);have hl:=hN.1.len;exact⟨by show(0:Int)<=(s:Int);omega,by show(s:Int)<_;omega⟩
 refine⟨⟨h0,hR.len hN⟩,fun r hr=>⟨?_,hsw r hr⟩,?_⟩
 .obtain ⟨i,hi,rfl⟩:=ia.1 hr;have:=hR.sws i hi;rw[dx hi]at this;exact I4 this.N2 fun x hx=>by have:=hsw _ (cW hi) x hx;omega
 .show s.l.length<=1000/\∀m∈s.l,_;rw[hs];exact⟨by have:=Nh (old:=old) hN;omega,acf hN⟩
end Go.Proofs.YtoekkpmeeclpeaaGreat.S
open Go.Ev Go
namespace Go.Proofs.YtoekkpmeeclpeaaGreat.S
structure Rx where
 C:aA
 lg:Sl (Sl (Sl Int))
 L:Sl ba
 At:ay
 gR:Int
 ja:aQ
 I8:Int
 fN:Sl ac
 Gz:Int
 nw:Bool
 IJ:Int
 jB:Sl Int
 zD:Bool
 xL:Int
 GG:Sl bE
 DA:Sl Bool
 xl:Sl Int
 ik:Sl ac
 l5:Sl dE
@[reducible] def Rx.tu (x:Rx):ah:=(x.C,x.lg,x.L,x.At,x.gR,x.ja,x.I8,x.fN,x.Gz,x.nw,x.IJ,x.jB,x.zD,x.xL,x.GG,x.DA,x.xl,x.ik,x.l5)
theorem Rx.pr(x:Rx):ah.C x.tu=x.C/\ah.lg x.tu=x.lg/\ah.L x.tu=x.L/\ah.At x.tu=x.At/\ah.gR x.tu=x.gR/\ah.ja x.tu=x.ja/\ah.I8 x.tu=x.I8/\ah.fN x.tu=x.fN/\ah.Gz x.tu=x.Gz/\ah.nw x.tu=x.nw/\ah.IJ x.tu=x.IJ/\ah.jB x.tu=x.jB/\ah.zD x.tu=x.zD/\ah.xL x.tu=x.xL/\ah.GG x.tu=x.GG/\ah.DA x.tu=x.DA/\ah.xl x.tu=x.xl/\ah.ik x.tu=x.ik/\ah.l5 x.tu=x.l5:=⟨rfl,rfl,rfl,rfl,rfl,rfl,rfl,rfl,rfl,rfl,rfl,rfl,rfl,rfl,rfl,rfl,rfl,rfl,rfl⟩
theorem Rx.st(x:Rx):(∀v14 v15 v16,ah.CD x.tu v14 v15 v16=({x with GG:=v14,DA:=v15,xl:=v16}:Rx).tu)/\(∀v2 v3,ah.aeW x.tu v2 v3=({x with L:=v2,At:=v3}:Rx).tu)/\(∀v5 v11,ah.KQ x.tu v5 v11=({x with ja:=v5,jB:=v11}:Rx).tu)/\(∀v18,ah.Us x.tu v18=({x with l5:=v18}:Rx).tu)/\(∀v4,ah.Fh x.tu v4=({x with gR:=v4}:Rx).tu)/\(∀v7 v8 v17,ah.Dx x.tu v7 v8 v17=({x with fN:=v7,Gz:=v8,ik:=v17}:Rx).tu)/\(∀v15 v16 v17,ah.CE x.tu v15 v16 v17=({x with DA:=v15,xl:=v16,ik:=v17}:Rx).tu)/\(∀v12 v13 v17,ah.GD x.tu v12 v13 v17=({x with zD:=v12,xL:=v13,ik:=v17}:Rx).tu)/\(∀v12 v13,ah.Er x.tu v12 v13=({x with zD:=v12,xL:=v13}:Rx).tu)/\(∀v17,ah.anW x.tu v17=({x with ik:=v17}:Rx).tu)/\(∀v11,ah.aaK x.tu v11=({x with jB:=v11}:Rx).tu)/\(∀v7,ah.KN x.tu v7=({x with fN:=v7}:Rx).tu)/\(∀v9 v10,ah.Ic x.tu v9 v10=({x with nw:=v9,IJ:=v10}:Rx).tu)/\(∀v8 v17,ah.Mt x.tu v8 v17=({x with Gz:=v8,ik:=v17}:Rx).tu)/\(∀v6 v9,ah.KV x.tu v6 v9=({x with I8:=v6,nw:=v9}:Rx).tu)/\(∀v6 v9 v11,ah.IL x.tu v6 v9 v11=({x with I8:=v6,nw:=v9,jB:=v11}:Rx).tu)/\(∀v4 v9 v12,ah.zB x.tu v4 v9 v12=({x with gR:=v4,nw:=v9,zD:=v12}:Rx).tu)/\(∀v4 v6,ah.KR x.tu v4 v6=({x with gR:=v4,I8:=v6}:Rx).tu)/\(∀v14,ah.anY x.tu v14=({x with GG:=v14}:Rx).tu)/\(∀v4 v5,ah.Dz x.tu v4 v5=({x with gR:=v4,ja:=v5}:Rx).tu)/\(∀v17 v18,ah.Ie x.tu v17 v18=({x with ik:=v17,l5:=v18}:Rx).tu):=⟨fun _ _ _=>rfl,fun _ _=>rfl,fun _ _=>rfl,fun _=>rfl,fun _=>rfl,fun _ _ _=>rfl,fun _ _ _=>rfl,fun _ _ _=>rfl,fun _ _=>rfl,fun _=>rfl,fun _=>rfl,fun _=>rfl,fun _ _=>rfl,fun _ _=>rfl,fun _ _=>rfl,fun _ _ _=>rfl,fun _ _ _=>rfl,fun _ _=>rfl,fun _=>rfl,fun _ _=>rfl,fun _ _=>rfl⟩
abbrev Ru:Type:=ah
def W2{α β:Type}(p:Option α)(q:Option β)(Q:α->β->Prop):Prop:=∃a b,p=some a/\q=some b/\Q a b
section
variable{α β γ δ:Type}{p p':Option α}{q q':Option β}{P:α->β->Prop}{Q:γ->δ->Prop}{f:α->Option γ}{g:β->Option δ}
theorem W2.some{a:α}{b:β}(h:P a b):W2 (some a) (some b) P:=⟨a,b,rfl,rfl,h⟩
theorem W2.bind(h:W2 p q P)(k:∀a b,P a b->W2 (f a) (g b) Q):W2 (p.bind f) (q.bind g) Q:=by obtain⟨a,b,rfl,rfl,h⟩:=h;exact k a b h
theorem W2.mono{P':α->β->Prop}(h:W2 p q P)(k:∀a b,P a b->P' a b):W2 p q P':=by obtain⟨a,b,rfl,rfl,h⟩:=h;exact⟨a,b,rfl,rfl,k a b h⟩
theorem W2.cond{b c:Bool}(e:b=c)(h1:b=true->W2 p q P)(h2:b=false->W2 p' q' P):W2 (bif b then p else p') (bif c then q else q') P:=by subst e;cases b with|true=>exact h1 rfl|false=>exact h2 rfl
theorem W2.aeJ{R:β->Prop}{r:Option γ}(h:Wq q R)(k:∀b,R b->W2 r (g b) Q):W2 r (q.bind g) Q:=by obtain⟨b,rfl,h⟩:=h;exact k b h
theorem W2.xf(h:W2 p q P):W2 (p.bind fun t=>ai t) q P:=by obtain⟨a,b,rfl,rfl,h⟩:=h;exact⟨a,b,rfl,rfl,h⟩
theorem W2.yh(h:W2 p q P):W2 p (q.bind fun t=>ai t) P:=by obtain⟨a,b,rfl,rfl,h⟩:=h;exact⟨a,b,rfl,rfl,h⟩
theorem W2.up{σ τ ρ ρ':Type}{f:Int×σ->Option ((Int×σ)⊕ρ)}{g:Int×τ->Option ((Int×τ)⊕ρ')}{s:σ}{t:τ}{R:ρ->ρ'->Prop}(n:Nat)(hn:n<4611686018427387904)(J:Nat->σ->τ->Prop)(h0:J 0 s t)
  (h:∀i s t,i<=n->J i s t->W2 (f (i,s)) (g (i,t)) fun a b=>(∃y z,a=.inl (wr .i64 ((i:Int)+1),y)/\b=.inl (wr .i64 ((i:Int)+1),z)/\i<n/\J (i+1) y z)\/∃y z,a=.inr y/\b=.inr z/\R y z):W2 (aJ f (0,s)) (aJ g (0,t)) R:=by
 suffices H:∀m i s t,n-i<=m->i<=n->J i s t->W2 (aJ f ((i:Int),s)) (aJ g ((i:Int),t)) R from H n 0 s t (by omega) (by omega) h0;intro m;induction m with
 |zero=>
  intro i s t hm hi hj;obtain⟨a,b,ha,hb,h⟩:=h i s t hi hj;rcases h with⟨y,z,rfl,rfl,h1,h2⟩|⟨y,z,rfl,rfl,h⟩
  .omega
  .exact ⟨y,z,bW ha,bW hb,h⟩
 |succ m ih=>
  intro i s t hm hi hj;obtain⟨a,b,ha,hb,h⟩:=h i s t hi hj;rcases h with⟨y,z,rfl,rfl,h1,h2⟩|⟨y,z,rfl,rfl,h⟩
  .rw [fE (by omega) (by omega)]at ha hb;rw[dD ha,dD hb];exact ih (i+1) y z (by omega) (by omega) h2
  .exact ⟨y,z,bW ha,bW hb,h⟩
end
end Go.Proofs.YtoekkpmeeclpeaaGreat.S
open Go.Ev Go
namespace Go.Proofs.YtoekkpmeeclpeaaGreat.S
def bt(a:Int)(n:Nat):Bool:=(aW 64 a).getLsbD n
section
variable{a b:Int}{n:Nat}
theorem agA:bt (pT .i64 a b) n=(bt a n&&bt b n):=by rw[p_];unfold bt qN;show(aW 64 (IntKind.wrap .i64 ((aW 64 a&&&aW 64 b).toNat:Int))).getLsbD n=_;rw[yX,BitVec.getLsbD_and]
theorem Qo:bt (CL .i64 a b) n=(bt a n||bt b n):=by rw[Fg];unfold bt Qs;show(aW 64 (IntKind.wrap .i64 ((aW 64 a|||aW 64 b).toNat:Int))).getLsbD n=_;rw[yX,BitVec.getLsbD_or]
theorem Gx(h:n<64):bt (fQ .i64 a b) n=(bt a n&&!bt b n):=by rw[oV];unfold bt sF;show(aW 64 (IntKind.wrap .i64 ((aW 64 a&&&~~~aW 64 b).toNat:Int))).getLsbD n=_;rw[yX,BitVec.getLsbD_and,BitVec.getLsbD_not];simp[h]
theorem aam(h:n<8):bt a n=decide (a.fdiv (2^n) %2=1):=by
 unfold bt;rw[BitVec.getLsbD,BitVec.toNat_ofInt,Nat.testBit_eq_decide_div_mod_eq];have h8:n=0\/n=1\/n=2\/n=3\/n=4\/n=5\/n=6\/n=7:=by omega
 rw[Int.fdiv_eq_ediv_of_nonneg _ (Int.le_of_lt (Int.pow_pos (by decide)))];apply decide_eq_decide.2;rcases h8 with rfl|rfl|rfl|rfl|rfl|rfl|rfl|rfl<;>simp<;>omega
theorem Ff(h:n<8):(pT .i64 (pR .i64 a (n:Int)) 1==1)=bt a n:=by
 have e:pR .i64 a (n:Int)=a.fdiv (2^n):=by
  unfold pR;have:min ((n:Int).toNat) IntKind.i64.bits=n:=by show min ((n:Int).toNat) 64=n;rw[dA];omega
  rw[this]
 rw[e,aam h];generalize a.fdiv (2^n)=c
 have hb:pT .i64 c 1=c %2:=by
  rw[p_];unfold qN;show IntKind.wrap .i64 ((aW 64 c&&&aW 64 1).toNat:Int)=_;have:(aW 64 c&&&aW 64 1).toNat=(c %2).toNat:=by rw[BitVec.toNat_and,BitVec.toNat_ofInt];show _&&&1=_;rw[Nat.and_one_is_mod];simp;omega
  rw[this,Gw (by omega)];omega
 rw[hb];by_cases h:c %2=1<;>simp[h]
theorem zR{s:Nat}(h:s<8):pi a (s:Int)=some (bt a s):=by
 have e:pR .i64 a (s:Int)=a.fdiv (2^s):=by
  unfold pR;have:min ((s:Int).toNat) IntKind.i64.bits=s:=by show min ((s:Int).toNat) 64=s;rw[dA];omega
  rw[this]
 have hw:wr .u64 (s:Int)=s:=by simp[wr,IntKind.wrap,IntKind.bits,IntKind.signed];omega
 unfold pi;rw[hw,ED (by omega),e,aam h];generalize a.fdiv (2^s)=c;simp only[aa,eZ];by_cases h:c %2=1
 .have:c.tmod 2≠0:=fun e=>by have:=Int.dvd_of_tmod_eq_zero e;omega
  simp[h,this]
 .have:c.tmod 2=0:=Int.tmod_eq_zero_of_dvd (by omega);simp[h,this]
theorem NI{s:Nat}(h:n<8)(hs:s<8):bt (pS .i64 1 (s:Int)) n=decide (n=s):=by
 have:∀i j:Fin 8,bt (pS .i64 1 ((j.val:Nat):Int)) i.val=decide (i.val=j.val):=by decide+kernel
 exact this ⟨n,h⟩ ⟨s,hs⟩
theorem yk:bt 0 n=false:=by simp[bt]
theorem M8.hi(ha:M8 a)(hn:8<=n):bt a n=false:=by unfold bt;rw[BitVec.getLsbD];exact Nat.testBit_lt_two_pow (Nat.lt_of_lt_of_le ha.bv (Nat.pow_le_pow_right (n:=2) (by decide) (show 8<=n from hn)))
theorem M8.ext(ha:M8 a)(hb:M8 b)(h:∀n,n<8->bt a n=bt b n):a=b:=by
 have e:∀c:Int,M8 c->(aW 64 c).toNat=c.toNat:=fun c hc=>by unfold M8 at hc;simp;omega
 have:a.toNat=b.toNat:=by
  rw[<-e a ha,<-e b hb];refine Nat.eq_of_testBit_eq fun n=>?_;by_cases hn:n<8
  .exact h n hn
  .exact (ha.hi (Nat.le_of_not_lt hn)).trans (hb.hi (Nat.le_of_not_lt hn)).symm
 unfold M8 at ha hb;omega
theorem M8.zero(ha:M8 a):(a=0<->∀n,n<8->bt a n=false):=⟨fun e n _=>by rw[e,yk],fun h=>M8.ext ha ⟨by decide,by decide⟩ fun n hn=>by rw[h n hn,yk]⟩
theorem IY{l:Sl Int}{m:Int}(hl:l.l.length<=1000000):vY l m=some (decide (m∈l.l)):=by
 have H:Wq (aJ (BW l m) 0) fun r=>(r=.inl true/\m∈l.l)\/(r=.inr ()/\m∉l.l):=by
  refine Wq.loop (fun a=>l.l.length-a.toNat) (fun a=>∃i:Nat,a=i/\i<=l.l.length/\m∉l.l.take i) ⟨0,rfl,by omega,by simp⟩ ?_;rintro _ ⟨i,rfl,hi,hm⟩;dsimp only[BW];refine Wq.cond (fun hb=>?_) fun hb=>Wq.some (.inr ⟨rfl,?_⟩)
  .have hlt:i<l.l.length:=by have:=of_decide_eq_true hb;omega
   rw[aY hlt];simp only[aa,dx hlt];refine Wq.cond (fun e=>Wq.some (.inl ⟨rfl,?_⟩)) fun e=>Wq.some ⟨⟨i+1,fE (by omega) (by omega),by omega,?_⟩,?_⟩
   .rw [<-eq_of_beq e];exact cW _
   .rw [List.take_add_one,List.getElem?_eq_getElem hlt];simp only[Option.toList_some,aK,aB,not_or];exact⟨hm,fun h=>by subst h;simp at e⟩
   .show _-(wr .i64 ((i:Int)+1)).toNat<_;rw[fE (by omega) (by omega)];omega
  .have hi:i=l.l.length:=by have:=of_decide_eq_false hb;omega
   rw[hi,List.take_of_length_le (Nat.le_refl _)]at hm;exact hm
 unfold vY;obtain⟨r,hr,⟨rfl,h⟩|⟨rfl,h⟩⟩:=H
 .rw [hr];simp[h]
 .rw [hr];simp[h]
end
end Go.Proofs.YtoekkpmeeclpeaaGreat.S
open Go.Ev Go
namespace Go.Proofs.YtoekkpmeeclpeaaGreat.S
def ky(m:ac):Int:=m.Rd*8+m.Sw
def NZ(l:List ac):Prop:=l.Pairwise fun a b=>ky a<ky b
structure WR(w:Mp Int ac)(l:List ac):Prop where
 ok:Qy w
 N2:NZ l
 yq:∀m,m∈l<->∃e∈w.es,e.2.1=m
theorem NZ.ext:∀{l l':List ac},NZ l->NZ l'->(∀m,m∈l<->m∈l')->l=l':=by
 intro l;induction l with
 |nil=>intro l' _ _ h;cases l' with|nil=>rfl|cons a l'=>exact absurd ((h a).2 aL) (by simp)
 |cons a l ih=>
  intro l' h1 h2 h;cases l' with
  |nil=>exact absurd ((h a).1 aL) (by simp)
  |cons b l'=>
   obtain⟨a1,a2⟩:=dW.1 h1;obtain⟨b1,b2⟩:=dW.1 h2
   have e:a=b:=by
    rcases aO.1 ((h a).1 aL)with e|e
    .exact e
    .rcases aO.1 ((h b).2 aL)with e'|e'
     .exact e'.symm
     .have:=a1 b e';have:=b1 a e;omega
   subst e;refine congrArg (a::·) (ih a2 b2 fun m=>⟨fun hm=>?_,fun hm=>?_⟩)
   .rcases aO.1 ((h m).1 (bp _ hm))with e|e
    .subst e;have:=a1 m hm;omega
    .exact e
   .rcases aO.1 ((h m).2 (bp _ hm))with e|e
    .subst e;have:=b1 m hm;omega
    .exact e
theorem NZ.inj{l:List ac}(h:NZ l){a b:ac}(ha:a∈l)(hb:b∈l)(e:ky a=ky b):a=b:=by
 induction l with
 |nil=>exact(bF ha).elim
 |cons c l ih=>
  obtain⟨h1,h2⟩:=dW.1 h;rcases aO.1 ha with ea|ha'
  .rcases aO.1 hb with eb|hb'
   .rw [ea,eb]
   .have:=h1 _ hb';rw[ea]at e;omega
  .rcases aO.1 hb with eb|hb'
   .have:=h1 _ ha';rw[eb]at e;omega
   .exact ih h2 ha' hb'
section
variable{w:Mp Int ac}{l:List ac}{z:ac}
theorem WR.nil:WR .none []:=⟨.none,.nil,fun m=>⟨fun h=>(bF h).elim,fun⟨_,h,_⟩=>(bF h).elim⟩⟩
theorem WR.key(h:WR w l){m:ac}(hm:m∈l):(0<=m.Sw/\m.Sw<8)/\(0<=m.Rd/\m.Rd<8):=by obtain⟨e,he,rfl⟩:=(h.yq m).1 hm;exact⟨(h.ok.key e he).1,(h.ok.key e he).2.1⟩
theorem WR.ZZ(h:WR w l){e:Int×ac×Nat}(he:e∈w.es):e.1=ky e.2.1/\e.2.1∈l:=⟨(h.ok.key e he).2.2,(h.yq _).2 ⟨e,he,rfl⟩⟩
theorem WR.get(h:WR w l){m:ac}(hm:m∈l):Db w (ky m)=true/\lS w z (ky m)=m:=by obtain⟨e,he,rfl⟩:=(h.yq m).1 hm;unfold Db lS;cases hf:d_ (ky e.2.1) w.es 0 with|none=>exact absurd (aR.2 ⟨e,he,(h.ZZ he).1⟩) (DU hf)|some q=>obtain⟨i,e'⟩:=q;obtain⟨_,h1,h2⟩:=kg hf;have hm':=bA h1;exact⟨rfl,h.N2.inj (h.ZZ hm').2 hm ((h.ZZ hm').1.symm.trans h2)⟩
theorem WR.out(h:WR w l){k:Int}(hk:∀m∈l,ky m≠k):Db w k=false:=by unfold Db;cases hf:d_ k w.es 0 with|none=>rfl|some q=>obtain⟨i,e'⟩:=q;obtain⟨_,h1,h2⟩:=kg hf;have hm':=bA h1;exact absurd ((h.ZZ hm').1.symm.trans h2) (hk _ (h.ZZ hm').2)
theorem WR.E2(h:WR w l):(rn w).l.map (lS w z)=l:=by
 have hs:(rn w).l=pP (w.es.map (·.1)):=by
  unfold rn Ev.J5;split
  .rename_i e;rw[e];rfl
  .rfl
 have hp:=xd (w.es.map (·.1));have hnd:(pP (w.es.map (·.1))).Nodup:=hp.nodup_iff.2 h.ok.kd;have key:∀k∈pP (w.es.map (·.1)),∃m∈l,ky m=k/\lS w z k=m:=fun k hk=>by obtain⟨e,he,rfl⟩:=aR.1 (hp.mem_iff.1 hk);obtain⟨h1,h2⟩:=h.ZZ he;exact⟨e.2.1,h2,h1.symm,by rw[h1];exact(h.get h2).2⟩
 rw[hs];refine NZ.ext ?_ h.N2 fun m=>⟨fun hm=>?_,fun hm=>?_⟩
 .have hs2:(pP (w.es.map (·.1))).Pairwise fun a b=>a<b:=by refine j6 ?_ ((AP (w.es.map (·.1))).and (show List.Pairwise (fun a b:Int=>a≠b) (pP (w.es.map (·.1)))from hnd));intro a b _ _ ⟨h1,h2⟩;have:a≠b:=h2;omega
  unfold NZ;rw[List.pairwise_map];refine j6 ?_ hs2;intro a b ha hb hlt;obtain⟨m1,_,e1,g1⟩:=key a ha;obtain⟨m2,_,e2,g2⟩:=key b hb;rw[g1,g2,e1,e2];exact hlt
 .obtain ⟨k,hk,rfl⟩:=aR.1 hm;obtain⟨m1,h1,_,g1⟩:=key k hk;rw[g1];exact h1
 .obtain ⟨e,he,rfl⟩:=(h.yq m).1 hm;exact aR.2 ⟨e.1,hp.mem_iff.2 (aR.2 ⟨e,he,rfl⟩),by rw[(h.ZZ he).1];exact(h.get hm).2⟩
theorem WR.len(h:WR w l):w.es.length=l.length:=by have:=congrArg List.length (h.E2 (z:=(0,0,0,0,0,0,0,0,0,Sl.nil)));rw[List.length_map,PI]at this;exact this
end
end Go.Proofs.YtoekkpmeeclpeaaGreat.S
open Go.Ev Go
namespace Go.Proofs.YtoekkpmeeclpeaaGreat.S
theorem VG{ν:Type}{e e':Int×ν×Nat}:∀{es:List (Int×ν×Nat)}{i:Nat},(es.map (·.1)).Nodup->es[i]?=some e'->(e∈es.eraseIdx i<->e∈es/\e.1≠e'.1):=by
 intro es;induction es with
 |nil=>intro i _ h;simp at h
 |cons a es ih=>
  intro i hn h;obtain⟨h1,h2⟩:=List.nodup_cons.1 (show(a.1::es.map (·.1)).Nodup from hn);cases i with
  |zero=>
   obtain rfl:a=e':=by simpa using h
   show e∈es<->_;rw[aO];exact⟨fun he=>⟨.inr he,fun k=>h1 (aR.2 ⟨e,he,k⟩)⟩,fun⟨he,k⟩=>he.resolve_left fun q=>k (by rw[q])⟩
  |succ i=>
   have h':es[i]?=some e':=by simpa using h
   show e∈a::es.eraseIdx i<->_;rw[aO,aO,ih h2 h'];constructor
   .rintro (rfl|⟨q,k⟩)
    .exact ⟨.inl rfl,fun k=>h1 (aR.2 ⟨e',bA h',k.symm⟩)⟩
    .exact ⟨.inr q,k⟩
   .rintro ⟨q|q,k⟩
    .exact .inl q
    .exact .inr ⟨q,k⟩
section
variable{w:Mp Int ac}{l:List ac}{z:ac}{m:ac}
theorem aa5{k:Int}(hk:k∉w.es.map (·.1)):Cw w k m=⟨w.es++[(k,m,w.c_)],w.c_+1⟩:=by unfold Cw;cases hf:d_ k w.es 0 with|none=>rfl|some q=>obtain⟨i,e⟩:=q;obtain⟨_,h1,h2⟩:=kg hf;exact absurd (aR.2 ⟨e,bA h1,h2⟩) hk
theorem WR.upd(h:WR w l)(h1:0<=m.Sw/\m.Sw<8)(h2:0<=m.Rd/\m.Rd<8)(hk:∀q∈l,ky q<ky m)(hl:l.length<64):WR (Cw w (ky m) m) (l++[m]):=by
 have hn:ky m∉w.es.map (·.1):=fun hm=>by obtain⟨e,he,hh⟩:=aR.1 hm;obtain⟨a,b⟩:=h.ZZ he;have:=hk _ b;rw[<-a,hh]at this;omega
 refine⟨h.ok.upd h1 h2 rfl (by rw[h.len];exact hl),?_,fun q=>?_⟩
 .unfold NZ;rw[List.pairwise_append];exact⟨h.N2,List.pairwise_singleton _ _,fun a ha b hb=>by rw[aB.1 hb];exact hk a ha⟩
 .rw [aa5 hn];simp only[aK,aB];constructor
  .rintro (hq|rfl)
   .obtain ⟨e,he,rfl⟩:=(h.yq q).1 hq;exact⟨e,.inl he,rfl⟩
   .exact ⟨_,.inr rfl,rfl⟩
  .rintro ⟨e,he|rfl,rfl⟩
   .exact .inl ((h.yq _).2 ⟨e,he,rfl⟩)
   .exact .inr rfl
theorem WR.sub{w':Mp Int ac}{p:ac->Bool}(h:WR w l)(hs:w'.es.Sublist w.es)(hc:w'.c_=w.c_)(hp:∀e∈w.es,e∈w'.es<->p e.2.1=true):WR w' (l.filter p):=by
 refine⟨h.ok.sub hs hc,h.N2.sublist List.filter_sublist,fun q=>?_⟩;rw[dy,h.yq];constructor
 .rintro ⟨⟨e,he,rfl⟩,hq⟩;exact⟨e,(hp e he).2 hq,rfl⟩
 .rintro ⟨e,he,rfl⟩;exact⟨⟨e,hs.subset he,rfl⟩,(hp e (hs.subset he)).1 he⟩
theorem WR.tH{up:Int}(h:WR w l):WR (Dg up w) (l.filter fun q=>GI up q.Sw):=h.sub (p:=fun q=>GI up q.Sw) PJ.1 PJ.2 fun e he=>by show e∈w.es.filter _<->_;rw[dy];exact⟨fun a=>a.2,fun a=>⟨he,a⟩⟩
theorem WR.del{k:Int}(h:WR w l):WR (Br w k) (l.filter fun q=>decide (ky q≠k)):=by refine h.sub T9.1 T9.2 fun e he=>?_;unfold Br;cases hf:d_ k w.es 0 with|none=>have:=DU hf;simp only[decide_eq_true_eq];exact⟨fun _ e'=>this (aR.2 ⟨e,he,(h.ZZ he).1.trans e'⟩),fun _=>he⟩|some q=>obtain⟨i,e'⟩:=q;obtain⟨_,h1,h2⟩:=kg hf;rw[Nat.sub_zero]at h1;simp only[decide_eq_true_eq];show e∈w.es.eraseIdx i<->_;rw[VG h.ok.kd h1,(h.ZZ he).1,h2];exact⟨fun a=>a.2,fun a=>⟨he,a⟩⟩
end
end Go.Proofs.YtoekkpmeeclpeaaGreat.S
