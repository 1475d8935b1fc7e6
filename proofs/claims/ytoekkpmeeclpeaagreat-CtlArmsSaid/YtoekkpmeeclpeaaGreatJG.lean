/- The controller: plans, aims, who is concerned, parts. Conditions: as stated. -/
import Derived.Test.YtoekkpmeeclpeaaGreatJD
import Derived.Test.YtoekkpmeeclpeaaGreatLD
open List renaming getElem_mem->aX,length_append->aA,length_singleton->aP,mem_append->aF,mem_iff_getElem->gm,mem_singleton->az,not_mem_nil->aW,prefix_append->gS,prefix_rfl->cE
open Nat renaming le_add_right->bN,le_refl->aq,le_succ->aO
open Option renaming bind_some->ad
open Go.Ev Go
namespace Go.Proofs.YtoekkpmeeclpeaaGreat.S
structure DY(n:Int)(p:am):Prop where
 rl:0<p.aY.l.length/\p.aY.l.length<=8
 sw:∀r∈p.aY.l,r.p8.l.length<=8/\∀s∈r.p8.l,0<=s/\s<n
 mv:p.Jd.l.length<=1000/\∀m∈p.Jd.l,0<=m.2.1/\m.2.1<=255
theorem TQ{t:ao}{old now:Sl (Sl Int)}(hN:mr t now){a b c:Int}{p:am}(h:abU t old now a b c p 0):DY t.au p:=by
 by_cases hm:vH t old now=[]
 .exact absurd (h.none hm).2 (by decide)
 obtain⟨s,R,hs,hR,h0,h⟩:=h.ZO hm;rcases h with⟨_,_,h⟩|⟨_,rfl,_⟩
 .exact absurd h (by decide)
 have hV:=hN.1.D_.sw;have hsw:∀r∈R.l,∀x∈r.p8.l,0<=x/\x<t.au:=fun r hr x hx=>by obtain⟨i,hi,rfl⟩:=gm.1 hr;have:=hR.sws i hi;rw[cU hi]at this;obtain⟨m,hm,_,rfl⟩:=(this.zJ x).1 hx;obtain⟨h,s,_,hs,_,rfl⟩:=zG.1 (Kb.1 hm);have hl:=hN.1.len;exact⟨by show(0:Int)<=(s:Int);omega,by show(s:Int)<_;omega⟩
 refine⟨⟨h0,hR.len hN⟩,fun r hr=>⟨?_,hsw r hr⟩,?_⟩
 .obtain ⟨i,hi,rfl⟩:=gm.1 hr;have:=hR.sws i hi;rw[cU hi]at this;exact Gw this.Yc fun x hx=>by have:=hsw _ (aX hi) x hx;omega
 .show s.l.length<=1000/\∀m∈s.l,_;rw[hs];exact⟨by have:=Kc (old:=old) hN;omega,TJ hN⟩
section
variable{x:Cx}{now up:Int}
theorem VW{r:aS}(hr:r.p8.l.length<=8)(hs:∀s∈r.p8.l,0<=s/\s<8):
  Wq (mO x.c x.d_ x.l x.cw x.cu x.dp x.lU x.cZ x.eU x.bh x.skip x.dJ x.vP x.eQ x.out x.bX r) fun t=>∃s b,t=(s,b,x.tu)/\(b=true->s.l.length=r.p8.l.length):=by
 unfold mO;refine Wq.bind (P:=fun q=>q=.inl false\/∃s:Sl Int,q=.inr s/\s.l.length=r.p8.l.length) ?_ ?_
 .refine Wq.up r.p8.l.length (by omega) (fun i s=>s.l.length=i) rfl ?_;rintro i s hi hl;dsimp only[sZ];refine Wq.cond (fun hb=>?_) (fun hb=>Wq.some (.inr ⟨s,rfl,?_⟩))
  .have hlt:i<r.p8.l.length:=by have:=of_decide_eq_true hb;omega
   rw[bS hlt];simp only[ad];have:=hs (gt r.p8.l i) (by rw[cU hlt];exact aX _);rw[jq this.1 (by omega)];simp only[ad];refine Yk.bind ?_;rintro⟨a,b,d⟩ _;refine Wq.cond (fun _=>Wq.some (.inl rfl)) (fun _=>?_);rw[pJ (by rw[aA,aP];omega)];exact Wq.some ⟨_,rfl,hlt,by simp;omega⟩
  .have:¬(i:Int)<(r.p8.l.length:Int):=of_decide_eq_false hb;omega
 .rintro _ (rfl|⟨s,rfl,h⟩)
  .exact Wq.some ⟨_,_,rfl,fun h=>nomatch h⟩
  .exact Wq.some ⟨_,_,rfl,fun _=>h⟩
theorem xk{p:am}{n:Int}(hp:DY n p)(hn:n<=8):Tt (iU p):=by
 unfold iU;have hr:=hp.rl;refine Wq.bind (P:=fun _=>True) ?_ (fun r _=>by obtain⟨a,b⟩:=r;exact Wq.some trivial);refine Wq.loop (fun a=>p.aY.l.length-a.2.1.toNat) (fun a=>0<=a.2.1/\a.2.1<=p.aY.l.length) ⟨by simp,by simp⟩ ?_;rintro⟨a,i,v⟩ ⟨h0,h1⟩;dsimp only[nf]at h0 h1|-;refine Wq.cond (fun hb=>?_) (fun _=>Wq.some trivial);have hlt:i<p.aY.l.length:=of_decide_eq_true hb;rw[jq h0 hlt];simp only[ad];obtain⟨hl,hs⟩:=hp.sw (gt p.aY.l i.toNat) (by rw[cU (by omega)];exact aX _);refine Wq.bind (P:=fun _=>True) ?_ ?_
 .refine Wq.loop (fun a=>(gt p.aY.l i.toNat).p8.l.length-a.2.1.toNat) (fun a=>0<=a.2.1/\a.2.1<=(gt p.aY.l i.toNat).p8.l.length) ⟨by simp,by simp⟩ ?_;rintro⟨b,k,u⟩ ⟨k0,k1⟩;dsimp only[ng]at k0 k1|-;refine Wq.cond (fun hb=>?_) (fun _=>Wq.some trivial);have hk:k<(gt p.aY.l i.toNat).p8.l.length:=of_decide_eq_true hb;rw[jq k0 hk];simp only[ad];obtain⟨s0,s1⟩:=hs (gt (gt p.aY.l i.toNat).p8.l k.toNat) (by rw[cU (l:=(gt p.aY.l i.toNat).p8.l) (by omega)];exact aX _);rw[AE s0,jq s0 (by omega),AE h0];refine Wq.some ⟨?_,?_⟩
  .show 0<=wr .i64 (k+1)/\wr .i64 (k+1)<=_;rw[pX (by omega) (by omega)];omega
  .show _-(wr .i64 (k+1)).toNat<_;rw[pX (by omega) (by omega)];omega
 .rintro ⟨a',v'⟩ _;refine Wq.some ⟨?_,?_⟩
  .show 0<=wr .i64 (i+1)/\wr .i64 (i+1)<=_;rw[pX (by omega) (by omega)];omega
  .show _-(wr .i64 (i+1)).toNat<_;rw[pX (by omega) (by omega)];omega
theorem Nf{p:am}{n:Int}(hp:DY n p)(k:Int):Wq (qr p k) fun s=>s.l.length<=8/\∀q∈s.l,0<=q.1/\q.1<n:=by
 unfold qr;refine Wq.cond (fun _=>Wq.some ⟨by simp,fun _ h=>(aW h).elim⟩) fun hb=>?_;simp only[Bool.or_eq_false_iff,decide_eq_false_iff_not]at hb;obtain⟨k0,k1⟩:=hb;rw[jq (i:=k) (n:=p.aY.l.length) (by omega) (by omega)];simp only[ad];obtain⟨hl,hs⟩:=hp.sw (gt p.aY.l k.toNat) (by rw[cU (by omega)];exact aX _);refine Wq.Aq ?_;refine Wq.up (gt p.aY.l k.toNat).p8.l.length (by omega) (fun i s=>s.l.length<=i/\∀q∈s.l,0<=q.1/\q.1<n) ⟨by simp,fun _ h=>(aW h).elim⟩ ?_;rintro i s hi ⟨hle,hq⟩;dsimp only[qK];refine Wq.cond (fun hb=>?_) (fun hb=>Wq.some ⟨by omega,hq⟩);have hlt:i<(gt p.aY.l k.toNat).p8.l.length:=by have:=of_decide_eq_true hb;omega
 rw[bS hlt,jq (i:=k) (n:=p.aY.l.length) (by omega) (by omega)];simp only[ad];obtain⟨m,hm,_⟩:=Qp (round:=(gt p.aY.l k.toNat).No) (sw:=gt (gt p.aY.l k.toNat).p8.l i) hp.mv.1 hp.mv.2;rw[hm];simp only[ad];rw[pJ (by rw[aA,aP];omega)];refine Wq.some ⟨_,rfl,hlt,by simp;omega,fun q hq'=>?_⟩;rcases aF.1 hq' with hq'|hq'
 .exact hq q hq'
 .rw [az.1 hq'];exact hs _ (by rw[cU hlt];exact aX _)
theorem KL{c:ai}{at':af}{r1:Int}{r2:Arr 8 Int}(hs:0<=c.T.au/\c.T.au<=8):
  Wq (aU (qE c at' r1 r2) (0,Sl.nil)) fun s=>s.l.length<=8/\∀m∈s.l,m.cN=6/\m.Rd=0/\(0<=m.Sw/\m.Sw<8):=by
 refine Wq.up c.T.au.toNat (by omega) (fun i s=>s.l.length<=i/\∀m∈s.l,m.cN=6/\m.Rd=0/\(0<=m.Sw/\m.Sw<8)) ⟨by simp,fun _ h=>(aW h).elim⟩ ?_;rintro i s hi ⟨hle,hq⟩;dsimp only[qE];refine Wq.cond (fun hb=>?_) (fun hb=>Wq.some ⟨by omega,hq⟩);have hlt:(i:Int)<c.T.au:=of_decide_eq_true hb;rw[AA (by omega)];simp only[ad];refine Wq.bind (P:=fun s=>s.l.length<=i+1/\∀m∈s.l,m.cN=6/\m.Rd=0/\(0<=m.Sw/\m.Sw<8)) ?_ fun s' h=>Wq.some ⟨_,rfl,by omega,h⟩;refine Wq.cond (fun _=>?_) fun _=>Wq.some ⟨by omega,hq⟩;rw[jq (i:=(i:Int)) (n:=8) (by omega) (by omega)];simp only[ad];rw[pJ (by rw[aA,aP];omega)];refine Wq.some ⟨by simp;omega,fun q hq'=>?_⟩;rcases aF.1 hq' with hq'|hq'
 .exact hq q hq'
 .rw [az.1 hq'];exact⟨rfl,rfl,by show 0<=(i:Int);omega,by show(i:Int)<8;omega⟩
theorem RS{k:Int}{t:Sl Int}{s':af}{p:am}{n:Nat}(hl:(gt p.aY.l n).p8.l.length<=8)(hs:∀s∈(gt p.aY.l n).p8.l,0<=s/\s<8)(ht:t.l.length=(gt p.aY.l n).p8.l.length)(hk:0<=k/\k<8):
  Wq (aU (sY k t s' p n) (0,Sl.nil)) fun s=>s.l.length<=8/\∀m∈s.l,m.cN=4/\m.U=s'.U/\m.Rd=k/\(0<=m.Sw/\m.Sw<8):=by
 refine Wq.up (gt p.aY.l n).p8.l.length (by omega) (fun i s=>s.l.length<=i/\∀m∈s.l,m.cN=4/\m.U=s'.U/\m.Rd=k/\(0<=m.Sw/\m.Sw<8)) ⟨by simp,fun _ h=>(aW h).elim⟩ ?_;rintro i s hi ⟨hle,hq⟩;dsimp only[sY];refine Wq.cond (fun hb=>?_) (fun hb=>Wq.some ⟨by omega,hq⟩);have hlt:i<(gt p.aY.l n).p8.l.length:=by have:=of_decide_eq_true hb;omega
 rw[bS hlt,bS (n:=t.l.length) (by omega)];simp only[ad];rw[pJ (by rw[aA,aP];omega)];refine Wq.some ⟨_,rfl,hlt,by simp;omega,fun q hq'=>?_⟩;rcases aF.1 hq' with hq'|hq'
 .exact hq q hq'
 .rw [az.1 hq'];exact⟨rfl,rfl,rfl,hs _ (by rw[cU hlt];exact aX _)⟩
end
end Go.Proofs.YtoekkpmeeclpeaaGreat.S
open Go.Ev Go
namespace Go.Proofs.YtoekkpmeeclpeaaGreat.S
structure gV(c:ai)(R:Sl (Sl (Sl Int))):Prop where
 sw:0<=c.T.au/\c.T.au<=8
 aeR:∀r∈R.l,mr c.T r
 len:0<R.l.length/\R.l.length<=16
 wide:0<=c.uD/\c.uD<=65536
 fA:0<=c.xW/\c.xW<=65536
def Al(c:ai)(R:Sl (Sl (Sl Int)))(now target at':Int)(p:am):Prop:=kH c.T (gt R.l now.toNat) (gt R.l target.toNat) at' (2*c.uD+2) c.xW=some (p,0)
section
variable{c:ai}{R:Sl (Sl (Sl Int))}{x:Cx}{now up:Int}
theorem Qu(h:gV c R):uL c.uD=some (2*c.uD+2):=by have:=h.wide;unfold uL;rw[if_neg (c:=(0:Int)>c.uD) (by omega),if_neg (by omega),pX (n:=2*c.uD) (by omega) (by omega),pX (by omega) (by omega)]
theorem CY(h:gV c R){a b t:Int}(ha:0<=a/\a<R.l.length)(hb:0<=b/\b<R.l.length)(ht:0<=t/\t<=1099511627776):
  ∃p e,kH c.T (gt R.l a.toNat) (gt R.l b.toNat) t (2*c.uD+2) c.xW=some (p,e)/\(e=0->DY c.T.au p):=by
 have hg:∀i:Int,0<=i/\i<R.l.length->mr c.T (gt R.l i.toNat):=fun i hi=>h.aeR _ (by rw[cU (by omega)];exact aX _);have h1:=h.wide;have h2:=h.fA;obtain⟨p,e,hp,hm⟩:=NG (hg a ha) (hg b hb) (at':=t) (miss:=2*c.uD+2) (fA:=c.xW) ⟨ht,by omega,by omega⟩;exact⟨p,e,hp,fun he=>by subst he;exact TQ (hg b hb) hm⟩
theorem If(h:gV c R)(hc:x.c=c)(hR:x.d_=R)(hn:0<=x.cw.pk/\x.cw.pk<R.l.length){b t:Int}(hb:0<=b/\b<R.l.length):
  lq x.c x.d_ x.l x.cw x.cu x.dp x.lU x.cZ x.eU x.bh x.skip x.dJ x.vP x.eQ x.out x.bX b t=
  (kH c.T (gt R.l x.cw.pk.toNat) (gt R.l b.toNat) t (2*c.uD+2) c.xW).bind fun(p,e)=>some (p,e,x.tu):=by
 unfold lq;rw[hc,hR];rw[jq hn.1 hn.2];simp only[ad];rw[jq hb.1 hb.2];simp only[ad];rw[Qu h];simp only[ad];rw[<-hc,<-hR]
end
structure Cv(c:ai)(R:Sl (Sl (Sl Int)))(H:List bR)(xc:ai)(xR:Sl (Sl (Sl Int)))(l:Sl aj)(s:af):Prop where
 hc:xc=c
 hR:xR=R
 jr:Ve l.l s
 u:0<=s.U/\s.U<=65535
 out:M8 s.og
 now:0<=s.pk/\s.pk<R.l.length
 op:s.jg=true->(0<=s.eL/\s.eL<R.l.length)/\(0<=s.At/\s.At<=1099511627776)/\(0<=s.fC/\s.fC<=8)/\∃p,Al c R s.pk s.eL s.At p
 Ol:∀h∈H,h.u<=s.U/\(h.u=s.U->s.jg=true->h.rd<s.fC)
abbrev Jv(c:ai)(R:Sl (Sl (Sl Int)))(H:List bR)(x:Cx):Prop:=Cv c R H x.c x.d_ x.l x.cw
structure Ao(c:ai)(R:Sl (Sl (Sl Int)))(H:List bR)(s:af)(cu:Int)(dp:am)(lU:Int)(cZ:Mp Int aa)(skip:Int):Prop where
 ph:0<=cu/\cu<=6
 Ka:M8 skip
 T6:cu=0->s.jg=false
 Oo:cu≠0->cu≠6->s.jg=true/\Al c R s.pk s.eL s.At dp
 p1:cu=1->s.fC=0/\s.oe=false/\s.bH=false
 p2:cu=2->s.fC=lU+1/\(0<=lU/\lU<dp.aY.l.length)/\s.oe=false/\s.bH=false
 p3:cu=3\/cu=4->s.oe=true/\s.bH=false
 p5:cu=5->s.bH=true/\(0<=lU/\lU<dp.aY.l.length)
 OA:Ca cZ
 wk:∀e∈cZ.es,e.2.1.cN=4->cu=2/\e.2.1.U=s.U/\e.2.1.Rd=lU
 wh:∀e∈cZ.es,e.2.1.cN=4->∀h∈H,h.u=e.2.1.U->h.rd=e.2.1.Rd->h.sw=e.2.1.Sw->h.cw=e.2.1.T2
abbrev Inv(c:ai)(R:Sl (Sl (Sl Int)))(H:List bR)(x:Cx):Prop:=Ao c R H x.cw x.cu x.dp x.lU x.cZ x.skip
def Ak(x:Cx):Prop:=∀m∈x.out.l,m.cN=4->∃e∈x.cZ.es,e.2.1=m
structure Sz(a b:Nat)(x y:Cx):Prop where
 pW:x.l.l<+:y.l.l
 l:y.l.l.length<=x.l.l.length+a
 e:y.bX.l.length<=x.bX.l.length+a
 o:y.out.l.length<=x.out.l.length+b
def Sm(n:Nat)(x:Cx):Prop:=x.l.l.length<=n/\x.bX.l.length<=n/\x.out.l.length<=n
theorem Sz.mono{a b a' b':Nat}{x y:Cx}(h:Sz a b x y)(h1:a<=a')(h2:b<=b'):Sz a' b' x y:=⟨h.pW,by have:=h.l;omega,by have:=h.e;omega,by have:=h.o;omega⟩
structure DX(c:ai)(R:Sl (Sl (Sl Int)))(H:List bR)(a b:Nat)(x y:Cx):Prop where
 jv:Jv c R H y
 inv:Inv c R H y
 out:Ak y
 sz:Sz a b x y
section
variable{c:ai}{R:Sl (Sl (Sl Int))}{H:List bR}{xc:ai}{xR:Sl (Sl (Sl Int))}{l:Sl aj}{s:af}
theorem Cv.XK(h:Cv c R H xc xR l s)(h1:s.jg=true)(h3:s.bH=false):Cv c R H xc xR (.mk (l.l++[(4,s.U,0,0)])) (s.U,s.pk,true,s.eL,s.At,s.fC,s.oe,true,s.og):=⟨h.hc,h.hR,.JC h.jr (Bz h1 h3),h.u,h.out,h.now,fun _=>h.op h1,fun a ha=>⟨(h.Ol a ha).1,fun e _=>(h.Ol a ha).2 e h1⟩⟩
theorem Cv.aci(h:Cv c R H xc xR l s)(h1:s.jg=true)(h2:s.oe=false)(h3:s.bH=false)(h4:0<s.fC):Cv c R H xc xR (.mk (l.l++[(3,s.U,0,0)])) (s.U,s.pk,true,s.eL,s.At,s.fC,true,s.bH,s.og):=⟨h.hc,h.hR,.JC h.jr (E7 h1 h2 h3 h4),h.u,h.out,h.now,fun _=>h.op h1,fun a ha=>⟨(h.Ol a ha).1,fun e _=>(h.Ol a ha).2 e h1⟩⟩
theorem Cv.BJ(h:Cv c R H xc xR l s)(h1:s.jg=true)(h2:s.oe=false)(h3:s.bH=false)(h4:0<=s.fC/\s.fC<8):Cv c R H xc xR (.mk (l.l++[(2,s.U,s.fC,0)])) (s.U,s.pk,true,s.eL,s.At,s.fC+1,s.oe,s.bH,s.og):=
 ⟨h.hc,h.hR,.JC h.jr (H5 h1 h2 h3 h4),h.u,h.out,h.now,fun _=>by
  obtain⟨a,b,_,d⟩:=h.op h1;exact⟨a,b,⟨by show 0<=s.fC+1;omega,by show s.fC+1<=8;omega⟩,d⟩,fun a ha=>⟨(h.Ol a ha).1,fun e _=>by
  have:=(h.Ol a ha).2 e h1;show a.rd<s.fC+1;omega⟩⟩
theorem Cv.XC(h:Cv c R H xc xR l s)(h1:s.jg=true)(h2:s.oe=true)(h3:s.bH=false):Cv c R H xc xR (.mk (l.l++[(5,s.U,0,0)])) (s.U,s.eL,false,0,0,0,false,false,s.og):=⟨h.hc,h.hR,.JC h.jr (By h1 h2 h3),h.u,h.out,(h.op h1).1,(fun e=>nomatch e),fun a ha=>⟨(h.Ol a ha).1,fun _ e=>nomatch e⟩⟩
theorem Cv.Wn(h:Cv c R H xc xR l s)(h1:s.jg=true)(h3:s.bH=true){a:Int}(h4:M8 a):Cv c R H xc xR (.mk (l.l++[(6,s.U,a,0)])) (s.U,s.pk,false,0,0,0,false,false,a):=⟨h.hc,h.hR,.JC h.jr (Bx h1 h3 h4),h.u,h4,h.now,(fun e=>nomatch e),fun a ha=>⟨(h.Ol a ha).1,fun _ e=>nomatch e⟩⟩
theorem Cv.S3(h:Cv c R H xc xR l s)(h1:s.jg=false){a:Int}(h4:0<=a/\a<8)(h2:p7 .i64 (od .i64 s.og a) 1=1):Cv c R H xc xR (.mk (l.l++[(7,s.U,a,0)])) (s.U,s.pk,s.jg,s.eL,s.At,s.fC,s.oe,s.bH,gu .i64 s.og (sd .i64 1 a)):=⟨h.hc,h.hR,.JC h.jr (zE h1 h4 h2),h.u,h.out.abB,h.now,h.op,h.Ol⟩
theorem Cv.abM(h:Cv c R H xc xR l s)(hE:gV c R)(h1:s.jg=false)(h2:s.og=0)(h3:s.U<65535){k t:Int}(hk:0<=k/\k<R.l.length)(ht:0<=t/\t<=1099511627776){p:am}(hp:Al c R s.pk k t p):
  Cv c R H xc xR (.mk (l.l++[(1,s.U+1,k,t)])) (s.U+1,s.pk,true,k,t,0,false,false,0):=by
 have hu:=h.u;have hr:=hE.len
 exact⟨h.hc,h.hR,.JC h.jr (Db h1 h2 (pX (n:=s.U+1) (by omega) (by omega)).symm (by omega) (by omega)),⟨by show 0<=s.U+1;omega,by show s.U+1<=65535;omega⟩,⟨Int.le_refl 0,(by decide:(0:Int)<256)⟩,h.now,fun _=>⟨hk,ht,⟨by show(0:Int)<=0;omega,by show(0:Int)<=8;omega⟩,p,hp⟩,
  fun a ha=>⟨by have:=(h.Ol a ha).1;show a.u<=s.U+1;omega,fun e=>by have:=(h.Ol a ha).1;have e:a.u=s.U+1:=e;omega⟩⟩
theorem Al.dp(hE:gV c R)(h:Cv c R H xc xR l s)(ho:s.jg=true){p:am}(hp:Al c R s.pk s.eL s.At p):DY c.T.au p:=by obtain⟨ht,ha,_,_⟩:=h.op ho;obtain⟨q,e,h1,h2⟩:=CY hE h.now ht ha;unfold Al at hp;rw[hp]at h1;cases h1;exact h2 rfl
end
end Go.Proofs.YtoekkpmeeclpeaaGreat.S
open Go.Ev Go
namespace Go.Proofs.YtoekkpmeeclpeaaGreat.S
section
variable{c:ai}{R:Sl (Sl (Sl Int))}{H:List bR}{x:Cx}{now up:Int}
def yQ(w:Mp Int aa):Prop:=∀e∈w.es,e.2.1.cN≠4
theorem QP{s:af}{dp:am}{lU:Int}{w:Mp Int aa}{sk:Int}(ho:s.jg=true)(hc:s.bH=true)(hp:Al c R s.pk s.eL s.At dp)
  (hk:0<=lU/\lU<dp.aY.l.length) (hs:M8 sk) (hw:Ca w) (hn:yQ w):Ao c R H s 5 dp lU w sk:=
 ⟨by decide,hs,fun h=>absurd h (by decide),fun _ _=>⟨ho,hp⟩,fun h=>absurd h (by decide),fun h=>absurd h (by decide),fun h=>absurd h (by decide),fun _=>⟨hc,hk⟩,hw,fun e he h=>absurd h (hn e he),fun e he h=>absurd h (hn e he)⟩
theorem zB{o:Sl aa}{w:Mp Int aa}(hN:kr x.out)(h:∀m∈o.l,m∈x.out.l\/∃e∈w.es,e.2.1=m):∀m∈o.l,m.cN=4->∃e∈w.es,e.2.1=m:=fun m hm hk=>by
 rcases h m hm with h|h
 .exact absurd hk (hN m h)
 .exact h
theorem I0(hE:gV c R)(hJ:Jv c R H x)(ho:x.cw.jg=true)(hc:x.cw.bH=true)(hp:Al c R x.cw.pk x.cw.eL x.cw.At x.dp)(hph:x.cu=5)(hs:M8 x.skip)(hN:kr x.out)(hz:Sm 9000 x)
  {k:Int} (hk:0<=k/\k<x.dp.aY.l.length):
  Wc (mM x.c x.d_ x.l x.cw x.cu x.dp x.lU x.cZ x.eU x.bh x.skip x.dJ x.vP x.eQ x.out x.bX now k up) (DX c R H 0 64 x):=by
 have hpl:=hp.dp hE hJ ho;have hsw:=hE.sw;obtain⟨hl,hs8⟩:=hpl.sw (gt x.dp.aY.l k.toNat) (by rw[cU (by omega)];exact aX _);unfold mM;rw[jq (i:=k) (n:=x.dp.aY.l.length) hk.1 hk.2];simp only[ad];refine Wq.mP (P:=fun t=>∃(sk:Int)(ms:Sl aa),t=(x.c,x.d_,x.cw,x.cu,x.dp,k,x.eU,(-1:Int),sk,x.dJ,x.vP,x.eQ,ms,x.l,x.cZ,x.out,x.bX)/\M8 sk/\ms.l.length<=8/\∀m∈ms.l,m.cN=5/\m.Rd=k/\(0<=m.Sw/\m.Sw<8)) ?_ ?_
 .refine Wq.up (gt x.dp.aY.l k.toNat).p8.l.length (by omega) (fun i t=>∃(sk:Int)(ms:Sl aa),t=(x.c,x.d_,x.cw,x.cu,x.dp,k,x.eU,(-1:Int),sk,x.dJ,x.vP,x.eQ,ms,x.l,x.cZ,x.out,x.bX)/\M8 sk/\ms.l.length<=i/\∀m∈ms.l,m.cN=5/\m.Rd=k/\(0<=m.Sw/\m.Sw<8)) ⟨x.skip,Sl.nil,rfl,hs,by simp,fun _ h=>(aW h).elim⟩ ?_;rintro i _ hi ⟨sk,ms,rfl,h1,h2,h3⟩;dsimp only[tZ];refine Wq.cond (fun hb=>?_) (fun hb=>Wq.some ⟨sk,ms,rfl,h1,by omega,h3⟩);have hlt:i<(gt x.dp.aY.l k.toNat).p8.l.length:=by have:=of_decide_eq_true hb;omega
  rw[bS hlt];simp only[ad];have hsx:=hs8 (gt (gt x.dp.aY.l k.toNat).p8.l i) (by rw[cU hlt];exact aX _);rw[AA hsx.1];simp only[ad];refine Wq.bind (P:=fun t=>∃(sk:Int)(ms:Sl aa),t=(x.c,x.d_,x.cw,x.cu,x.dp,k,x.eU,(-1:Int),sk,x.dJ,x.vP,x.eQ,ms,x.l,x.cZ,x.out,x.bX)/\M8 sk/\ms.l.length<=i+1/\∀m∈ms.l,m.cN=5/\m.Rd=k/\(0<=m.Sw/\m.Sw<8)) ?_ ?_
  .refine Wq.cond (fun _=>?_) (fun _=>?_)
   .rw [AE hsx.1];exact Wq.some ⟨_,ms,rfl,h1.bit hsx.1 (by omega),by omega,h3⟩
   .rw [pJ (by rw[aA,aP];omega)];refine Wq.some ⟨sk,_,rfl,h1,by simp;omega,fun q hq=>?_⟩;rcases aF.1 hq with hq|hq
    .exact h3 q hq
    .rw [az.1 hq];exact⟨rfl,rfl,hsx.1,by show gt (gt x.dp.aY.l k.toNat).p8.l i<8;omega⟩
  .rintro _ ⟨sk,ms,rfl,h⟩;exact Wq.some ⟨_,rfl,hlt,sk,ms,rfl,h⟩
 .rintro _ ⟨sk,ms,rfl,h1,h2,h3⟩;dsimp only;have h8:=hpl.rl;have hask:Ask ms.l:=⟨by omega,fun m hm=>⟨(h3 m hm).2.2,by rw[(h3 m hm).2.1];omega⟩⟩
  refine Wc.mP (Mk (x:={x with lU:=k,bh:=-1,skip:=sk}) (now:=now) hask (by have:=hz.2.2;show x.out.l.length<_;omega)) ?_;rintro _ ⟨o,w,rfl,hw,hm,hnil,hlen,hout⟩;have hI:Ao c R H x.cw x.cu x.dp k w sk:=by rw[hph];exact QP ho hc hp hk h1 hw fun e he=>by rw[(h3 _ (hm e he)).1];decide
  have hO:=zB hN hout;refine Wc.cond (fun _=>?_) fun _=>?_
  .refine Wc.Aq ?_;dsimp only;rw[hph];refine⟨{x with lU:=k,bh:=wr .i64 (wr .i64 (now+x.dp.Am)+1),skip:=sk,cZ:=w,out:=o,eU:=now},by rw[<-hph];unfold rF;rw[hph];rfl,hJ,hI,hO,?_⟩;exact⟨cE,aq _,aq _,hlen⟩
  .exact ⟨{x with lU:=k,bh:=-1,skip:=sk,cZ:=w,out:=o,eU:=now},rfl,hJ,hI,hO,cE,aq _,aq _,hlen⟩
theorem DR(hE:gV c R)(hJ:Jv c R H x)(ho:x.cw.jg=true)(hp:Al c R x.cw.pk x.cw.eL x.cw.At x.dp)(hs:M8 x.skip)(hN:kr x.out)(hz:Sm 8000 x):
  Wc (iL x.c x.d_ x.l x.cw x.cu x.dp x.lU x.cZ x.eU x.bh x.skip x.dJ x.vP x.eQ x.out x.bX now up) (DX c R H 1 64 x):=by
 have hpl:=hp.dp hE hJ ho;have hrl:=hpl.rl;have hz1:=hz.1;have hz2:=hz.2.1;have hz3:=hz.2.2;unfold iL;refine Wl.mP (P:=fun y=>∃l s,y={x with l:=l,cw:=s}/\Cv c R H x.c x.d_ l s/\s.jg=true/\s.bH=true/\Al c R s.pk s.eL s.At x.dp/\x.l.l<+:l.l/\l.l.length<=x.l.l.length+1) ?_ ?_
 .cases hc:x.cw.bH with
  |false=>
   rw[vW (by omega) (Bz ho hc)]
   exact Wl.some (x:={x with l:=.mk (x.l.l++[(4,x.cw.U,0,0)]),cw:=(x.cw.U,x.cw.pk,true,x.cw.eL,x.cw.At,x.cw.fC,x.cw.oe,true,x.cw.og)})
    ⟨_,_,rfl,hJ.XK ho hc,rfl,rfl,hp,gS _ _,by simp⟩
  |true=>exact Wl.some (x:=x) ⟨x.l,x.cw,rfl,hJ,ho,hc,hp,cE,by omega⟩
 .rintro _ ⟨l,s,rfl,h1,h2,h3,h4,h5,h6⟩;dsimp only;rw[pX (n:=(x.dp.aY.l.length:Int)-1) (by omega) (by omega)];refine Wc.Aq ((I0 (x:={x with l:=l,cw:=s,cu:=5}) hE h1 h2 h3 h4 rfl hs hN ⟨by show l.l.length<=_;omega,by show x.bX.l.length<=_;omega,by show x.out.l.length<=_;omega⟩ (k:=(x.dp.aY.l.length:Int)-1) ⟨by omega,by show _<(x.dp.aY.l.length:Int);omega⟩).mono ?_);rintro y ⟨a,b,d,e⟩;exact⟨a,b,d,h5.trans e.pW,by have:=e.l;have:y.l.l.length<=l.l.length+0:=this;omega,by have:=e.e;have:y.bX.l.length<=x.bX.l.length+0:=this;omega,e.o⟩
theorem TX{s:af}{dp:am}{lU:Int}{w:Mp Int aa}{sk:Int}(ho:s.jg=true)(hp:Al c R s.pk s.eL s.At dp)(ha:s.fC=lU+1)(hk:0<=lU/\lU<dp.aY.l.length)(h1:s.oe=false)(h2:s.bH=false)(hs:M8 sk)(hw:Ca w)
  (hwk:∀e∈w.es,e.2.1.U=s.U/\e.2.1.Rd=lU) (hwh:∀e∈w.es,∀h∈H,h.u=e.2.1.U->h.rd=e.2.1.Rd->h.sw=e.2.1.Sw->h.cw=e.2.1.T2):Ao c R H s 2 dp lU w sk:=
 ⟨by decide,hs,fun h=>absurd h (by decide),fun _ _=>⟨ho,hp⟩,fun h=>absurd h (by decide),fun _=>⟨ha,hk,h1,h2⟩,fun h=>absurd h (by decide),fun h=>absurd h (by decide),hw,fun e he _=>⟨rfl,hwk e he⟩,fun e he _=>hwh e he⟩
theorem VV(hE:gV c R)(hJ:Jv c R H x)(ho:x.cw.jg=true)(hp:Al c R x.cw.pk x.cw.eL x.cw.At x.dp)(hs:M8 x.skip)(hN:kr x.out)(hz:Sm 7000 x)
  (h1:x.cw.oe=false) (h2:x.cw.bH=false) {k:Int} (ha:x.cw.fC=k) (hk:0<=k/\k<x.dp.aY.l.length):
  Wc (rb x.c x.d_ x.l x.cw x.cu x.dp x.lU x.cZ x.eU x.bh x.skip x.dJ x.vP x.eQ x.out x.bX now k up) (DX c R H 1 64 x):=by
 have hpl:=hp.dp hE hJ ho;have hrl:=hpl.rl;have hsw:=hE.sw;have hz1:=hz.1;have hz2:=hz.2.1;have hz3:=hz.2.2;obtain⟨hl,hs8⟩:=hpl.sw (gt x.dp.aY.l k.toNat) (by rw[cU (by omega)];exact aX _);unfold rb;rw[jq (i:=k) (n:=x.dp.aY.l.length) hk.1 hk.2];simp only[ad];refine Wq.mP (VW hl fun s h=>by have:=hs8 s h;omega) ?_;rintro _ ⟨t,b,rfl,ht⟩;dsimp only;cases b with
 |false=>exact Wc.Aq (DR hE hJ ho hp hs hN ⟨by omega,by omega,by omega⟩)
 |true=>
  show Wc (Option.bind _ _) _;subst ha;rw[vW (by omega) (H5 ho h1 h2 (by omega))];dsimp only[ad];rw[jq (i:=x.cw.fC) (n:=x.dp.aY.l.length) hk.1 hk.2];simp only[ad];refine Wq.mP (RS (p:=x.dp) hl (fun s h=>by have:=hs8 s h;omega) (ht rfl) (by omega)) ?_;rintro ms ⟨g1,g2⟩;have hJ':=hJ.BJ ho h1 h2 (by omega);have hask:Ask ms.l:=⟨by omega,fun m hm=>⟨(g2 m hm).2.2.2,by rw[(g2 m hm).2.2.1];omega⟩⟩
  refine Wc.Aq ((Mk (x:={x with l:=.mk (x.l.l++[(2,x.cw.U,x.cw.fC,0)]),cw:=(x.cw.U,x.cw.pk,true,x.cw.eL,x.cw.At,x.cw.fC+1,x.cw.oe,x.cw.bH,x.cw.og),cu:=2,lU:=x.cw.fC}) (now:=now) hask (by show x.out.l.length<_;omega)).mono ?_);rintro _ ⟨o,w,rfl,hw,hm,hnil,hlen,hout⟩;refine⟨hJ',TX rfl hp rfl hk h1 h2 hs hw (fun e he=>⟨(g2 _ (hm e he)).2.1,(g2 _ (hm e he)).2.2.1⟩) (fun e he a ha hu hr=>?_),zB hN hout,?_⟩
  .exfalso;have:=(hJ.Ol a ha).2 (hu.trans (g2 _ (hm e he)).2.1) ho;rw[hr,(g2 _ (hm e he)).2.2.1]at this;exact absurd this (by omega)
  .exact ⟨gS _ _,by simp,by show x.bX.l.length<=_;omega,hlen⟩
theorem w8{s:af}{dp:am}{lU:Int}{w:Mp Int aa}{sk:Int}(ho:s.jg=false)(hs:M8 sk)(hw:Ca w)(hn:yQ w):Ao c R H s 0 dp lU w sk:=⟨by decide,hs,fun _=>ho,fun h _=>absurd rfl h,fun h=>absurd h (by decide),fun h=>absurd h (by decide),fun h=>absurd h (by decide),fun h=>absurd h (by decide),hw,fun e he h=>absurd h (hn e he),fun e he h=>absurd h (hn e he)⟩
theorem Dq{s:af}{ph:Int}(hph:ph=3\/ph=4){dp:am}{lU:Int}{w:Mp Int aa}{sk:Int}(ho:s.jg=true)(h1:s.oe=true)(h2:s.bH=false)(hp:Al c R s.pk s.eL s.At dp)(hs:M8 sk)(hw:Ca w)(hn:yQ w):Ao c R H s ph dp lU w sk:=⟨by omega,hs,fun h=>absurd h (by omega),fun _ _=>⟨ho,hp⟩,fun h=>absurd h (by omega),fun h=>absurd h (by omega),fun _=>⟨h1,h2⟩,fun h=>absurd h (by omega),hw,fun e he h=>absurd h (hn e he),fun e he h=>absurd h (hn e he)⟩
theorem RD(hE:gV c R)(hJ:Jv c R H x)(hI:Inv c R H x)(hw:x.cZ.es=[])(hN:kr x.out)(hz:Sm 7000 x):
  Wc (pF x.c x.d_ x.l x.cw x.cu x.dp x.lU x.cZ x.eU x.bh x.skip x.dJ x.vP x.eQ x.out x.bX now up) (DX c R H 1 64 x):=by
 have hz1:=hz.1;have hz2:=hz.2.1;have hz3:=hz.2.2;have hnw:yQ x.cZ:=fun e he=>by rw[hw]at he;exact(aW he).elim
 have hO:Ak x:=fun m hm h=>absurd h (hN m hm);unfold pF;refine Wc.cond (fun hb=>?_) fun hb1=>Wc.cond (fun hb=>?_) fun hb2=>Wc.cond (fun hb=>?_) fun hb3=>Wc.cond (fun hb=>?_) fun _=>?_
 .have hph:x.cu=1:=eq_of_beq hb;obtain⟨ho,hp⟩:=hI.Oo (by omega) (by omega);obtain⟨h1,h2,h3⟩:=hI.p1 hph;have:=(hp.dp hE hJ ho).rl;exact Wc.Aq (VV hE hJ ho hp hI.Ka hN hz h2 h3 h1 ⟨by omega,by omega⟩)
 .have hph:x.cu=2:=eq_of_beq hb;obtain⟨ho,hp⟩:=hI.Oo (by omega) (by omega);obtain⟨h1,h4,h2,h3⟩:=hI.p2 hph;have:=(hp.dp hE hJ ho).rl;rw[pX (n:=x.lU+1) (by omega) (by omega)];refine Wc.cond (fun hb=>?_) fun _=>?_
  .have hlt:x.lU+1<x.dp.aY.l.length:=of_decide_eq_true hb;exact Wc.Aq (VV hE hJ ho hp hI.Ka hN hz h2 h3 h1 ⟨by omega,hlt⟩)
  .rw [vW (by omega) (E7 ho h2 h3 (by omega))]
   exact Wc.some (x:={x with l:=.mk (x.l.l++[(3,x.cw.U,0,0)]),cw:=(x.cw.U,x.cw.pk,true,x.cw.eL,x.cw.At,x.cw.fC,true,x.cw.bH,x.cw.og),cu:=3})
    ⟨hJ.aci ho h2 h3 (by omega),Dq (.inl rfl) rfl rfl h3 hp hI.Ka hI.OA hnw,hO,gS _ _,by simp,by show x.bX.l.length<=_;omega,by show x.out.l.length<=_;omega⟩
 .have hph:x.cu=4:=eq_of_beq hb;obtain⟨ho,hp⟩:=hI.Oo (by omega) (by omega);obtain⟨h1,h2⟩:=hI.p3 (.inr hph);rw[vW (by omega) (By ho h1 h2)];simp only[ad];obtain⟨e,he,hn⟩:=Gu (x:={x with l:=.mk (x.l.l++[(5,x.cw.U,0,0)]),cw:=(x.cw.U,x.cw.eL,false,0,0,0,false,false,x.cw.og)}) (now:=now) (k:=9) (sw:=0) (a:=x.cw.eL) (b:=0) (by show x.bX.l.length<_;omega);dsimp only at hn
  erw[hn]
  exact Wc.some (x:={x with l:=.mk (x.l.l++[(5,x.cw.U,0,0)]),cw:=(x.cw.U,x.cw.eL,false,0,0,0,false,false,x.cw.og),bX:=e,cu:=0,bh:=-1,dJ:=-1})
   ⟨hJ.XC ho h1 h2,w8 rfl hI.Ka hI.OA hnw,hO,gS _ _,by simp,by show e.l.length<=_;rw[he];exact aq _,by show x.out.l.length<=_;omega⟩
 .have hph:x.cu=5:=eq_of_beq hb;exact Wc.some (x:={x with bh:=wr .i64 (wr .i64 (now+x.dp.Am)+1)}) ⟨hJ,hI,hO,cE,aO _,aO _,bN _ _⟩
 .exact Wc.some (x:=x) ⟨hJ,hI,hO,cE,aO _,aO _,bN _ _⟩
theorem Mj(hJ:Jv c R H x)(hI:Inv c R H x)(hN:kr x.out)(hz:Sm 9000 x):
  Wc (n_ x.c x.d_ x.l x.cw x.cu x.dp x.lU x.cZ x.eU x.bh x.skip x.dJ x.vP x.eQ x.out x.bX now) (DX c R H 0 64 x):=by
 have hz3:=hz.2.2;have hO:Ak x:=fun m hm h=>absurd h (hN m hm);unfold n_;refine Wq.mP (P:=fun r=>∃b,r=(b,x.lp)) ?_ ?_
 .refine Wq.cond (fun _=>?_) (fun _=>Wq.some ⟨false,rfl⟩);obtain⟨b,hb⟩:=RE (x:=x) (now:=now) (at':=x.eU);rw[hb];exact Wq.some ⟨b,rfl⟩
 .rintro _ ⟨b,rfl⟩;dsimp only;refine Wc.cond (fun _=>?_) (fun _=>Wc.some ⟨hJ,hI,hO,cE,aq _,aq _,bN _ _⟩);refine Wc.Aq ((I1 hI.OA (by omega)).mono ?_);rintro _ ⟨o,rfl,h1,h2⟩;exact⟨hJ,hI,zB hN h2,cE,aq _,aq _,h1⟩
end
end Go.Proofs.YtoekkpmeeclpeaaGreat.S
