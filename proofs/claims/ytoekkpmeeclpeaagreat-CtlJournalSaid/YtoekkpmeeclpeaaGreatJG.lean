/- The controller: plans, aims, who is concerned, parts. Conditions: as stated. -/
import Derived.Test.YtoekkpmeeclpeaaGreatJD
import Derived.Test.YtoekkpmeeclpeaaGreatLD
open List renaming getElem_mem->aZ,length_append->aA,length_singleton->aR,mem_append->aG,mem_iff_getElem->gy,mem_singleton->az,not_mem_nil->aX,prefix_append->h_,prefix_rfl->ct
open Nat renaming le_add_right->bN,le_refl->aq,le_succ->aO
open Option renaming bind_some->af
open Go.Ev Go
namespace Go.Proofs.YtoekkpmeeclpeaaGreat.S
structure EE(n:Int)(p:am):Prop where
 rl:0<p.aV.l.length/\p.aV.l.length<=8
 sw:∀r∈p.aV.l,r.pT.l.length<=8/\∀s∈r.pT.l,0<=s/\s<n
 mv:p.JS.l.length<=1000/\∀m∈p.JS.l,0<=m.2.1/\m.2.1<=255
theorem Uu{t:ao}{old now:Sl (Sl Int)}(hN:mY t now){a b c:Int}{p:am}(h:acv t old now a b c p 0):EE t.au p:=by
 by_cases hm:wy t old now=[]
 .exact absurd (h.none hm).2 (by decide)
 obtain⟨s,R,hs,hR,h0,h⟩:=h.aal hm;rcases h with⟨_,_,h⟩|⟨_,rfl,_⟩
 .exact absurd h (by decide)
 have hV:=hN.1.EP.sw;have hsw:∀r∈R.l,∀x∈r.pT.l,0<=x/\x<t.au:=fun r hr x hx=>by obtain⟨i,hi,rfl⟩:=gy.1 hr;have:=hR.sws i hi;rw[dc hi]at this;obtain⟨m,hm,_,rfl⟩:=(this.AA x).1 hx;obtain⟨h,s,_,hs,_,rfl⟩:=Ax.1 (KP.1 hm);have hl:=hN.1.len;exact⟨by show(0:Int)<=(s:Int);omega,by show(s:Int)<_;omega⟩
 refine⟨⟨h0,hR.len hN⟩,fun r hr=>⟨?_,hsw r hr⟩,?_⟩
 .obtain ⟨i,hi,rfl⟩:=gy.1 hr;have:=hR.sws i hi;rw[dc hi]at this;exact G9 this.YJ fun x hx=>by have:=hsw _ (aZ hi) x hx;omega
 .show s.l.length<=1000/\∀m∈s.l,_;rw[hs];exact⟨by have:=KQ (old:=old) hN;omega,Um hN⟩
section
variable{x:Cx}{now up:Int}
theorem Wz{r:aQ}(hr:r.pT.l.length<=8)(hs:∀s∈r.pT.l,0<=s/\s<8):
  Wq (nv x.c x.dF x.l x.cF x.cq x.dx x.mK x.di x.fy x.bi x.skip x.dT x.wV x.eY x.out x.bX r) fun t=>∃s b,t=(s,b,x.tu)/\(b=true->s.l.length=r.pT.l.length):=by
 unfold nv;refine Wq.bind (P:=fun q=>q=.inl false\/∃s:Sl Int,q=.inr s/\s.l.length=r.pT.l.length) ?_ ?_
 .refine Wq.up r.pT.l.length (by omega) (fun i s=>s.l.length=i) rfl ?_;rintro i s hi hl;dsimp only[t_];refine Wq.cond (fun hb=>?_) (fun hb=>Wq.some (.inr ⟨s,rfl,?_⟩))
  .have hlt:i<r.pT.l.length:=by have:=of_decide_eq_true hb;omega
   rw[bV hlt];simp only[af];have:=hs (gt r.pT.l i) (by rw[dc hlt];exact aZ _);rw[jq this.1 (by omega)];simp only[af];refine YR.bind ?_;rintro⟨a,b,d⟩ _;refine Wq.cond (fun _=>Wq.some (.inl rfl)) (fun _=>?_);rw[qz (by rw[aA,aR];omega)];exact Wq.some ⟨_,rfl,hlt,by simp;omega⟩
  .have:¬(i:Int)<(r.pT.l.length:Int):=of_decide_eq_false hb;omega
 .rintro _ (rfl|⟨s,rfl,h⟩)
  .exact Wq.some ⟨_,_,rfl,fun h=>nomatch h⟩
  .exact Wq.some ⟨_,_,rfl,fun _=>h⟩
theorem xV{p:am}{n:Int}(hp:EE n p)(hn:n<=8):Tt (jb p):=by
 unfold jb;have hr:=hp.rl;refine Wq.bind (P:=fun _=>True) ?_ (fun r _=>by obtain⟨a,b⟩:=r;exact Wq.some trivial);refine Wq.loop (fun a=>p.aV.l.length-a.2.1.toNat) (fun a=>0<=a.2.1/\a.2.1<=p.aV.l.length) ⟨by simp,by simp⟩ ?_;rintro⟨a,i,v⟩ ⟨h0,h1⟩;dsimp only[nP]at h0 h1|-;refine Wq.cond (fun hb=>?_) (fun _=>Wq.some trivial);have hlt:i<p.aV.l.length:=of_decide_eq_true hb;rw[jq h0 hlt];simp only[af];obtain⟨hl,hs⟩:=hp.sw (gt p.aV.l i.toNat) (by rw[dc (by omega)];exact aZ _);refine Wq.bind (P:=fun _=>True) ?_ ?_
 .refine Wq.loop (fun a=>(gt p.aV.l i.toNat).pT.l.length-a.2.1.toNat) (fun a=>0<=a.2.1/\a.2.1<=(gt p.aV.l i.toNat).pT.l.length) ⟨by simp,by simp⟩ ?_;rintro⟨b,k,u⟩ ⟨k0,k1⟩;dsimp only[nQ]at k0 k1|-;refine Wq.cond (fun hb=>?_) (fun _=>Wq.some trivial);have hk:k<(gt p.aV.l i.toNat).pT.l.length:=of_decide_eq_true hb;rw[jq k0 hk];simp only[af];obtain⟨s0,s1⟩:=hs (gt (gt p.aV.l i.toNat).pT.l k.toNat) (by rw[dc (l:=(gt p.aV.l i.toNat).pT.l) (by omega)];exact aZ _);rw[Bl s0,jq s0 (by omega),Bl h0];refine Wq.some ⟨?_,?_⟩
  .show 0<=wr .i64 (k+1)/\wr .i64 (k+1)<=_;rw[pZ (by omega) (by omega)];omega
  .show _-(wr .i64 (k+1)).toNat<_;rw[pZ (by omega) (by omega)];omega
 .rintro ⟨a',v'⟩ _;refine Wq.some ⟨?_,?_⟩
  .show 0<=wr .i64 (i+1)/\wr .i64 (i+1)<=_;rw[pZ (by omega) (by omega)];omega
  .show _-(wr .i64 (i+1)).toNat<_;rw[pZ (by omega) (by omega)];omega
theorem NV{p:am}{n:Int}(hp:EE n p)(k:Int):Wq (rj p k) fun s=>s.l.length<=8/\∀q∈s.l,0<=q.1/\q.1<n:=by
 unfold rj;refine Wq.cond (fun _=>Wq.some ⟨by simp,fun _ h=>(aX h).elim⟩) fun hb=>?_;simp only[Bool.or_eq_false_iff,decide_eq_false_iff_not]at hb;obtain⟨k0,k1⟩:=hb;rw[jq (i:=k) (n:=p.aV.l.length) (by omega) (by omega)];simp only[af];obtain⟨hl,hs⟩:=hp.sw (gt p.aV.l k.toNat) (by rw[dc (by omega)];exact aZ _);refine Wq.A8 ?_;refine Wq.up (gt p.aV.l k.toNat).pT.l.length (by omega) (fun i s=>s.l.length<=i/\∀q∈s.l,0<=q.1/\q.1<n) ⟨by simp,fun _ h=>(aX h).elim⟩ ?_;rintro i s hi ⟨hle,hq⟩;dsimp only[rI];refine Wq.cond (fun hb=>?_) (fun hb=>Wq.some ⟨by omega,hq⟩);have hlt:i<(gt p.aV.l k.toNat).pT.l.length:=by have:=of_decide_eq_true hb;omega
 rw[bV hlt,jq (i:=k) (n:=p.aV.l.length) (by omega) (by omega)];simp only[af];obtain⟨m,hm,_⟩:=Q4 (round:=(gt p.aV.l k.toNat).No) (sw:=gt (gt p.aV.l k.toNat).pT.l i) hp.mv.1 hp.mv.2;rw[hm];simp only[af];rw[qz (by rw[aA,aR];omega)];refine Wq.some ⟨_,rfl,hlt,by simp;omega,fun q hq'=>?_⟩;rcases aG.1 hq' with hq'|hq'
 .exact hq q hq'
 .rw [az.1 hq'];exact hs _ (by rw[dc hlt];exact aZ _)
theorem Lm{c:aj}{at':ad}{r1:Int}{r2:Arr 8 Int}(hs:0<=c.T.au/\c.T.au<=8):
  Wq (aU (lc c at' r1 r2) (0,Sl.nil)) fun s=>s.l.length<=8/\∀m∈s.l,m.cY=6/\m.Rd=0/\(0<=m.Sw/\m.Sw<8):=by
 refine Wq.up c.T.au.toNat (by omega) (fun i s=>s.l.length<=i/\∀m∈s.l,m.cY=6/\m.Rd=0/\(0<=m.Sw/\m.Sw<8)) ⟨by simp,fun _ h=>(aX h).elim⟩ ?_;rintro i s hi ⟨hle,hq⟩;dsimp only[lc];refine Wq.cond (fun hb=>?_) (fun hb=>Wq.some ⟨by omega,hq⟩);have hlt:(i:Int)<c.T.au:=of_decide_eq_true hb;rw[Bh (by omega)];simp only[af];refine Wq.bind (P:=fun s=>s.l.length<=i+1/\∀m∈s.l,m.cY=6/\m.Rd=0/\(0<=m.Sw/\m.Sw<8)) ?_ fun s' h=>Wq.some ⟨_,rfl,by omega,h⟩;refine Wq.cond (fun _=>?_) fun _=>Wq.some ⟨by omega,hq⟩;rw[jq (i:=(i:Int)) (n:=8) (by omega) (by omega)];simp only[af];rw[qz (by rw[aA,aR];omega)];refine Wq.some ⟨by simp;omega,fun q hq'=>?_⟩;rcases aG.1 hq' with hq'|hq'
 .exact hq q hq'
 .rw [az.1 hq'];exact⟨rfl,rfl,by show 0<=(i:Int);omega,by show(i:Int)<8;omega⟩
theorem SK{k:Int}{t:Sl Int}{s':ad}{p:am}{n:Nat}(hl:(gt p.aV.l n).pT.l.length<=8)(hs:∀s∈(gt p.aV.l n).pT.l,0<=s/\s<8)(ht:t.l.length=(gt p.aV.l n).pT.l.length)(hk:0<=k/\k<8):
  Wq (aU (qx k t s' p n) (0,Sl.nil)) fun s=>s.l.length<=8/\∀m∈s.l,m.cY=4/\m.U=s'.U/\m.Rd=k/\(0<=m.Sw/\m.Sw<8):=by
 refine Wq.up (gt p.aV.l n).pT.l.length (by omega) (fun i s=>s.l.length<=i/\∀m∈s.l,m.cY=4/\m.U=s'.U/\m.Rd=k/\(0<=m.Sw/\m.Sw<8)) ⟨by simp,fun _ h=>(aX h).elim⟩ ?_;rintro i s hi ⟨hle,hq⟩;dsimp only[qx];refine Wq.cond (fun hb=>?_) (fun hb=>Wq.some ⟨by omega,hq⟩);have hlt:i<(gt p.aV.l n).pT.l.length:=by have:=of_decide_eq_true hb;omega
 rw[bV hlt,bV (n:=t.l.length) (by omega)];simp only[af];rw[qz (by rw[aA,aR];omega)];refine Wq.some ⟨_,rfl,hlt,by simp;omega,fun q hq'=>?_⟩;rcases aG.1 hq' with hq'|hq'
 .exact hq q hq'
 .rw [az.1 hq'];exact⟨rfl,rfl,rfl,hs _ (by rw[dc hlt];exact aZ _)⟩
end
end Go.Proofs.YtoekkpmeeclpeaaGreat.S
open Go.Ev Go
namespace Go.Proofs.YtoekkpmeeclpeaaGreat.S
structure ie(c:aj)(R:Sl (Sl (Sl Int))):Prop where
 sw:0<=c.T.au/\c.T.au<=8
 UN:∀r∈R.l,mY c.T r
 len:0<R.l.length/\R.l.length<=16
 wide:0<=c.vi/\c.vi<=65536
 fE:0<=c.yH/\c.yH<=65536
def A5(c:aj)(R:Sl (Sl (Sl Int)))(now target at':Int)(p:am):Prop:=kV c.T (gt R.l now.toNat) (gt R.l target.toNat) at' (2*c.vi+2) c.yH=some (p,0)
section
variable{c:aj}{R:Sl (Sl (Sl Int))}{x:Cx}{now up:Int}
theorem Q9(h:ie c R):vv c.vi=some (2*c.vi+2):=by have:=h.wide;unfold vv;rw[if_neg (c:=(0:Int)>c.vi) (by omega),if_neg (by omega),pZ (n:=2*c.vi) (by omega) (by omega),pZ (by omega) (by omega)]
theorem Dw(h:ie c R){a b t:Int}(ha:0<=a/\a<R.l.length)(hb:0<=b/\b<R.l.length)(ht:0<=t/\t<=1099511627776):
  ∃p e,kV c.T (gt R.l a.toNat) (gt R.l b.toNat) t (2*c.vi+2) c.yH=some (p,e)/\(e=0->EE c.T.au p):=by
 have hg:∀i:Int,0<=i/\i<R.l.length->mY c.T (gt R.l i.toNat):=fun i hi=>h.UN _ (by rw[dc (by omega)];exact aZ _);have h1:=h.wide;have h2:=h.fE;obtain⟨p,e,hp,hm⟩:=Ol (hg a ha) (hg b hb) (at':=t) (miss:=2*c.vi+2) (fE:=c.yH) ⟨ht,by omega,by omega⟩;exact⟨p,e,hp,fun he=>by subst he;exact Uu (hg b hb) hm⟩
theorem IU(h:ie c R)(hc:x.c=c)(hR:x.dF=R)(hn:0<=x.cF.pU/\x.cF.pU<R.l.length){b t:Int}(hb:0<=b/\b<R.l.length):
  lM x.c x.dF x.l x.cF x.cq x.dx x.mK x.di x.fy x.bi x.skip x.dT x.wV x.eY x.out x.bX b t=
  (kV c.T (gt R.l x.cF.pU.toNat) (gt R.l b.toNat) t (2*c.vi+2) c.yH).bind fun(p,e)=>some (p,e,x.tu):=by
 unfold lM;rw[hc,hR];rw[jq hn.1 hn.2];simp only[af];rw[jq hb.1 hb.2];simp only[af];rw[Q9 h];simp only[af];rw[<-hc,<-hR]
end
structure C6(c:aj)(R:Sl (Sl (Sl Int)))(H:List fN)(xc:aj)(xR:Sl (Sl (Sl Int)))(l:Sl ai)(s:ad):Prop where
 hc:xc=c
 hR:xR=R
 jr:x5 l.l s
 u:0<=s.U/\s.U<=65535
 out:M8 s.oD
 now:0<=s.pU/\s.pU<R.l.length
 op:s.jz=true->(0<=s.eQ/\s.eQ<R.l.length)/\(0<=s.At/\s.At<=1099511627776)/\(0<=s.f9/\s.f9<=8)/\∃p,A5 c R s.pU s.eQ s.At p
 Ph:∀h∈H,h.u<=s.U/\(h.u=s.U->s.jz=true->h.rd<s.f9)
abbrev Jv(c:aj)(R:Sl (Sl (Sl Int)))(H:List fN)(x:Cx):Prop:=C6 c R H x.c x.dF x.l x.cF
structure A6(c:aj)(R:Sl (Sl (Sl Int)))(H:List fN)(s:ad)(cq:Int)(dx:am)(mK:Int)(di:Mp Int aa)(skip:Int):Prop where
 ph:0<=cq/\cq<=6
 Mk:M8 skip
 UH:cq=0->s.jz=false
 Pj:cq≠0->cq≠6->s.jz=true/\A5 c R s.pU s.eQ s.At dx
 p1:cq=1->s.f9=0/\s.oU=false/\s.bH=false
 p2:cq=2->s.f9=mK+1/\(0<=mK/\mK<dx.aV.l.length)/\s.oU=false/\s.bH=false
 p3:cq=3\/cq=4->s.oU=true/\s.bH=false
 p5:cq=5->s.bH=true/\(0<=mK/\mK<dx.aV.l.length)
 S6:C4 di
 wk:∀e∈di.es,e.2.1.cY=4->cq=2/\e.2.1.U=s.U/\e.2.1.Rd=mK
 wh:∀e∈di.es,e.2.1.cY=4->∀h∈H,h.u=e.2.1.U->h.rd=e.2.1.Rd->h.sw=e.2.1.Sw->h.cF=e.2.1.T2
abbrev Inv(c:aj)(R:Sl (Sl (Sl Int)))(H:List fN)(x:Cx):Prop:=A6 c R H x.cF x.cq x.dx x.mK x.di x.skip
def A4(x:Cx):Prop:=∀m∈x.out.l,m.cY=4->∃e∈x.di.es,e.2.1=m
structure Sz(a b:Nat)(x y:Cx):Prop where
 qi:x.l.l<+:y.l.l
 l:y.l.l.length<=x.l.l.length+a
 e:y.bX.l.length<=x.bX.l.length+a
 o:y.out.l.length<=x.out.l.length+b
def Sm(n:Nat)(x:Cx):Prop:=x.l.l.length<=n/\x.bX.l.length<=n/\x.out.l.length<=n
theorem Sz.mono{a b a' b':Nat}{x y:Cx}(h:Sz a b x y)(h1:a<=a')(h2:b<=b'):Sz a' b' x y:=⟨h.qi,by have:=h.l;omega,by have:=h.e;omega,by have:=h.o;omega⟩
structure F8(c:aj)(R:Sl (Sl (Sl Int)))(H:List fN)(a b:Nat)(x y:Cx):Prop where
 jv:Jv c R H y
 inv:Inv c R H y
 out:A4 y
 sz:Sz a b x y
section
variable{c:aj}{R:Sl (Sl (Sl Int))}{H:List fN}{xc:aj}{xR:Sl (Sl (Sl Int))}{l:Sl ai}{s:ad}
theorem C6.Yg(h:C6 c R H xc xR l s)(h1:s.jz=true)(h3:s.bH=false):C6 c R H xc xR (.mk (l.l++[(4,s.U,0,0)])) (s.U,s.pU,true,s.eQ,s.At,s.f9,s.oU,true,s.oD):=⟨h.hc,h.hR,.Bg h.jr (B8 h1 h3),h.u,h.out,h.now,fun _=>h.op h1,fun a ha=>⟨(h.Ph a ha).1,fun e _=>(h.Ph a ha).2 e h1⟩⟩
theorem C6.acT(h:C6 c R H xc xR l s)(h1:s.jz=true)(h2:s.oU=false)(h3:s.bH=false)(h4:0<s.f9):C6 c R H xc xR (.mk (l.l++[(3,s.U,0,0)])) (s.U,s.pU,true,s.eQ,s.At,s.f9,true,s.bH,s.oD):=⟨h.hc,h.hR,.Bg h.jr (FJ h1 h2 h3 h4),h.u,h.out,h.now,fun _=>h.op h1,fun a ha=>⟨(h.Ph a ha).1,fun e _=>(h.Ph a ha).2 e h1⟩⟩
theorem C6.acn(h:C6 c R H xc xR l s)(h1:s.jz=true)(h2:s.oU=false)(h3:s.bH=false)(h4:0<=s.f9/\s.f9<8):C6 c R H xc xR (.mk (l.l++[(2,s.U,s.f9,0)])) (s.U,s.pU,true,s.eQ,s.At,s.f9+1,s.oU,s.bH,s.oD):=
 ⟨h.hc,h.hR,.Bg h.jr (IJ h1 h2 h3 h4),h.u,h.out,h.now,fun _=>by
  obtain⟨a,b,_,d⟩:=h.op h1;exact⟨a,b,⟨by show 0<=s.f9+1;omega,by show s.f9+1<=8;omega⟩,d⟩,fun a ha=>⟨(h.Ph a ha).1,fun e _=>by
  have:=(h.Ph a ha).2 e h1;show a.rd<s.f9+1;omega⟩⟩
theorem C6.X9(h:C6 c R H xc xR l s)(h1:s.jz=true)(h2:s.oU=true)(h3:s.bH=false):C6 c R H xc xR (.mk (l.l++[(5,s.U,0,0)])) (s.U,s.eQ,false,0,0,0,false,false,s.oD):=⟨h.hc,h.hR,.Bg h.jr (B7 h1 h2 h3),h.u,h.out,(h.op h1).1,(fun e=>nomatch e),fun a ha=>⟨(h.Ph a ha).1,fun _ e=>nomatch e⟩⟩
theorem C6.WX(h:C6 c R H xc xR l s)(h1:s.jz=true)(h3:s.bH=true){a:Int}(h4:M8 a):C6 c R H xc xR (.mk (l.l++[(6,s.U,a,0)])) (s.U,s.pU,false,0,0,0,false,false,a):=⟨h.hc,h.hR,.Bg h.jr (B6 h1 h3 h4),h.u,h4,h.now,(fun e=>nomatch e),fun a ha=>⟨(h.Ph a ha).1,fun _ e=>nomatch e⟩⟩
theorem C6.TO(h:C6 c R H xc xR l s)(h1:s.jz=false){a:Int}(h4:0<=a/\a<8)(h2:qO .i64 (oT .i64 s.oD a) 1=1):C6 c R H xc xR (.mk (l.l++[(7,s.U,a,0)])) (s.U,s.pU,s.jz,s.eQ,s.At,s.f9,s.oU,s.bH,gC .i64 s.oD (te .i64 1 a)):=⟨h.hc,h.hR,.Bg h.jr (Av h1 h4 h2),h.u,h.out.ab9,h.now,h.op,h.Ph⟩
theorem C6.ack(h:C6 c R H xc xR l s)(hE:ie c R)(h1:s.jz=false)(h2:s.oD=0)(h3:s.U<65535){k t:Int}(hk:0<=k/\k<R.l.length)(ht:0<=t/\t<=1099511627776){p:am}(hp:A5 c R s.pU k t p):
  C6 c R H xc xR (.mk (l.l++[(1,s.U+1,k,t)])) (s.U+1,s.pU,true,k,t,0,false,false,0):=by
 have hu:=h.u;have hr:=hE.len
 exact⟨h.hc,h.hR,.Bg h.jr (DJ h1 h2 (pZ (n:=s.U+1) (by omega) (by omega)).symm (by omega) (by omega)),⟨by show 0<=s.U+1;omega,by show s.U+1<=65535;omega⟩,⟨Int.le_refl 0,(by decide:(0:Int)<256)⟩,h.now,fun _=>⟨hk,ht,⟨by show(0:Int)<=0;omega,by show(0:Int)<=8;omega⟩,p,hp⟩,
  fun a ha=>⟨by have:=(h.Ph a ha).1;show a.u<=s.U+1;omega,fun e=>by have:=(h.Ph a ha).1;have e:a.u=s.U+1:=e;omega⟩⟩
theorem A5.dx(hE:ie c R)(h:C6 c R H xc xR l s)(ho:s.jz=true){p:am}(hp:A5 c R s.pU s.eQ s.At p):EE c.T.au p:=by obtain⟨ht,ha,_,_⟩:=h.op ho;obtain⟨q,e,h1,h2⟩:=Dw hE h.now ht ha;unfold A5 at hp;rw[hp]at h1;cases h1;exact h2 rfl
end
end Go.Proofs.YtoekkpmeeclpeaaGreat.S
open Go.Ev Go
namespace Go.Proofs.YtoekkpmeeclpeaaGreat.S
section
variable{c:aj}{R:Sl (Sl (Sl Int))}{H:List fN}{x:Cx}{now up:Int}
def zN(w:Mp Int aa):Prop:=∀e∈w.es,e.2.1.cY≠4
theorem Rw{s:ad}{dx:am}{mK:Int}{w:Mp Int aa}{sk:Int}(ho:s.jz=true)(hc:s.bH=true)(hp:A5 c R s.pU s.eQ s.At dx)
  (hk:0<=mK/\mK<dx.aV.l.length) (hs:M8 sk) (hw:C4 w) (hn:zN w):A6 c R H s 5 dx mK w sk:=
 ⟨by decide,hs,fun h=>absurd h (by decide),fun _ _=>⟨ho,hp⟩,fun h=>absurd h (by decide),fun h=>absurd h (by decide),fun h=>absurd h (by decide),fun _=>⟨hc,hk⟩,hw,fun e he h=>absurd h (hn e he),fun e he h=>absurd h (hn e he)⟩
theorem Aq{o:Sl aa}{w:Mp Int aa}(hN:kG x.out)(h:∀m∈o.l,m∈x.out.l\/∃e∈w.es,e.2.1=m):∀m∈o.l,m.cY=4->∃e∈w.es,e.2.1=m:=fun m hm hk=>by
 rcases h m hm with h|h
 .exact absurd hk (hN m h)
 .exact h
theorem JC(hE:ie c R)(hJ:Jv c R H x)(ho:x.cF.jz=true)(hc:x.cF.bH=true)(hp:A5 c R x.cF.pU x.cF.eQ x.cF.At x.dx)(hph:x.cq=5)(hs:M8 x.skip)(hN:kG x.out)(hz:Sm 9000 x)
  {k:Int} (hk:0<=k/\k<x.dx.aV.l.length):
  Wc (ju x.c x.dF x.l x.cF x.cq x.dx x.mK x.di x.fy x.bi x.skip x.dT x.wV x.eY x.out x.bX now k up) (F8 c R H 0 64 x):=by
 have hpl:=hp.dx hE hJ ho;have hsw:=hE.sw;obtain⟨hl,hs8⟩:=hpl.sw (gt x.dx.aV.l k.toNat) (by rw[dc (by omega)];exact aZ _);unfold ju;rw[jq (i:=k) (n:=x.dx.aV.l.length) hk.1 hk.2];simp only[af];refine Wq.nw (P:=fun t=>∃(sk:Int)(ms:Sl aa),t=(x.c,x.dF,x.cF,x.cq,x.dx,k,x.fy,(-1:Int),sk,x.dT,x.wV,x.eY,ms,x.l,x.di,x.out,x.bX)/\M8 sk/\ms.l.length<=8/\∀m∈ms.l,m.cY=5/\m.Rd=k/\(0<=m.Sw/\m.Sw<8)) ?_ ?_
 .refine Wq.up (gt x.dx.aV.l k.toNat).pT.l.length (by omega) (fun i t=>∃(sk:Int)(ms:Sl aa),t=(x.c,x.dF,x.cF,x.cq,x.dx,k,x.fy,(-1:Int),sk,x.dT,x.wV,x.eY,ms,x.l,x.di,x.out,x.bX)/\M8 sk/\ms.l.length<=i/\∀m∈ms.l,m.cY=5/\m.Rd=k/\(0<=m.Sw/\m.Sw<8)) ⟨x.skip,Sl.nil,rfl,hs,by simp,fun _ h=>(aX h).elim⟩ ?_;rintro i _ hi ⟨sk,ms,rfl,h1,h2,h3⟩;dsimp only[mU];refine Wq.cond (fun hb=>?_) (fun hb=>Wq.some ⟨sk,ms,rfl,h1,by omega,h3⟩);have hlt:i<(gt x.dx.aV.l k.toNat).pT.l.length:=by have:=of_decide_eq_true hb;omega
  rw[bV hlt];simp only[af];have hsx:=hs8 (gt (gt x.dx.aV.l k.toNat).pT.l i) (by rw[dc hlt];exact aZ _);rw[Bh hsx.1];simp only[af];refine Wq.bind (P:=fun t=>∃(sk:Int)(ms:Sl aa),t=(x.c,x.dF,x.cF,x.cq,x.dx,k,x.fy,(-1:Int),sk,x.dT,x.wV,x.eY,ms,x.l,x.di,x.out,x.bX)/\M8 sk/\ms.l.length<=i+1/\∀m∈ms.l,m.cY=5/\m.Rd=k/\(0<=m.Sw/\m.Sw<8)) ?_ ?_
  .refine Wq.cond (fun _=>?_) (fun _=>?_)
   .rw [Bl hsx.1];exact Wq.some ⟨_,ms,rfl,h1.bit hsx.1 (by omega),by omega,h3⟩
   .rw [qz (by rw[aA,aR];omega)];refine Wq.some ⟨sk,_,rfl,h1,by simp;omega,fun q hq=>?_⟩;rcases aG.1 hq with hq|hq
    .exact h3 q hq
    .rw [az.1 hq];exact⟨rfl,rfl,hsx.1,by show gt (gt x.dx.aV.l k.toNat).pT.l i<8;omega⟩
  .rintro _ ⟨sk,ms,rfl,h⟩;exact Wq.some ⟨_,rfl,hlt,sk,ms,rfl,h⟩
 .rintro _ ⟨sk,ms,rfl,h1,h2,h3⟩;dsimp only;have h8:=hpl.rl;have hask:Ask ms.l:=⟨by omega,fun m hm=>⟨(h3 m hm).2.2,by rw[(h3 m hm).2.1];omega⟩⟩
  refine Wc.nw (MZ (x:={x with mK:=k,bi:=-1,skip:=sk}) (now:=now) hask (by have:=hz.2.2;show x.out.l.length<_;omega)) ?_;rintro _ ⟨o,w,rfl,hw,hm,hnil,hlen,hout⟩;have hI:A6 c R H x.cF x.cq x.dx k w sk:=by rw[hph];exact Rw ho hc hp hk h1 hw fun e he=>by rw[(h3 _ (hm e he)).1];decide
  have hO:=Aq hN hout;refine Wc.cond (fun _=>?_) fun _=>?_
  .refine Wc.A8 ?_;dsimp only;rw[hph];refine⟨{x with mK:=k,bi:=wr .i64 (wr .i64 (now+x.dx.yG)+1),skip:=sk,di:=w,out:=o,fy:=now},by rw[<-hph];unfold mi;rw[hph];rfl,hJ,hI,hO,?_⟩;exact⟨ct,aq _,aq _,hlen⟩
  .exact ⟨{x with mK:=k,bi:=-1,skip:=sk,di:=w,out:=o,fy:=now},rfl,hJ,hI,hO,ct,aq _,aq _,hlen⟩
theorem Ew(hE:ie c R)(hJ:Jv c R H x)(ho:x.cF.jz=true)(hp:A5 c R x.cF.pU x.cF.eQ x.cF.At x.dx)(hs:M8 x.skip)(hN:kG x.out)(hz:Sm 8000 x):
  Wc (ik x.c x.dF x.l x.cF x.cq x.dx x.mK x.di x.fy x.bi x.skip x.dT x.wV x.eY x.out x.bX now up) (F8 c R H 1 64 x):=by
 have hpl:=hp.dx hE hJ ho;have hrl:=hpl.rl;have hz1:=hz.1;have hz2:=hz.2.1;have hz3:=hz.2.2;unfold ik;refine Wl.nw (P:=fun y=>∃l s,y={x with l:=l,cF:=s}/\C6 c R H x.c x.dF l s/\s.jz=true/\s.bH=true/\A5 c R s.pU s.eQ s.At x.dx/\x.l.l<+:l.l/\l.l.length<=x.l.l.length+1) ?_ ?_
 .cases hc:x.cF.bH with
  |false=>
   rw[wL (by omega) (B8 ho hc)]
   exact Wl.some (x:={x with l:=.mk (x.l.l++[(4,x.cF.U,0,0)]),cF:=(x.cF.U,x.cF.pU,true,x.cF.eQ,x.cF.At,x.cF.f9,x.cF.oU,true,x.cF.oD)})
    ⟨_,_,rfl,hJ.Yg ho hc,rfl,rfl,hp,h_ _ _,by simp⟩
  |true=>exact Wl.some (x:=x) ⟨x.l,x.cF,rfl,hJ,ho,hc,hp,ct,by omega⟩
 .rintro _ ⟨l,s,rfl,h1,h2,h3,h4,h5,h6⟩;dsimp only;rw[pZ (n:=(x.dx.aV.l.length:Int)-1) (by omega) (by omega)];refine Wc.A8 ((JC (x:={x with l:=l,cF:=s,cq:=5}) hE h1 h2 h3 h4 rfl hs hN ⟨by show l.l.length<=_;omega,by show x.bX.l.length<=_;omega,by show x.out.l.length<=_;omega⟩ (k:=(x.dx.aV.l.length:Int)-1) ⟨by omega,by show _<(x.dx.aV.l.length:Int);omega⟩).mono ?_);rintro y ⟨a,b,d,e⟩;exact⟨a,b,d,h5.trans e.qi,by have:=e.l;have:y.l.l.length<=l.l.length+0:=this;omega,by have:=e.e;have:y.bX.l.length<=x.bX.l.length+0:=this;omega,e.o⟩
theorem UA{s:ad}{dx:am}{mK:Int}{w:Mp Int aa}{sk:Int}(ho:s.jz=true)(hp:A5 c R s.pU s.eQ s.At dx)(ha:s.f9=mK+1)(hk:0<=mK/\mK<dx.aV.l.length)(h1:s.oU=false)(h2:s.bH=false)(hs:M8 sk)(hw:C4 w)
  (hwk:∀e∈w.es,e.2.1.U=s.U/\e.2.1.Rd=mK) (hwh:∀e∈w.es,∀h∈H,h.u=e.2.1.U->h.rd=e.2.1.Rd->h.sw=e.2.1.Sw->h.cF=e.2.1.T2):A6 c R H s 2 dx mK w sk:=
 ⟨by decide,hs,fun h=>absurd h (by decide),fun _ _=>⟨ho,hp⟩,fun h=>absurd h (by decide),fun _=>⟨ha,hk,h1,h2⟩,fun h=>absurd h (by decide),fun h=>absurd h (by decide),hw,fun e he _=>⟨rfl,hwk e he⟩,fun e he _=>hwh e he⟩
theorem Wx(hE:ie c R)(hJ:Jv c R H x)(ho:x.cF.jz=true)(hp:A5 c R x.cF.pU x.cF.eQ x.cF.At x.dx)(hs:M8 x.skip)(hN:kG x.out)(hz:Sm 7000 x)
  (h1:x.cF.oU=false) (h2:x.cF.bH=false) {k:Int} (ha:x.cF.f9=k) (hk:0<=k/\k<x.dx.aV.l.length):
  Wc (nu x.c x.dF x.l x.cF x.cq x.dx x.mK x.di x.fy x.bi x.skip x.dT x.wV x.eY x.out x.bX now k up) (F8 c R H 1 64 x):=by
 have hpl:=hp.dx hE hJ ho;have hrl:=hpl.rl;have hsw:=hE.sw;have hz1:=hz.1;have hz2:=hz.2.1;have hz3:=hz.2.2;obtain⟨hl,hs8⟩:=hpl.sw (gt x.dx.aV.l k.toNat) (by rw[dc (by omega)];exact aZ _);unfold nu;rw[jq (i:=k) (n:=x.dx.aV.l.length) hk.1 hk.2];simp only[af];refine Wq.nw (Wz hl fun s h=>by have:=hs8 s h;omega) ?_;rintro _ ⟨t,b,rfl,ht⟩;dsimp only;cases b with
 |false=>exact Wc.A8 (Ew hE hJ ho hp hs hN ⟨by omega,by omega,by omega⟩)
 |true=>
  show Wc (Option.bind _ _) _;subst ha;rw[wL (by omega) (IJ ho h1 h2 (by omega))];dsimp only[af];rw[jq (i:=x.cF.f9) (n:=x.dx.aV.l.length) hk.1 hk.2];simp only[af];refine Wq.nw (SK (p:=x.dx) hl (fun s h=>by have:=hs8 s h;omega) (ht rfl) (by omega)) ?_;rintro ms ⟨g1,g2⟩;have hJ':=hJ.acn ho h1 h2 (by omega);have hask:Ask ms.l:=⟨by omega,fun m hm=>⟨(g2 m hm).2.2.2,by rw[(g2 m hm).2.2.1];omega⟩⟩
  refine Wc.A8 ((MZ (x:={x with l:=.mk (x.l.l++[(2,x.cF.U,x.cF.f9,0)]),cF:=(x.cF.U,x.cF.pU,true,x.cF.eQ,x.cF.At,x.cF.f9+1,x.cF.oU,x.cF.bH,x.cF.oD),cq:=2,mK:=x.cF.f9}) (now:=now) hask (by show x.out.l.length<_;omega)).mono ?_);rintro _ ⟨o,w,rfl,hw,hm,hnil,hlen,hout⟩;refine⟨hJ',UA rfl hp rfl hk h1 h2 hs hw (fun e he=>⟨(g2 _ (hm e he)).2.1,(g2 _ (hm e he)).2.2.1⟩) (fun e he a ha hu hr=>?_),Aq hN hout,?_⟩
  .exfalso;have:=(hJ.Ph a ha).2 (hu.trans (g2 _ (hm e he)).2.1) ho;rw[hr,(g2 _ (hm e he)).2.2.1]at this;exact absurd this (by omega)
  .exact ⟨h_ _ _,by simp,by show x.bX.l.length<=_;omega,hlen⟩
theorem xI{s:ad}{dx:am}{mK:Int}{w:Mp Int aa}{sk:Int}(ho:s.jz=false)(hs:M8 sk)(hw:C4 w)(hn:zN w):A6 c R H s 0 dx mK w sk:=⟨by decide,hs,fun _=>ho,fun h _=>absurd rfl h,fun h=>absurd h (by decide),fun h=>absurd h (by decide),fun h=>absurd h (by decide),fun h=>absurd h (by decide),hw,fun e he h=>absurd h (hn e he),fun e he h=>absurd h (hn e he)⟩
theorem D1{s:ad}{ph:Int}(hph:ph=3\/ph=4){dx:am}{mK:Int}{w:Mp Int aa}{sk:Int}(ho:s.jz=true)(h1:s.oU=true)(h2:s.bH=false)(hp:A5 c R s.pU s.eQ s.At dx)(hs:M8 sk)(hw:C4 w)(hn:zN w):A6 c R H s ph dx mK w sk:=⟨by omega,hs,fun h=>absurd h (by omega),fun _ _=>⟨ho,hp⟩,fun h=>absurd h (by omega),fun h=>absurd h (by omega),fun _=>⟨h1,h2⟩,fun h=>absurd h (by omega),hw,fun e he h=>absurd h (hn e he),fun e he h=>absurd h (hn e he)⟩
theorem Sr(hE:ie c R)(hJ:Jv c R H x)(hI:Inv c R H x)(hw:x.di.es=[])(hN:kG x.out)(hz:Sm 7000 x):
  Wc (lO x.c x.dF x.l x.cF x.cq x.dx x.mK x.di x.fy x.bi x.skip x.dT x.wV x.eY x.out x.bX now up) (F8 c R H 1 64 x):=by
 have hz1:=hz.1;have hz2:=hz.2.1;have hz3:=hz.2.2;have hnw:zN x.di:=fun e he=>by rw[hw]at he;exact(aX he).elim
 have hO:A4 x:=fun m hm h=>absurd h (hN m hm);unfold lO;refine Wc.cond (fun hb=>?_) fun hb1=>Wc.cond (fun hb=>?_) fun hb2=>Wc.cond (fun hb=>?_) fun hb3=>Wc.cond (fun hb=>?_) fun _=>?_
 .have hph:x.cq=1:=eq_of_beq hb;obtain⟨ho,hp⟩:=hI.Pj (by omega) (by omega);obtain⟨h1,h2,h3⟩:=hI.p1 hph;have:=(hp.dx hE hJ ho).rl;exact Wc.A8 (Wx hE hJ ho hp hI.Mk hN hz h2 h3 h1 ⟨by omega,by omega⟩)
 .have hph:x.cq=2:=eq_of_beq hb;obtain⟨ho,hp⟩:=hI.Pj (by omega) (by omega);obtain⟨h1,h4,h2,h3⟩:=hI.p2 hph;have:=(hp.dx hE hJ ho).rl;rw[pZ (n:=x.mK+1) (by omega) (by omega)];refine Wc.cond (fun hb=>?_) fun _=>?_
  .have hlt:x.mK+1<x.dx.aV.l.length:=of_decide_eq_true hb;exact Wc.A8 (Wx hE hJ ho hp hI.Mk hN hz h2 h3 h1 ⟨by omega,hlt⟩)
  .rw [wL (by omega) (FJ ho h2 h3 (by omega))]
   exact Wc.some (x:={x with l:=.mk (x.l.l++[(3,x.cF.U,0,0)]),cF:=(x.cF.U,x.cF.pU,true,x.cF.eQ,x.cF.At,x.cF.f9,true,x.cF.bH,x.cF.oD),cq:=3})
    ⟨hJ.acT ho h2 h3 (by omega),D1 (.inl rfl) rfl rfl h3 hp hI.Mk hI.S6 hnw,hO,h_ _ _,by simp,by show x.bX.l.length<=_;omega,by show x.out.l.length<=_;omega⟩
 .have hph:x.cq=4:=eq_of_beq hb;obtain⟨ho,hp⟩:=hI.Pj (by omega) (by omega);obtain⟨h1,h2⟩:=hI.p3 (.inr hph);rw[wL (by omega) (B7 ho h1 h2)];simp only[af];obtain⟨e,he,hn⟩:=G7 (x:={x with l:=.mk (x.l.l++[(5,x.cF.U,0,0)]),cF:=(x.cF.U,x.cF.eQ,false,0,0,0,false,false,x.cF.oD)}) (now:=now) (k:=9) (sw:=0) (a:=x.cF.eQ) (b:=0) (by show x.bX.l.length<_;omega);dsimp only at hn
  erw[hn]
  exact Wc.some (x:={x with l:=.mk (x.l.l++[(5,x.cF.U,0,0)]),cF:=(x.cF.U,x.cF.eQ,false,0,0,0,false,false,x.cF.oD),bX:=e,cq:=0,bi:=-1,dT:=-1})
   ⟨hJ.X9 ho h1 h2,xI rfl hI.Mk hI.S6 hnw,hO,h_ _ _,by simp,by show e.l.length<=_;rw[he];exact aq _,by show x.out.l.length<=_;omega⟩
 .have hph:x.cq=5:=eq_of_beq hb;exact Wc.some (x:={x with bi:=wr .i64 (wr .i64 (now+x.dx.yG)+1)}) ⟨hJ,hI,hO,ct,aO _,aO _,bN _ _⟩
 .exact Wc.some (x:=x) ⟨hJ,hI,hO,ct,aO _,aO _,bN _ _⟩
theorem MY(hJ:Jv c R H x)(hI:Inv c R H x)(hN:kG x.out)(hz:Sm 9000 x):
  Wc (kz x.c x.dF x.l x.cF x.cq x.dx x.mK x.di x.fy x.bi x.skip x.dT x.wV x.eY x.out x.bX now) (F8 c R H 0 64 x):=by
 have hz3:=hz.2.2;have hO:A4 x:=fun m hm h=>absurd h (hN m hm);unfold kz;refine Wq.nw (P:=fun r=>∃b,r=(b,x.lp)) ?_ ?_
 .refine Wq.cond (fun _=>?_) (fun _=>Wq.some ⟨false,rfl⟩);obtain⟨b,hb⟩:=Ss (x:=x) (now:=now) (at':=x.fy);rw[hb];exact Wq.some ⟨b,rfl⟩
 .rintro _ ⟨b,rfl⟩;dsimp only;refine Wc.cond (fun _=>?_) (fun _=>Wc.some ⟨hJ,hI,hO,ct,aq _,aq _,bN _ _⟩);refine Wc.A8 ((JD hI.S6 (by omega)).mono ?_);rintro _ ⟨o,rfl,h1,h2⟩;exact⟨hJ,hI,Aq hN h2,ct,aq _,aq _,h1⟩
end
end Go.Proofs.YtoekkpmeeclpeaaGreat.S
