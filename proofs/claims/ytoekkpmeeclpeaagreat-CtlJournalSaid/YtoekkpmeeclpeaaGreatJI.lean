/- The controller's deeds. Conditions: as stated. -/
import Derived.Test.YtoekkpmeeclpeaaGreatJG
open Bool renaming and_eq_true->ax,or_eq_false_iff->cN
open Int renaming le_refl->gR
open List renaming eq_nil_of_length_eq_zero->lB,getElem_mem->aZ,length_append->aA,length_singleton->aR,not_mem_nil->aX,prefix_append->h_,prefix_rfl->ct
open Nat renaming le_add_right->bN,le_refl->aq,le_succ->aO,zero_le->cp
open Option renaming bind_some->af
open Go.Ev Go
namespace Go.Proofs.YtoekkpmeeclpeaaGreat.S
section
variable{c:aj}{R:Sl (Sl (Sl Int))}{H:List fN}{x:Cx}{now up:Int}
theorem A6.abR{s:ad}{ph:Int}{dx:am}{mK:Int}{w w':Mp Int aa}{sk sk':Int}(h:A6 c R H s ph dx mK w sk)(h1:w'.es.Sublist w.es)(h2:w'.ce=w.ce)(hs:M8 sk'):A6 c R H s ph dx mK w' sk':=⟨h.ph,hs,h.UH,h.Pj,h.p1,h.p2,h.p3,h.p5,h.S6.sub h1 h2,fun e he=>h.wk e (h1.subset he),fun e he=>h.wh e (h1.subset he)⟩
theorem A6.QZ{s:ad}{ph:Int}{dx:am}{mK:Int}{w:Mp Int aa}{sk:Int}(h:A6 c R H s ph dx mK w sk)(h2:ph≠2):zN w:=fun e he hk=>h2 (h.wk e he hk).1
theorem Vt(hE:ie c R)(hJ:Jv c R H x)(hI:Inv c R H x)(hph:x.cq=3)(hN:kG x.out)(hz:Sm 9000 x):
  Wc (mC x.c x.dF x.l x.cF x.cq x.dx x.mK x.di x.fy x.bi x.skip x.dT x.wV x.eY x.out x.bX now) (F8 c R H 0 64 x):=by
 have hz3:=hz.2.2;obtain⟨ho,hp⟩:=hI.Pj (by omega) (by omega);obtain⟨h1,h2⟩:=hI.p3 (.inl hph);have hpl:=hp.dx hE hJ ho;have hsw:=hE.sw;unfold mC;refine Wq.nw (xV hpl hsw.2) ?_;rintro⟨r1,r2⟩ _;dsimp only;refine Wq.nw (Lm (by rw[hJ.hc];exact hsw)) ?_;rintro ms ⟨g1,g2⟩;have hask:Ask ms.l:=⟨by omega,fun m hm=>⟨(g2 m hm).2.2,by rw[(g2 m hm).2.1];omega⟩⟩
 refine Wc.A8 ((MZ (x:={x with cq:=4}) (now:=now) hask (by show x.out.l.length<_;omega)).mono ?_);rintro _ ⟨o,w,rfl,hw,hm,hnil,hlen,hout⟩;exact⟨hJ,D1 (.inr rfl) ho h1 h2 hp hI.Mk hw fun e he=>by rw[(g2 _ (hm e he)).1];decide,Aq hN hout,ct,aq _,aq _,hlen⟩
theorem Vr(hE:ie c R)(hJ:Jv c R H x)(hI:Inv c R H x)(hph:x.cq≠0/\x.cq≠6)(hN:kG x.out)(hz:Sm 6000 x):
  Wc (mA x.c x.dF x.l x.cF x.cq x.dx x.mK x.di x.fy x.bi x.skip x.dT x.wV x.eY x.out x.bX now up) (F8 c R H 1 64 x):=by
 have hz1:=hz.1;have hz2:=hz.2.1;have hz3:=hz.2.2;obtain⟨ho,hp⟩:=hI.Pj hph.1 hph.2;have hpl:=hp.dx hE hJ ho;have hrl:=hpl.rl;have hsw:=hE.sw;unfold mA;refine Wq.nw (xV hpl hsw.2) ?_;rintro⟨r1,r2⟩ _;dsimp only;refine Wq.nw (P:=fun i:Int=>0<=i/\i<x.dx.aV.l.length) ?_ ?_
 .refine Wq.cond (fun hb=>Wq.some ?_) fun _=>Wq.some ⟨by omega,by omega⟩;have h2:x.cq=2:=eq_of_beq hb;exact(hI.p2 h2).2.1
 .rintro i ⟨i0,i1⟩;refine Wc.cond (fun _=>Wc.A8 (Ew hE hJ ho hp hI.Mk hN ⟨by omega,by omega,by omega⟩)) fun _=>?_;refine Wq.nw (P:=fun _=>True) ?_ ?_
  .refine Wq.cond (fun _=>?_) fun _=>Wq.some trivial;rw[jq (i:=i) (n:=x.dx.aV.l.length) i0 i1];exact Wq.some trivial
  .rintro b _;refine Wc.cond (fun _=>Wc.A8 (Ew hE hJ ho hp hI.Mk hN ⟨by omega,by omega,by omega⟩)) fun _=>Wc.cond (fun hb=>?_) fun _=>?_
   .have h3:x.cq=3:=by simp only[ax,beq_iff_eq]at hb;exact hb.1
    refine Wc.A8 ((Vt hE hJ hI h3 hN ⟨by omega,by omega,by omega⟩).mono fun y h=>⟨h.jv,h.inv,h.out,h.sz.mono (by omega) (by omega)⟩)
   .exact Wc.A8 ((MY hJ hI hN ⟨by omega,by omega,by omega⟩).mono fun y h=>⟨h.jv,h.inv,h.out,h.sz.mono (by omega) (by omega)⟩)
theorem Yj(hE:ie c R)(hJ:Jv c R H x)(hI:Inv c R H x)(hph:x.cq=5)(hN:kG x.out)(hz:Sm 6000 x):
  Wc (nV x.c x.dF x.l x.cF x.cq x.dx x.mK x.di x.fy x.bi x.skip x.dT x.wV x.eY x.out x.bX now up) (F8 c R H 1 64 x):=by
 have hz1:=hz.1;have hz2:=hz.2.1;have hz3:=hz.2.2;obtain⟨ho,hp⟩:=hI.Pj (by omega) (by omega);obtain⟨hc,hk0,hk1⟩:=hI.p5 hph;have hpl:=hp.dx hE hJ ho;have hrl:=hpl.rl;have hsw:=hE.sw;have hms:=TB hI.S6 (up:=up) hI.Mk;have hI':=hI.abR (Rr (m:=x.di) (up:=up)).1 rfl hms;unfold nV;refine Wc.cond (fun _=>?_) (fun h=>absurd hI.S6.afu (by rw[h];decide));refine Wc.cond (fun hb=>?_) fun _=>Wc.cond (fun _=>?_) fun _=>Wc.cond (fun hb=>?_) fun _=>?_
 .have hz:(oP up x.di).es=[]:=by simp only[ax,beq_iff_eq]at hb;exact lB (by have:=hb.2;omega)
  exact Wc.A8 ((Sr (x:={x with di:=oP up x.di,skip:=iM up x.di x.skip}) hE hJ hI' hz hN ⟨by show x.l.l.length<=_;omega,by show x.bX.l.length<=_;omega,by show x.out.l.length<=_;omega⟩).mono fun y h=>⟨h.jv,h.inv,h.out,h.sz.qi,h.sz.l,h.sz.e,h.sz.o⟩)
 .exact Wc.A8 ((MY (x:={x with di:=oP up x.di,skip:=iM up x.di x.skip}) hJ hI' hN ⟨by show x.l.l.length<=_;omega,by show x.bX.l.length<=_;omega,by show x.out.l.length<=_;omega⟩).mono fun y h=>⟨h.jv,h.inv,h.out,h.sz.qi,by have:=h.sz.l;show _<=x.l.l.length+1;have:y.l.l.length<=x.l.l.length+0:=this;omega,by have:=h.sz.e;have:y.bX.l.length<=x.bX.l.length+0:=this;omega,h.sz.o⟩)
 .have hgt:x.mK>0:=of_decide_eq_true hb;rw[pZ (n:=x.mK-1) (by omega) (by omega)];exact Wc.A8 ((JC (x:={x with di:=oP up x.di,skip:=iM up x.di x.skip}) hE hJ ho hc hp hph hms hN ⟨by show x.l.l.length<=_;omega,by show x.bX.l.length<=_;omega,by show x.out.l.length<=_;omega⟩ (k:=x.mK-1) ⟨by omega,by show x.mK-1<(x.dx.aV.l.length:Int);omega⟩).mono fun y h=>⟨h.jv,h.inv,h.out,h.sz.qi,by have:=h.sz.l;have:y.l.l.length<=x.l.l.length+0:=this;omega,by have:=h.sz.e;have:y.bX.l.length<=x.bX.l.length+0:=this;omega,h.sz.o⟩)
 .have hsx:0<=x.c.T.au/\x.c.T.au<=8:=by rw[hJ.hc];exact hsw
  rw[Bl hsx.1];simp only[af];have hm2:=hms.bi (up:=up) hsx.1 hsx.2;have hw:=wL (x:={x with di:=oP up x.di,skip:=iM up x.di x.skip}) (by show x.l.l.length<_;omega) (B6 ho hc hm2);dsimp only at hw
  erw[hw]
  simp only[af];obtain⟨e,he,hn⟩:=G7 (x:={x with di:=oP up x.di,skip:=iM up x.di x.skip,l:=.mk (x.l.l++[(6,x.cF.U,A9 .i64 (iM up x.di x.skip) (gC .i64 (wr .i64 (te .i64 1 x.c.T.au-1)) up),0)]),cF:=(x.cF.U,x.cF.pU,false,0,0,0,false,false,A9 .i64 (iM up x.di x.skip) (gC .i64 (wr .i64 (te .i64 1 x.c.T.au-1)) up))}) (now:=now) (k:=10) (sw:=0) (a:=A9 .i64 (iM up x.di x.skip) (gC .i64 (wr .i64 (te .i64 1 x.c.T.au-1)) up)) (b:=0) (by show x.bX.l.length<_;omega);dsimp only at hn
  erw[hn]
  exact Wc.some (x:={x with di:=oP up x.di,skip:=iM up x.di x.skip,l:=.mk (x.l.l++[(6,x.cF.U,A9 .i64 (iM up x.di x.skip) (gC .i64 (wr .i64 (te .i64 1 x.c.T.au-1)) up),0)]),cF:=(x.cF.U,x.cF.pU,false,0,0,0,false,false,A9 .i64 (iM up x.di x.skip) (gC .i64 (wr .i64 (te .i64 1 x.c.T.au-1)) up)),bX:=e,cq:=0,bi:=-1,dT:=-1})
   ⟨hJ.WX ho hc hm2,xI rfl hms hI'.S6 (hI'.QZ (by rw[hph];decide)),fun m hm h=>absurd h (hN m hm),h_ _ _,by simp,by show e.l.length<=_;rw[he];exact aq _,bN _ _⟩
theorem Vv(hE:ie c R)(hJ:Jv c R H x)(hI:Inv c R H x)(hN:kG x.out)(hz:Sm 5000 x):
  Wc (jc x.c x.dF x.l x.cF x.cq x.dx x.mK x.di x.fy x.bi x.skip x.dT x.wV x.eY x.out x.bX now up) (F8 c R H 1 100 x):=by
 have hz1:=hz.1;have hz2:=hz.2.1;have hz3:=hz.2.2;have hsx:0<=x.c.T.au/\x.c.T.au<=8:=by rw[hJ.hc];exact hE.sw
 unfold jc eJ;dsimp only[af];have hO:A4 x:=fun m hm h=>absurd h (hN m hm);refine Wc.cond (fun _=>Wc.some ⟨hJ,hI,hO,ct,aO _,aO _,bN _ _⟩) fun h6=>?_;have h6':x.cq≠6:=by simpa using h6
 refine Wc.nw (Vs hsx (by omega) hN) ?_;rintro _ ⟨o,a,rfl,hl,hn⟩;dsimp only;have hz':Sm 6000 {x with out:=o,eY:=a}:=⟨by show x.l.l.length<=_;omega,by show x.bX.l.length<=_;omega,by show o.l.length<=_;omega⟩
 refine Wc.cond (fun hb=>?_) fun hb=>Wc.cond (fun hb5=>?_) fun _=>?_
 .refine Wc.A8 ((Yi (x:={x with out:=o,eY:=a}) hsx (by show o.l.length<_;omega) hn).mono ?_);rintro _ ⟨o',b,rfl,hl',hn'⟩;exact⟨hJ,hI,fun m hm h=>absurd h (hn' m hm),ct,aO _,aO _,by show o'.l.length<=x.out.l.length+100;have:o'.l.length<=o.l.length+8:=hl';omega⟩
 .have h5:x.cq=5:=eq_of_beq hb5;exact Wc.A8 ((Yj (x:={x with out:=o,eY:=a}) hE hJ hI h5 hn hz').mono fun y h=>⟨h.jv,h.inv,h.out,h.sz.qi,h.sz.l,h.sz.e,by have:=h.sz.o;have:y.out.l.length<=o.l.length+64:=this;omega⟩)
 .have h0:x.cq≠0:=by simpa using hb
  exact Wc.A8 ((Vr (x:={x with out:=o,eY:=a}) hE hJ hI ⟨h0,h6'⟩ hn hz').mono fun y h=>⟨h.jv,h.inv,h.out,h.sz.qi,h.sz.l,h.sz.e,by have:=h.sz.o;have:y.out.l.length<=o.l.length+64:=this;omega⟩)
theorem JB{m:aa}:∃b,jt x.c x.dF x.l x.cF x.cq x.dx x.mK x.di x.fy x.bi x.skip x.dT x.wV x.eY x.out x.bX m=some (b,x.tu)/\(b=true->1<=x.cq/\x.cq<=5):=by unfold jt sX;simp only[af];cases(DN x.di (wr .i64 (wr .i64 (m.Rd*8)+m.Sw))&&(kF x.di (0,0,0,0,0,0,0,0,0,Sl.nil) (wr .i64 (wr .i64 (m.Rd*8)+m.Sw))).cY==m.Of)with|false=>exact⟨false,rfl,fun h=>nomatch h⟩|true=>refine⟨_,rfl,fun h=>?_⟩;simp only[Bool.or_eq_true,ax,decide_eq_true_eq,beq_iff_eq]at h;omega
theorem Vu(hE:ie c R)(hJ:Jv c R H x)(hI:Inv c R H x)(hN:kG x.out)(hz:Sm 5000 x){m:aa}(hm:0<=m.Sw/\m.Sw<8):
  Wc (mE x.c x.dF x.l x.cF x.cq x.dx x.mK x.di x.fy x.bi x.skip x.dT x.wV x.eY x.out x.bX now m up) (F8 c R H 1 100 x):=by
 have hz1:=hz.1;have hz2:=hz.2.1;have hz3:=hz.2.2;have hO:A4 x:=fun m hm h=>absurd h (hN m hm);have hstay:F8 c R H 1 100 x x:=⟨hJ,hI,hO,ct,aO _,aO _,bN _ _⟩
 unfold mE;refine Wc.cond (fun hb=>?_) fun _=>?_
 .have h0:x.cq=0:=eq_of_beq hb;have ho:=hI.UH h0;refine Wq.nw (P:=fun b=>b=true->qO .i64 (oT .i64 x.cF.oD m.Sw) 1=1) ?_ ?_
  .refine Wq.cond (fun _=>?_) fun _=>Wq.some fun h=>nomatch h
   rw[Bh hm.1];exact Wq.some fun h=>eq_of_beq h
  .rintro b hb;refine Wc.cond (fun ht=>?_) fun _=>Wc.some hstay;have hbit:=hb ht;rw[wL (by omega) (Av ho hm hbit)];simp only[af];obtain⟨e,he,hn⟩:=G7 (x:={x with l:=.mk (x.l.l++[(7,x.cF.U,m.Sw,0)]),cF:=(x.cF.U,x.cF.pU,x.cF.jz,x.cF.eQ,x.cF.At,x.cF.f9,x.cF.oU,x.cF.bH,gC .i64 x.cF.oD (te .i64 1 m.Sw))}) (now:=now) (k:=11) (sw:=m.Sw) (a:=0) (b:=0) (by show x.bX.l.length<_;omega);dsimp only at hn
   erw[hn]
   refine Wc.some (x:={x with l:=.mk (x.l.l++[(7,x.cF.U,m.Sw,0)]),cF:=(x.cF.U,x.cF.pU,x.cF.jz,x.cF.eQ,x.cF.At,x.cF.f9,x.cF.oU,x.cF.bH,gC .i64 x.cF.oD (te .i64 1 m.Sw)),bX:=e}) ⟨hJ.TO ho hm hbit,?_,hO,h_ _ _,by simp,by show e.l.length<=_;rw[he];exact aq _,bN _ _⟩;show A6 c R H _ x.cq _ _ _ _;rw[h0];exact xI ho hI.Mk hI.S6 (hI.QZ (by rw[h0];decide))
 .obtain ⟨b,hb,hph⟩:=JB (x:=x) (m:=m);rw[hb];simp only[af];refine Wc.cond (fun _=>Wc.some hstay) fun _=>?_;unfold sX;simp only[af];have hd:=U9 (m:=x.di) (k:=wr .i64 (wr .i64 (m.Rd*8)+m.Sw));have hI':=hI.abR hd.1 hd.2 hI.Mk;refine Wc.cond (fun hb=>?_) fun _=>?_
  .have hz:(tQ x.di (wr .i64 (wr .i64 (m.Rd*8)+m.Sw))).es=[]:=by have:=eq_of_beq hb;exact lB (by omega)
   exact Wc.A8 ((Sr (x:={x with di:=tQ x.di (wr .i64 (wr .i64 (m.Rd*8)+m.Sw))}) hE hJ hI' hz hN ⟨by show x.l.l.length<=_;omega,by show x.bX.l.length<=_;omega,by show x.out.l.length<=_;omega⟩).mono fun y h=>⟨h.jv,h.inv,h.out,h.sz.qi,h.sz.l,h.sz.e,by have:=h.sz.o;have:y.out.l.length<=x.out.l.length+64:=this;omega⟩)
  .exact Wc.some (x:={x with di:=tQ x.di (wr .i64 (wr .i64 (m.Rd*8)+m.Sw))}) ⟨hJ,hI',fun m hm h=>absurd h (hN m hm),ct,aO _,aO _,bN _ _⟩
theorem St(hE:ie c R)(hJ:Jv c R H x)(hI:Inv c R H x)(hN:kG x.out)(hz:Sm 5000 x){m:aa}(hf:O9 m.ny.l):
  Wc (j5 x.c x.dF x.l x.cF x.cq x.dx x.mK x.di x.fy x.bi x.skip x.dT x.wV x.eY x.out x.bX now m up) (F8 c R H 1 100 x):=by
 have hz1:=hz.1;have hz2:=hz.2.1;have hz3:=hz.2.2;have hO:A4 x:=fun m hm h=>absurd h (hN m hm);have hstay:F8 c R H 1 100 x x:=⟨hJ,hI,hO,ct,aO _,aO _,bN _ _⟩
 unfold j5 eJ;dsimp only[af];refine Wq.nw (P:=fun r=>∃b,r=(b,x.lp)/\(b=false->x.cq≠6/\0<=m.Sw/\m.Sw<8)) ?_ ?_
 .refine Wq.cond (fun _=>Wq.some ⟨true,rfl,fun h=>nomatch h⟩) fun h6=>?_;refine(Oe hf).bind ?_;rintro r hr;refine Wq.some ⟨_,rfl,fun h=>⟨by simpa using h6,?_⟩⟩;simp only[cN,Bool.not_eq_false']at h;exact hr h.1
 .rintro _ ⟨b,rfl,hb⟩;dsimp only;refine Wc.cond (fun _=>Wc.some hstay) fun hf'=>?_;obtain⟨h6,hs⟩:=hb hf';refine Wc.cond (fun _=>?_) fun _=>Wc.cond (fun _=>Wc.some hstay) fun _=>Wc.cond (fun _=>Wc.A8 (Vu hE hJ hI hN hz hs)) fun _=>?_
  .rw [jq (i:=m.Sw) (n:=8) hs.1 (by omega)];simp only[af];refine Wq.nw Tr ?_;rintro⟨r1,r2⟩ _;refine Wc.cond (fun _=>Wc.some (x:={x with wV:=Arr.set x.wV m.Sw.toNat r1}) ⟨hJ,hI,hO,ct,aO _,aO _,bN _ _⟩) fun _=>Wc.some hstay
  .refine Wq.nw (P:=fun r=>∃b,r=(b,x.lp)/\(b=true->1<=x.cq/\x.cq<=5)) ?_ ?_
   .refine Wq.cond (fun _=>?_) fun _=>Wq.some ⟨false,rfl,fun h=>nomatch h⟩;obtain⟨b,hb,hph⟩:=JB (x:=x) (m:=m);rw[hb];exact Wq.some ⟨b,rfl,hph⟩
   .rintro _ ⟨b,rfl,hb⟩;dsimp only;refine Wc.cond (fun ht=>?_) fun _=>Wc.some hstay;have hph:=hb ht;obtain⟨ho,hp⟩:=hI.Pj (by omega) (by omega);exact Wc.A8 ((Ew hE hJ ho hp hI.Mk hN ⟨by omega,by omega,by omega⟩).mono fun y h=>⟨h.jv,h.inv,h.out,h.sz.mono (by omega) (by omega)⟩)
end
end Go.Proofs.YtoekkpmeeclpeaaGreat.S
open Go.Ev Go
namespace Go.Proofs.YtoekkpmeeclpeaaGreat.S
section
variable{c:aj}{R:Sl (Sl (Sl Int))}{H:List fN}{x:Cx}{now up:Int}
def M9(n:Nat)(l:List aa):Prop:=l.length<=n/\∀m∈l,m.cY=3/\(0<=m.Sw/\m.Sw<8)/\(0<=m.Rd/\m.Rd<8)
theorem M9.nil:M9 0 []:=⟨aq _,fun _ h=>(aX h).elim⟩
theorem M9.mono{n m:Nat}{l:List aa}(h:M9 n l)(h1:n<=m):M9 m l:=⟨Nat.le_trans h.1 h1,h.2⟩
theorem M9.add{n:Nat}{l:List aa}{m:aa}(h:M9 n l)(h1:m.cY=3)(h2:0<=m.Sw/\m.Sw<8)(h3:0<=m.Rd/\m.Rd<8):M9 (n+1) (l++[m]):=
 ⟨by have:=h.1;rw[aA,aR];omega,fun q hq=>by
  rcases List.mem_append.1 hq with hq|hq
  .exact h.2 q hq
  .rw [List.mem_singleton.1 hq];exact⟨h1,h2,h3⟩⟩
theorem Nx{i:Int}{s:ad}{q:Sl gi}{ms:Sl aa}{n:Nat}(hi:0<=i/\i<8)(hq:q.l.length<=8/\∀p∈q.l,0<=p.1/\p.1<8)(hm:M9 n ms.l)(hn:n<=1000):
  Wq (aU (mX i s q) (0,ms)) fun r=>M9 (n+8) r.l:=by
 refine Wq.up q.l.length (by omega) (fun j r=>M9 (n+j) r.l) hm ?_;rintro j r hj hr;dsimp only[mX];refine Wq.cond (fun hb=>?_) (fun hb=>Wq.some (hr.mono (by omega)));have hlt:j<q.l.length:=by have:=of_decide_eq_true hb;omega
 rw[bV hlt];simp only[af];have hl:=hr.1;rw[qz (by rw[aA,aR];omega)];exact Wq.some ⟨_,rfl,hlt,hr.add rfl (hq.2 _ (by rw[dc hlt];exact aZ _)) hi⟩
theorem Su(hE:ie c R)(hJ:Jv c R H x)(hI:Inv c R H x)(hN:kG x.out)(hz:Sm 5000 x){k:Int}:
  Wq (iv x.c x.dF x.l x.cF x.cq x.dx x.mK x.di x.fy x.bi x.skip x.dT x.wV x.eY x.out x.bX now k up) fun t=>∃e y,t=(e,Cx.tu y)/\F8 c R H 1 100 x y:=by
 have hz1:=hz.1;have hz2:=hz.2.1;have hz3:=hz.2.2;have hO:A4 x:=fun m hm h=>absurd h (hN m hm);have hstay:F8 c R H 1 100 x x:=⟨hJ,hI,hO,ct,aO _,aO _,bN _ _⟩
 have hsw:=hE.sw;unfold iv eJ;dsimp only[af];refine Wq.cond (fun _=>Wq.some ⟨_,x,rfl,hstay⟩) fun h1=>?_;simp only[cN,bne_eq_false_iff_eq,decide_eq_false_iff_not]at h1;obtain⟨⟨hph,hout⟩,hu⟩:=h1;have ho:=hI.UH hph;refine Wq.bind (P:=fun b=>b=false->(0<=k/\k<R.l.length)/\(0<=now/\now<=1099511627776)) ?_ ?_
 .refine Wq.cond (fun _=>Wq.some fun h=>nomatch h) fun hk=>?_;refine Wq.some fun h=>?_;rw[hJ.hR]at hk;simp only[cN,decide_eq_false_iff_not]at hk;simp only[Bool.not_eq_false',ax,decide_eq_true_eq]at h;omega
 rintro b hb;refine Wq.cond (fun _=>Wq.some ⟨_,x,rfl,hstay⟩) fun hbf=>?_;obtain⟨hk,ht⟩:=hb hbf;rw[IU hE hJ.hc hJ.hR hJ.now hk];obtain⟨p,e,hp,hpok⟩:=Dw hE hJ.now hk ht;rw[hp];simp only[af];refine Wq.cond (fun _=>Wq.some ⟨_,x,rfl,hstay⟩) fun he=>?_;have he0:e=0:=by simpa using he
 subst he0;have hpl:=hpok rfl;have hrl:=hpl.rl;refine(xV hpl hsw.2).bind ?_;rintro⟨r1,r2⟩ _;dsimp only;refine Wq.cond (fun _=>Wq.some ⟨_,x,rfl,hstay⟩) fun _=>?_;refine Wq.bind (P:=fun q=>q=.inl (15,x.lp)\/∃ms:Sl aa,q=.inr (x.c,x.dF,x.cF,x.cq,x.dx,x.mK,x.fy,x.bi,x.skip,x.dT,x.wV,x.eY,ms,x.l,x.di,x.out,x.bX)/\M9 64 ms.l) ?_ ?_
 .refine Wq.up p.aV.l.length (by omega) (fun i t=>∃ms:Sl aa,t=(x.c,x.dF,x.cF,x.cq,x.dx,x.mK,x.fy,x.bi,x.skip,x.dT,x.wV,x.eY,ms,x.l,x.di,x.out,x.bX)/\M9 (8*i) ms.l) ⟨Sl.nil,rfl,M9.nil⟩ ?_;rintro i _ hi ⟨ms,rfl,hm⟩;dsimp only[mW];refine Wq.cond (fun hb=>?_) (fun hb=>Wq.some (.inr ⟨ms,rfl,hm.mono (by omega)⟩));have hlt:i<p.aV.l.length:=by have:=of_decide_eq_true hb;omega
  rw[bV hlt];simp only[af];obtain⟨hl,hs8⟩:=hpl.sw (gt p.aV.l i) (by rw[dc hlt];exact aZ _);refine(Wz hl fun s h=>by have:=hs8 s h;omega).bind ?_;rintro _ ⟨s,b,rfl,_⟩;dsimp only;refine Wq.cond (fun _=>Wq.some (.inl rfl)) fun _=>?_;refine(NV hpl _).bind ?_;rintro q ⟨q1,q2⟩;refine(Nx (i:=(i:Int)) ⟨by omega,by omega⟩ ⟨q1,fun p hp=>by have:=q2 p hp;omega⟩ hm (by omega)).bind ?_;rintro ms' hm';exact Wq.some ⟨_,rfl,hlt,ms',rfl,hm'.mono (by omega)⟩
 .rintro _ (rfl|⟨ms,rfl,hm⟩)
  .exact Wq.some ⟨15,x,rfl,hstay⟩
  .have hu0:=hJ.u;dsimp only;rw[pZ (n:=x.cF.U+1) (by omega) (by omega)];have hJ':=hJ.ack hE ho hout (by omega) hk ht hp;have hrR:=hE.len;rw[wL (by omega) (DJ ho hout (pZ (n:=x.cF.U+1) (by omega) (by omega)).symm ⟨hk.1,by omega⟩ ⟨ht.1,by omega⟩)];simp only[af];obtain⟨e,he,hn⟩:=G7 (x:={x with l:=.mk (x.l.l++[(1,x.cF.U+1,k,now)]),cF:=(x.cF.U+1,x.cF.pU,true,k,now,0,false,false,0),dx:=p,skip:=0}) (now:=now) (k:=8) (sw:=0) (a:=p.YB) (b:=p.To) (by show x.bX.l.length<_;omega);dsimp only at hn
   erw[hn]
   dsimp only[af];have hask:Ask ms.l:=⟨hm.1,fun m h=>⟨(hm.2 m h).2.1,(hm.2 m h).2.2⟩⟩
   refine Wc.bind (MZ (x:={x with l:=.mk (x.l.l++[(1,x.cF.U+1,k,now)]),cF:=(x.cF.U+1,x.cF.pU,true,k,now,0,false,false,0),dx:=p,skip:=0,bX:=e,cq:=1}) (now:=now) hask (by show x.out.l.length<_;omega)) ?_;rintro _ ⟨o,w,rfl,hw,hmem,hnil,hlen,hout'⟩;refine Wq.some ⟨0,{x with l:=.mk (x.l.l++[(1,x.cF.U+1,k,now)]),cF:=(x.cF.U+1,x.cF.pU,true,k,now,0,false,false,0),dx:=p,skip:=0,bX:=e,cq:=1,di:=w,out:=o,fy:=now},rfl,hJ',?_,Aq hN hout',h_ _ _,by simp,by show e.l.length<=_;rw[he];exact aq _,by have:o.l.length<=x.out.l.length+64:=hlen;show o.l.length<=_;omega⟩;have hnw:zN w:=fun e he=>by rw[(hm.2 _ (hmem e he)).1];decide
   exact⟨⟨by show(0:Int)<=1;decide,by show(1:Int)<=6;decide⟩,⟨gR 0,(by decide:(0:Int)<256)⟩,fun h=>absurd h (show¬(1:Int)=0 by decide),fun _ _=>⟨rfl,hp⟩,fun _=>⟨rfl,rfl,rfl⟩,fun h=>absurd h (show¬(1:Int)=2 by decide),fun h=>absurd h (show¬((1:Int)=3\/(1:Int)=4)by decide),fun h=>absurd h (show¬(1:Int)=5 by decide),hw,fun e he h=>absurd h (hnw e he),fun e he h=>absurd h (hnw e he)⟩
theorem FY:∃es ask,pS=some (0,(Sl.nil,Sl.nil,0,0,0,0),0,Mp.none,0,-1,0,-1,es,ask,Sl.nil,Sl.nil):=by
 have H:Wq pS fun t=>∃es ask,t=(0,(Sl.nil,Sl.nil,0,0,0,0),0,Mp.none,0,-1,0,-1,es,ask,Sl.nil,Sl.nil):=by
  unfold pS;refine Wq.bind (P:=fun t=>∃es ask,t=(0,(Sl.nil,Sl.nil,0,0,0,0),0,0,-1,0,-1,es,ask,Mp.none,Sl.nil,Sl.nil)) ?_ ?_
  .refine Wq.up 8 (by omega) (fun i t=>∃es ask,t=(0,(Sl.nil,Sl.nil,0,0,0,0),0,0,-1,0,-1,es,ask,Mp.none,Sl.nil,Sl.nil)) ⟨_,_,rfl⟩ ?_;rintro i _ hi ⟨es,ask,rfl⟩;dsimp only[wJ];refine Wq.cond (fun hb=>?_) (fun hb=>Wq.some ⟨_,_,rfl⟩);have hlt:i<8:=by have:=of_decide_eq_true hb;omega
   rw[jq (i:=(i:Int)) (n:=8) (by omega) (by omega)];exact Wq.some ⟨_,rfl,hlt,_,_,rfl⟩
  .rintro _ ⟨es,ask,rfl⟩;exact Wq.some ⟨_,_,rfl⟩
 obtain⟨t,h,es,ask,rfl⟩:=H;exact⟨es,ask,h⟩
theorem Uz{s:ad}{dx:am}{mK:Int}{sk:Int}(hs:M8 sk):A6 c R H s 6 dx mK .none sk:=⟨by decide,hs,fun h=>absurd h (by decide),fun _ h=>absurd rfl h,fun h=>absurd h (by decide),fun h=>absurd h (by decide),fun h=>absurd h (by decide),fun h=>absurd h (by decide),.none,fun _ h=>(aX h).elim,fun _ h=>(aX h).elim⟩
theorem XL:M8 0:=⟨gR 0,by decide⟩
theorem Vx(hJ:Jv c R H x):
  Wc (rO x.c x.dF x.l x.cF x.cq x.dx x.mK x.di x.fy x.bi x.skip x.dT x.wV x.eY x.out x.bX) (F8 c R H 1 100 x):=by
 unfold rO;obtain⟨es,ask,h⟩:=FY;rw[h];exact⟨⟨x.c,x.dF,x.l,x.cF,6,(Sl.nil,Sl.nil,0,0,0,0),0,.none,0,-1,0,-1,es,ask,.nil,.nil⟩,rfl,hJ,Uz XL,fun _ h=>(aX h).elim,ct,aO _,cp _,cp _⟩
theorem Vw(hE:ie c R)(hJ:Jv c R H x)(hI:Inv c R H x)(hN:kG x.out)(hz:Sm 5000 x):
  Wc (rN x.c x.dF x.l x.cF x.cq x.dx x.mK x.di x.fy x.bi x.skip x.dT x.wV x.eY x.out x.bX now up) (F8 c R H 1 100 x):=by
 have hz1:=hz.1;have hz2:=hz.2.1;have hz3:=hz.2.2;have hO:A4 x:=fun m hm h=>absurd h (hN m hm);unfold rN;refine Wc.cond (fun _=>Wc.some ⟨hJ,hI,hO,ct,aO _,aO _,bN _ _⟩) fun h6=>?_;have hph:x.cq=6:=by simpa using h6
 have hnw:zN x.di:=hI.QZ (by omega);refine Wc.cond (fun ho=>?_) fun ho=>?_
 .have ho:x.cF.jz=false:=by simpa using ho
  exact Wc.some (x:={x with cq:=0}) ⟨hJ,xI ho hI.Mk hI.S6 hnw,hO,ct,aO _,aO _,bN _ _⟩
 .have ho:x.cF.jz=true:=by simpa using ho
  obtain⟨ht,ha,_,p,hp⟩:=hJ.op ho;have hmk:=IU (x:={x with cq:=0}) (t:=x.cF.At) hE hJ.hc hJ.hR hJ.now ht;dsimp only at hmk;rw[hmk];unfold A5 at hp;rw[hp];dsimp only[af];refine Wc.cond (fun hb=>?_) fun _=>?_
  .simp only[ax,Bool.not_eq_true']at hb;exact Wc.some (x:={x with cq:=3,dx:=p}) ⟨hJ,D1 (.inl rfl) ho hb.1 hb.2 hp hI.Mk hI.S6 hnw,hO,ct,aO _,aO _,bN _ _⟩
  .exact Wc.A8 ((Ew (x:={x with cq:=0,dx:=p}) hE hJ ho hp hI.Mk hN ⟨by show x.l.l.length<=_;omega,by show x.bX.l.length<=_;omega,by show x.out.l.length<=_;omega⟩).mono fun y h=>⟨h.jv,h.inv,h.out,h.sz.qi,h.sz.l,h.sz.e,by have:=h.sz.o;have:y.out.l.length<=x.out.l.length+64:=this;omega⟩)
structure afG(d:bg):Prop where
 now:0<=d.pU/\d.pU<=1099511627776
 few:O9 d.M.ny.l
theorem Qz{fy:Sl aa}{n:Int}(hl:fy.l.length<=1000000):∃m b,tS fy n=some (m,b,fy):=by
 have H:Wq (tS fy n) fun t=>∃m b,t=(m,b,fy):=by unfold tS;refine Wq.cond (fun _=>Wq.some ⟨_,_,rfl⟩) fun hb=>?_;simp only[cN,beq_eq_false_iff_ne,decide_eq_false_iff_not]at hb;obtain⟨h1,h2⟩:=hb;have h3:0<=n.tmod fy.l.length:=Int.tmod_nonneg _ (by omega);have h4:n.tmod fy.l.length<fy.l.length:=Int.tmod_lt_of_pos _ (by omega);unfold Qo;rw[if_neg h1];simp only[af];rw[jq h3 h4];exact Wq.some ⟨_,_,rfl⟩
 obtain⟨t,h,m,b,rfl⟩:=H;exact⟨m,b,h⟩
theorem Lt{m:aa}:∃r,sU m=some r/\O9 r.ny.l:=by
 have h0:O9 ([]:List aY):=⟨by simp,fun _ h=>(aX h).elim⟩
 unfold sU;cases(m.cY==1)<;>exact⟨_,rfl,h0⟩
theorem FP{α:Type}(s:Sl α):m8 s s=some ():=by cases s with|nil=>rfl|mk l=>exact if_pos rfl
abbrev acu(c:aj)(R:Sl (Sl (Sl Int)))(H:List fN)(x:Cx)(fy:Sl aa)(r:(aj×Sl (Sl (Sl Int))×ad×Int×am×Int×Int×Int×Int×Int×Arr 8 ak×Arr 8 Int×Sl aa×Sl ai×Mp Int aa×Sl aa×Sl aw)⊕(Int×Tl)):Prop:=∃y,F8 c R H 1 100 x y/\(r=.inl (y.c,y.dF,y.cF,y.cq,y.dx,y.mK,y.fy,y.bi,y.skip,y.dT,y.wV,y.eY,fy,y.l,y.di,y.out,y.bX)\/∃e,r=.inr (e,y.lp))
theorem Yh(hE:ie c R)(hJ:Jv c R H x)(hI:Inv c R H x)(hN:kG x.out)(hz:Sm 5000 x){d:bg}(hd:O9 d.M.ny.l){fy:Sl aa}(hs:fy.l.length<=1000000):
  Wq (wB x.c x.dF x.l x.cF x.cq x.dx x.mK x.di x.fy x.bi x.skip x.dT x.wV x.eY x.out x.bX d fy) fun t=>∃(e:Int)(y:Cx),t=(e,y.c,y.dF,y.l,y.cF,y.cq,y.dx,y.mK,y.di,y.fy,y.bi,y.skip,y.dT,y.wV,y.eY,y.out,y.bX,fy)/\F8 c R H 1 100 x y:=by
 have hO:A4 x:=fun m hm h=>absurd h (hN m hm);have hstay:F8 c R H 1 100 x x:=⟨hJ,hI,hO,ct,aO _,aO _,bN _ _⟩
 unfold wB;refine Wq.bind (P:=acu c R H x fy) ?_ ?_
 .refine Wq.cond (fun _=>?_) fun _=>?_
  .refine (Su hE hJ hI hN hz).bind ?_;rintro _ ⟨e,y,rfl,h⟩;exact Wq.some ⟨y,h,.inr ⟨e,rfl⟩⟩
  refine Wq.bind (P:=fun _=>True) (Wq.cond (fun _=>Wq.some trivial) fun _=>Wq.some trivial) ?_;rintro b _;refine Wq.cond (fun _=>?_) fun _=>Wq.cond (fun _=>?_) fun _=>Wq.cond (fun _=>?_) fun _=>Wq.cond (fun _=>?_) fun _=>Wq.cond (fun _=>?_) fun _=>?_
  .refine (Vv hE hJ hI hN hz).bind ?_;rintro y h;exact Wq.some ⟨y,h,.inl rfl⟩
  .refine (St hE hJ hI hN hz hd).bind ?_;rintro y h;exact Wq.some ⟨y,h,.inl rfl⟩
  .obtain ⟨m,b,hp⟩:=Qz (n:=d.N) hs;rw[hp];dsimp only[af];rw[FP];dsimp only[af];refine Wq.cond (fun _=>?_) fun _=>Wq.some ⟨x,hstay,.inl rfl⟩;obtain⟨r,hr,hf⟩:=Lt (m:=m);rw[hr];dsimp only[af];refine(St hE hJ hI hN hz hf).bind ?_;rintro y h;exact Wq.some ⟨y,h,.inl rfl⟩
  .refine (Vx hJ).bind ?_;rintro y h;exact Wq.some ⟨y,h,.inl rfl⟩
  .refine (Vw hE hJ hI hN hz).bind ?_;rintro y h;exact Wq.some ⟨y,h,.inl rfl⟩
  .exact Wq.some ⟨x,hstay,.inl rfl⟩
 .rintro _ ⟨y,h,rfl|⟨e,rfl⟩⟩
  .exact Wq.some ⟨0,y,rfl,h⟩
  .exact Wq.some ⟨e,y,rfl,h⟩
end
end Go.Proofs.YtoekkpmeeclpeaaGreat.S
