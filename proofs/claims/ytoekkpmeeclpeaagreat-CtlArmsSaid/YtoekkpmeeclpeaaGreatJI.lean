/- The controller's deeds. Conditions: as stated. -/
import Derived.Test.YtoekkpmeeclpeaaGreatJG
open Bool renaming and_eq_true->aw,or_eq_false_iff->cJ
open Int renaming le_refl->gJ
open List renaming eq_nil_of_length_eq_zero->kX,getElem_mem->aX,length_append->aA,length_singleton->aP,not_mem_nil->aW,prefix_append->gS,prefix_rfl->cE
open Nat renaming le_add_right->bN,le_refl->aq,le_succ->aO,zero_le->cp
open Option renaming bind_some->ad
open Go.Ev Go
namespace Go.Proofs.YtoekkpmeeclpeaaGreat.S
section
variable{c:ai}{R:Sl (Sl (Sl Int))}{H:List bR}{x:Cx}{now up:Int}
theorem Ao.abh{s:af}{ph:Int}{dp:am}{lU:Int}{w w':Mp Int aa}{sk sk':Int}(h:Ao c R H s ph dp lU w sk)(h1:w'.es.Sublist w.es)(h2:w'.ce=w.ce)(hs:M8 sk'):Ao c R H s ph dp lU w' sk':=⟨h.ph,hs,h.T6,h.Oo,h.p1,h.p2,h.p3,h.p5,h.OA.sub h1 h2,fun e he=>h.wk e (h1.subset he),fun e he=>h.wh e (h1.subset he)⟩
theorem Ao.Qk{s:af}{ph:Int}{dp:am}{lU:Int}{w:Mp Int aa}{sk:Int}(h:Ao c R H s ph dp lU w sk)(h2:ph≠2):yQ w:=fun e he hk=>h2 (h.wk e he hk).1
theorem US(hE:gV c R)(hJ:Jv c R H x)(hI:Inv c R H x)(hph:x.cu=3)(hN:kr x.out)(hz:Sm 9000 x):
  Wc (qO x.c x.d_ x.l x.cw x.cu x.dp x.lU x.cZ x.eU x.bh x.skip x.dJ x.vP x.eQ x.out x.bX now) (DX c R H 0 64 x):=by
 have hz3:=hz.2.2;obtain⟨ho,hp⟩:=hI.Oo (by omega) (by omega);obtain⟨h1,h2⟩:=hI.p3 (.inl hph);have hpl:=hp.dp hE hJ ho;have hsw:=hE.sw;unfold qO;refine Wq.mP (xk hpl hsw.2) ?_;rintro⟨r1,r2⟩ _;dsimp only;refine Wq.mP (KL (by rw[hJ.hc];exact hsw)) ?_;rintro ms ⟨g1,g2⟩;have hask:Ask ms.l:=⟨by omega,fun m hm=>⟨(g2 m hm).2.2,by rw[(g2 m hm).2.1];omega⟩⟩
 refine Wc.Aq ((Mk (x:={x with cu:=4}) (now:=now) hask (by show x.out.l.length<_;omega)).mono ?_);rintro _ ⟨o,w,rfl,hw,hm,hnil,hlen,hout⟩;exact⟨hJ,Dq (.inr rfl) ho h1 h2 hp hI.Ka hw fun e he=>by rw[(g2 _ (hm e he)).1];decide,zB hN hout,cE,aq _,aq _,hlen⟩
theorem UQ(hE:gV c R)(hJ:Jv c R H x)(hI:Inv c R H x)(hph:x.cu≠0/\x.cu≠6)(hN:kr x.out)(hz:Sm 6000 x):
  Wc (nZ x.c x.d_ x.l x.cw x.cu x.dp x.lU x.cZ x.eU x.bh x.skip x.dJ x.vP x.eQ x.out x.bX now up) (DX c R H 1 64 x):=by
 have hz1:=hz.1;have hz2:=hz.2.1;have hz3:=hz.2.2;obtain⟨ho,hp⟩:=hI.Oo hph.1 hph.2;have hpl:=hp.dp hE hJ ho;have hrl:=hpl.rl;have hsw:=hE.sw;unfold nZ;refine Wq.mP (xk hpl hsw.2) ?_;rintro⟨r1,r2⟩ _;dsimp only;refine Wq.mP (P:=fun i:Int=>0<=i/\i<x.dp.aY.l.length) ?_ ?_
 .refine Wq.cond (fun hb=>Wq.some ?_) fun _=>Wq.some ⟨by omega,by omega⟩;have h2:x.cu=2:=eq_of_beq hb;exact(hI.p2 h2).2.1
 .rintro i ⟨i0,i1⟩;refine Wc.cond (fun _=>Wc.Aq (DR hE hJ ho hp hI.Ka hN ⟨by omega,by omega,by omega⟩)) fun _=>?_;refine Wq.mP (P:=fun _=>True) ?_ ?_
  .refine Wq.cond (fun _=>?_) fun _=>Wq.some trivial;rw[jq (i:=i) (n:=x.dp.aY.l.length) i0 i1];exact Wq.some trivial
  .rintro b _;refine Wc.cond (fun _=>Wc.Aq (DR hE hJ ho hp hI.Ka hN ⟨by omega,by omega,by omega⟩)) fun _=>Wc.cond (fun hb=>?_) fun _=>?_
   .have h3:x.cu=3:=by simp only[aw,beq_iff_eq]at hb;exact hb.1
    refine Wc.Aq ((US hE hJ hI h3 hN ⟨by omega,by omega,by omega⟩).mono fun y h=>⟨h.jv,h.inv,h.out,h.sz.mono (by omega) (by omega)⟩)
   .exact Wc.Aq ((Mj hJ hI hN ⟨by omega,by omega,by omega⟩).mono fun y h=>⟨h.jv,h.inv,h.out,h.sz.mono (by omega) (by omega)⟩)
theorem XN(hE:gV c R)(hJ:Jv c R H x)(hI:Inv c R H x)(hph:x.cu=5)(hN:kr x.out)(hz:Sm 6000 x):
  Wc (pG x.c x.d_ x.l x.cw x.cu x.dp x.lU x.cZ x.eU x.bh x.skip x.dJ x.vP x.eQ x.out x.bX now up) (DX c R H 1 64 x):=by
 have hz1:=hz.1;have hz2:=hz.2.1;have hz3:=hz.2.2;obtain⟨ho,hp⟩:=hI.Oo (by omega) (by omega);obtain⟨hc,hk0,hk1⟩:=hI.p5 hph;have hpl:=hp.dp hE hJ ho;have hrl:=hpl.rl;have hsw:=hE.sw;have hms:=SM hI.OA (up:=up) hI.Ka;have hI':=hI.abh (QK (m:=x.cZ) (up:=up)).1 rfl hms;unfold pG;refine Wc.cond (fun _=>?_) (fun h=>absurd hI.OA.aeX (by rw[h];decide));refine Wc.cond (fun hb=>?_) fun _=>Wc.cond (fun _=>?_) fun _=>Wc.cond (fun hb=>?_) fun _=>?_
 .have hz:(rL up x.cZ).es=[]:=by simp only[aw,beq_iff_eq]at hb;exact kX (by have:=hb.2;omega)
  exact Wc.Aq ((RD (x:={x with cZ:=rL up x.cZ,skip:=kC up x.cZ x.skip}) hE hJ hI' hz hN ⟨by show x.l.l.length<=_;omega,by show x.bX.l.length<=_;omega,by show x.out.l.length<=_;omega⟩).mono fun y h=>⟨h.jv,h.inv,h.out,h.sz.pW,h.sz.l,h.sz.e,h.sz.o⟩)
 .exact Wc.Aq ((Mj (x:={x with cZ:=rL up x.cZ,skip:=kC up x.cZ x.skip}) hJ hI' hN ⟨by show x.l.l.length<=_;omega,by show x.bX.l.length<=_;omega,by show x.out.l.length<=_;omega⟩).mono fun y h=>⟨h.jv,h.inv,h.out,h.sz.pW,by have:=h.sz.l;show _<=x.l.l.length+1;have:y.l.l.length<=x.l.l.length+0:=this;omega,by have:=h.sz.e;have:y.bX.l.length<=x.bX.l.length+0:=this;omega,h.sz.o⟩)
 .have hgt:x.lU>0:=of_decide_eq_true hb;rw[pX (n:=x.lU-1) (by omega) (by omega)];exact Wc.Aq ((I0 (x:={x with cZ:=rL up x.cZ,skip:=kC up x.cZ x.skip}) hE hJ ho hc hp hph hms hN ⟨by show x.l.l.length<=_;omega,by show x.bX.l.length<=_;omega,by show x.out.l.length<=_;omega⟩ (k:=x.lU-1) ⟨by omega,by show x.lU-1<(x.dp.aY.l.length:Int);omega⟩).mono fun y h=>⟨h.jv,h.inv,h.out,h.sz.pW,by have:=h.sz.l;have:y.l.l.length<=x.l.l.length+0:=this;omega,by have:=h.sz.e;have:y.bX.l.length<=x.bX.l.length+0:=this;omega,h.sz.o⟩)
 .have hsx:0<=x.c.T.au/\x.c.T.au<=8:=by rw[hJ.hc];exact hsw
  rw[AE hsx.1];simp only[ad];have hm2:=hms.bh (up:=up) hsx.1 hsx.2;have hw:=vW (x:={x with cZ:=rL up x.cZ,skip:=kC up x.cZ x.skip}) (by show x.l.l.length<_;omega) (Bx ho hc hm2);dsimp only at hw
  erw[hw]
  simp only[ad];obtain⟨e,he,hn⟩:=Gu (x:={x with cZ:=rL up x.cZ,skip:=kC up x.cZ x.skip,l:=.mk (x.l.l++[(6,x.cw.U,As .i64 (kC up x.cZ x.skip) (gu .i64 (wr .i64 (sd .i64 1 x.c.T.au-1)) up),0)]),cw:=(x.cw.U,x.cw.pk,false,0,0,0,false,false,As .i64 (kC up x.cZ x.skip) (gu .i64 (wr .i64 (sd .i64 1 x.c.T.au-1)) up))}) (now:=now) (k:=10) (sw:=0) (a:=As .i64 (kC up x.cZ x.skip) (gu .i64 (wr .i64 (sd .i64 1 x.c.T.au-1)) up)) (b:=0) (by show x.bX.l.length<_;omega);dsimp only at hn
  erw[hn]
  exact Wc.some (x:={x with cZ:=rL up x.cZ,skip:=kC up x.cZ x.skip,l:=.mk (x.l.l++[(6,x.cw.U,As .i64 (kC up x.cZ x.skip) (gu .i64 (wr .i64 (sd .i64 1 x.c.T.au-1)) up),0)]),cw:=(x.cw.U,x.cw.pk,false,0,0,0,false,false,As .i64 (kC up x.cZ x.skip) (gu .i64 (wr .i64 (sd .i64 1 x.c.T.au-1)) up)),bX:=e,cu:=0,bh:=-1,dJ:=-1})
   ⟨hJ.Wn ho hc hm2,w8 rfl hms hI'.OA (hI'.Qk (by rw[hph];decide)),fun m hm h=>absurd h (hN m hm),gS _ _,by simp,by show e.l.length<=_;rw[he];exact aq _,bN _ _⟩
theorem UU(hE:gV c R)(hJ:Jv c R H x)(hI:Inv c R H x)(hN:kr x.out)(hz:Sm 5000 x):
  Wc (iV x.c x.d_ x.l x.cw x.cu x.dp x.lU x.cZ x.eU x.bh x.skip x.dJ x.vP x.eQ x.out x.bX now up) (DX c R H 1 100 x):=by
 have hz1:=hz.1;have hz2:=hz.2.1;have hz3:=hz.2.2;have hsx:0<=x.c.T.au/\x.c.T.au<=8:=by rw[hJ.hc];exact hE.sw
 unfold iV fG;dsimp only[ad];have hO:Ak x:=fun m hm h=>absurd h (hN m hm);refine Wc.cond (fun _=>Wc.some ⟨hJ,hI,hO,cE,aO _,aO _,bN _ _⟩) fun h6=>?_;have h6':x.cu≠6:=by simpa using h6
 refine Wc.mP (UR hsx (by omega) hN) ?_;rintro _ ⟨o,a,rfl,hl,hn⟩;dsimp only;have hz':Sm 6000 {x with out:=o,eQ:=a}:=⟨by show x.l.l.length<=_;omega,by show x.bX.l.length<=_;omega,by show o.l.length<=_;omega⟩
 refine Wc.cond (fun hb=>?_) fun hb=>Wc.cond (fun hb5=>?_) fun _=>?_
 .refine Wc.Aq ((XM (x:={x with out:=o,eQ:=a}) hsx (by show o.l.length<_;omega) hn).mono ?_);rintro _ ⟨o',b,rfl,hl',hn'⟩;exact⟨hJ,hI,fun m hm h=>absurd h (hn' m hm),cE,aO _,aO _,by show o'.l.length<=x.out.l.length+100;have:o'.l.length<=o.l.length+8:=hl';omega⟩
 .have h5:x.cu=5:=eq_of_beq hb5;exact Wc.Aq ((XN (x:={x with out:=o,eQ:=a}) hE hJ hI h5 hn hz').mono fun y h=>⟨h.jv,h.inv,h.out,h.sz.pW,h.sz.l,h.sz.e,by have:=h.sz.o;have:y.out.l.length<=o.l.length+64:=this;omega⟩)
 .have h0:x.cu≠0:=by simpa using hb
  exact Wc.Aq ((UQ (x:={x with out:=o,eQ:=a}) hE hJ hI ⟨h0,h6'⟩ hn hz').mono fun y h=>⟨h.jv,h.inv,h.out,h.sz.pW,h.sz.l,h.sz.e,by have:=h.sz.o;have:y.out.l.length<=o.l.length+64:=this;omega⟩)
theorem IZ{m:aa}:∃b,kL x.c x.d_ x.l x.cw x.cu x.dp x.lU x.cZ x.eU x.bh x.skip x.dJ x.vP x.eQ x.out x.bX m=some (b,x.tu)/\(b=true->1<=x.cu/\x.cu<=5):=by unfold kL tY;simp only[ad];cases(Df x.cZ (wr .i64 (wr .i64 (m.Rd*8)+m.Sw))&&(kp x.cZ (0,0,0,0,0,0,0,0,0,Sl.nil) (wr .i64 (wr .i64 (m.Rd*8)+m.Sw))).cN==m.Of)with|false=>exact⟨false,rfl,fun h=>nomatch h⟩|true=>refine⟨_,rfl,fun h=>?_⟩;simp only[Bool.or_eq_true,aw,decide_eq_true_eq,beq_iff_eq]at h;omega
theorem UT(hE:gV c R)(hJ:Jv c R H x)(hI:Inv c R H x)(hN:kr x.out)(hz:Sm 5000 x){m:aa}(hm:0<=m.Sw/\m.Sw<8):
  Wc (oc x.c x.d_ x.l x.cw x.cu x.dp x.lU x.cZ x.eU x.bh x.skip x.dJ x.vP x.eQ x.out x.bX now m up) (DX c R H 1 100 x):=by
 have hz1:=hz.1;have hz2:=hz.2.1;have hz3:=hz.2.2;have hO:Ak x:=fun m hm h=>absurd h (hN m hm);have hstay:DX c R H 1 100 x x:=⟨hJ,hI,hO,cE,aO _,aO _,bN _ _⟩
 unfold oc;refine Wc.cond (fun hb=>?_) fun _=>?_
 .have h0:x.cu=0:=eq_of_beq hb;have ho:=hI.T6 h0;refine Wq.mP (P:=fun b=>b=true->p7 .i64 (od .i64 x.cw.og m.Sw) 1=1) ?_ ?_
  .refine Wq.cond (fun _=>?_) fun _=>Wq.some fun h=>nomatch h
   rw[AA hm.1];exact Wq.some fun h=>eq_of_beq h
  .rintro b hb;refine Wc.cond (fun ht=>?_) fun _=>Wc.some hstay;have hbit:=hb ht;rw[vW (by omega) (zE ho hm hbit)];simp only[ad];obtain⟨e,he,hn⟩:=Gu (x:={x with l:=.mk (x.l.l++[(7,x.cw.U,m.Sw,0)]),cw:=(x.cw.U,x.cw.pk,x.cw.jg,x.cw.eL,x.cw.At,x.cw.fC,x.cw.oe,x.cw.bH,gu .i64 x.cw.og (sd .i64 1 m.Sw))}) (now:=now) (k:=11) (sw:=m.Sw) (a:=0) (b:=0) (by show x.bX.l.length<_;omega);dsimp only at hn
   erw[hn]
   refine Wc.some (x:={x with l:=.mk (x.l.l++[(7,x.cw.U,m.Sw,0)]),cw:=(x.cw.U,x.cw.pk,x.cw.jg,x.cw.eL,x.cw.At,x.cw.fC,x.cw.oe,x.cw.bH,gu .i64 x.cw.og (sd .i64 1 m.Sw)),bX:=e}) ⟨hJ.S3 ho hm hbit,?_,hO,gS _ _,by simp,by show e.l.length<=_;rw[he];exact aq _,bN _ _⟩;show Ao c R H _ x.cu _ _ _ _;rw[h0];exact w8 ho hI.Ka hI.OA (hI.Qk (by rw[h0];decide))
 .obtain ⟨b,hb,hph⟩:=IZ (x:=x) (m:=m);rw[hb];simp only[ad];refine Wc.cond (fun _=>Wc.some hstay) fun _=>?_;unfold tY;simp only[ad];have hd:=Ux (m:=x.cZ) (k:=wr .i64 (wr .i64 (m.Rd*8)+m.Sw));have hI':=hI.abh hd.1 hd.2 hI.Ka;refine Wc.cond (fun hb=>?_) fun _=>?_
  .have hz:(wb x.cZ (wr .i64 (wr .i64 (m.Rd*8)+m.Sw))).es=[]:=by have:=eq_of_beq hb;exact kX (by omega)
   exact Wc.Aq ((RD (x:={x with cZ:=wb x.cZ (wr .i64 (wr .i64 (m.Rd*8)+m.Sw))}) hE hJ hI' hz hN ⟨by show x.l.l.length<=_;omega,by show x.bX.l.length<=_;omega,by show x.out.l.length<=_;omega⟩).mono fun y h=>⟨h.jv,h.inv,h.out,h.sz.pW,h.sz.l,h.sz.e,by have:=h.sz.o;have:y.out.l.length<=x.out.l.length+64:=this;omega⟩)
  .exact Wc.some (x:={x with cZ:=wb x.cZ (wr .i64 (wr .i64 (m.Rd*8)+m.Sw))}) ⟨hJ,hI',fun m hm h=>absurd h (hN m hm),cE,aO _,aO _,bN _ _⟩
theorem RF(hE:gV c R)(hJ:Jv c R H x)(hI:Inv c R H x)(hN:kr x.out)(hz:Sm 5000 x){m:aa}(hf:Ow m.nq.l):
  Wc (jQ x.c x.d_ x.l x.cw x.cu x.dp x.lU x.cZ x.eU x.bh x.skip x.dJ x.vP x.eQ x.out x.bX now m up) (DX c R H 1 100 x):=by
 have hz1:=hz.1;have hz2:=hz.2.1;have hz3:=hz.2.2;have hO:Ak x:=fun m hm h=>absurd h (hN m hm);have hstay:DX c R H 1 100 x x:=⟨hJ,hI,hO,cE,aO _,aO _,bN _ _⟩
 unfold jQ fG;dsimp only[ad];refine Wq.mP (P:=fun r=>∃b,r=(b,x.lp)/\(b=false->x.cu≠6/\0<=m.Sw/\m.Sw<8)) ?_ ?_
 .refine Wq.cond (fun _=>Wq.some ⟨true,rfl,fun h=>nomatch h⟩) fun h6=>?_;refine(NB hf).bind ?_;rintro r hr;refine Wq.some ⟨_,rfl,fun h=>⟨by simpa using h6,?_⟩⟩;simp only[cJ,Bool.not_eq_false']at h;exact hr h.1
 .rintro _ ⟨b,rfl,hb⟩;dsimp only;refine Wc.cond (fun _=>Wc.some hstay) fun hf'=>?_;obtain⟨h6,hs⟩:=hb hf';refine Wc.cond (fun _=>?_) fun _=>Wc.cond (fun _=>Wc.some hstay) fun _=>Wc.cond (fun _=>Wc.Aq (UT hE hJ hI hN hz hs)) fun _=>?_
  .rw [jq (i:=m.Sw) (n:=8) hs.1 (by omega)];simp only[ad];refine Wq.mP SE ?_;rintro⟨r1,r2⟩ _;refine Wc.cond (fun _=>Wc.some (x:={x with vP:=Arr.set x.vP m.Sw.toNat r1}) ⟨hJ,hI,hO,cE,aO _,aO _,bN _ _⟩) fun _=>Wc.some hstay
  .refine Wq.mP (P:=fun r=>∃b,r=(b,x.lp)/\(b=true->1<=x.cu/\x.cu<=5)) ?_ ?_
   .refine Wq.cond (fun _=>?_) fun _=>Wq.some ⟨false,rfl,fun h=>nomatch h⟩;obtain⟨b,hb,hph⟩:=IZ (x:=x) (m:=m);rw[hb];exact Wq.some ⟨b,rfl,hph⟩
   .rintro _ ⟨b,rfl,hb⟩;dsimp only;refine Wc.cond (fun ht=>?_) fun _=>Wc.some hstay;have hph:=hb ht;obtain⟨ho,hp⟩:=hI.Oo (by omega) (by omega);exact Wc.Aq ((DR hE hJ ho hp hI.Ka hN ⟨by omega,by omega,by omega⟩).mono fun y h=>⟨h.jv,h.inv,h.out,h.sz.mono (by omega) (by omega)⟩)
end
end Go.Proofs.YtoekkpmeeclpeaaGreat.S
open Go.Ev Go
namespace Go.Proofs.YtoekkpmeeclpeaaGreat.S
section
variable{c:ai}{R:Sl (Sl (Sl Int))}{H:List bR}{x:Cx}{now up:Int}
def Mu(n:Nat)(l:List aa):Prop:=l.length<=n/\∀m∈l,m.cN=3/\(0<=m.Sw/\m.Sw<8)/\(0<=m.Rd/\m.Rd<8)
theorem Mu.nil:Mu 0 []:=⟨aq _,fun _ h=>(aW h).elim⟩
theorem Mu.mono{n m:Nat}{l:List aa}(h:Mu n l)(h1:n<=m):Mu m l:=⟨Nat.le_trans h.1 h1,h.2⟩
theorem Mu.add{n:Nat}{l:List aa}{m:aa}(h:Mu n l)(h1:m.cN=3)(h2:0<=m.Sw/\m.Sw<8)(h3:0<=m.Rd/\m.Rd<8):Mu (n+1) (l++[m]):=
 ⟨by have:=h.1;rw[aA,aP];omega,fun q hq=>by
  rcases List.mem_append.1 hq with hq|hq
  .exact h.2 q hq
  .rw [List.mem_singleton.1 hq];exact⟨h1,h2,h3⟩⟩
theorem MR{i:Int}{s:af}{q:Sl fZ}{ms:Sl aa}{n:Nat}(hi:0<=i/\i<8)(hq:q.l.length<=8/\∀p∈q.l,0<=p.1/\p.1<8)(hm:Mu n ms.l)(hn:n<=1000):
  Wq (aU (mq i s q) (0,ms)) fun r=>Mu (n+8) r.l:=by
 refine Wq.up q.l.length (by omega) (fun j r=>Mu (n+j) r.l) hm ?_;rintro j r hj hr;dsimp only[mq];refine Wq.cond (fun hb=>?_) (fun hb=>Wq.some (hr.mono (by omega)));have hlt:j<q.l.length:=by have:=of_decide_eq_true hb;omega
 rw[bS hlt];simp only[ad];have hl:=hr.1;rw[pJ (by rw[aA,aP];omega)];exact Wq.some ⟨_,rfl,hlt,hr.add rfl (hq.2 _ (by rw[cU hlt];exact aX _)) hi⟩
theorem RG(hE:gV c R)(hJ:Jv c R H x)(hI:Inv c R H x)(hN:kr x.out)(hz:Sm 5000 x){k:Int}:
  Wq (ia x.c x.d_ x.l x.cw x.cu x.dp x.lU x.cZ x.eU x.bh x.skip x.dJ x.vP x.eQ x.out x.bX now k up) fun t=>∃e y,t=(e,Cx.tu y)/\DX c R H 1 100 x y:=by
 have hz1:=hz.1;have hz2:=hz.2.1;have hz3:=hz.2.2;have hO:Ak x:=fun m hm h=>absurd h (hN m hm);have hstay:DX c R H 1 100 x x:=⟨hJ,hI,hO,cE,aO _,aO _,bN _ _⟩
 have hsw:=hE.sw;unfold ia fG;dsimp only[ad];refine Wq.cond (fun _=>Wq.some ⟨_,x,rfl,hstay⟩) fun h1=>?_;simp only[cJ,bne_eq_false_iff_eq,decide_eq_false_iff_not]at h1;obtain⟨⟨hph,hout⟩,hu⟩:=h1;have ho:=hI.T6 hph;refine Wq.bind (P:=fun b=>b=false->(0<=k/\k<R.l.length)/\(0<=now/\now<=1099511627776)) ?_ ?_
 .refine Wq.cond (fun _=>Wq.some fun h=>nomatch h) fun hk=>?_;refine Wq.some fun h=>?_;rw[hJ.hR]at hk;simp only[cJ,decide_eq_false_iff_not]at hk;simp only[Bool.not_eq_false',aw,decide_eq_true_eq]at h;omega
 rintro b hb;refine Wq.cond (fun _=>Wq.some ⟨_,x,rfl,hstay⟩) fun hbf=>?_;obtain⟨hk,ht⟩:=hb hbf;rw[If hE hJ.hc hJ.hR hJ.now hk];obtain⟨p,e,hp,hpok⟩:=CY hE hJ.now hk ht;rw[hp];simp only[ad];refine Wq.cond (fun _=>Wq.some ⟨_,x,rfl,hstay⟩) fun he=>?_;have he0:e=0:=by simpa using he
 subst he0;have hpl:=hpok rfl;have hrl:=hpl.rl;refine(xk hpl hsw.2).bind ?_;rintro⟨r1,r2⟩ _;dsimp only;refine Wq.cond (fun _=>Wq.some ⟨_,x,rfl,hstay⟩) fun _=>?_;refine Wq.bind (P:=fun q=>q=.inl (15,x.lp)\/∃ms:Sl aa,q=.inr (x.c,x.d_,x.cw,x.cu,x.dp,x.lU,x.eU,x.bh,x.skip,x.dJ,x.vP,x.eQ,ms,x.l,x.cZ,x.out,x.bX)/\Mu 64 ms.l) ?_ ?_
 .refine Wq.up p.aY.l.length (by omega) (fun i t=>∃ms:Sl aa,t=(x.c,x.d_,x.cw,x.cu,x.dp,x.lU,x.eU,x.bh,x.skip,x.dJ,x.vP,x.eQ,ms,x.l,x.cZ,x.out,x.bX)/\Mu (8*i) ms.l) ⟨Sl.nil,rfl,Mu.nil⟩ ?_;rintro i _ hi ⟨ms,rfl,hm⟩;dsimp only[mo];refine Wq.cond (fun hb=>?_) (fun hb=>Wq.some (.inr ⟨ms,rfl,hm.mono (by omega)⟩));have hlt:i<p.aY.l.length:=by have:=of_decide_eq_true hb;omega
  rw[bS hlt];simp only[ad];obtain⟨hl,hs8⟩:=hpl.sw (gt p.aY.l i) (by rw[cU hlt];exact aX _);refine(VW hl fun s h=>by have:=hs8 s h;omega).bind ?_;rintro _ ⟨s,b,rfl,_⟩;dsimp only;refine Wq.cond (fun _=>Wq.some (.inl rfl)) fun _=>?_;refine(Nf hpl _).bind ?_;rintro q ⟨q1,q2⟩;refine(MR (i:=(i:Int)) ⟨by omega,by omega⟩ ⟨q1,fun p hp=>by have:=q2 p hp;omega⟩ hm (by omega)).bind ?_;rintro ms' hm';exact Wq.some ⟨_,rfl,hlt,ms',rfl,hm'.mono (by omega)⟩
 .rintro _ (rfl|⟨ms,rfl,hm⟩)
  .exact Wq.some ⟨15,x,rfl,hstay⟩
  .have hu0:=hJ.u;dsimp only;rw[pX (n:=x.cw.U+1) (by omega) (by omega)];have hJ':=hJ.abM hE ho hout (by omega) hk ht hp;have hrR:=hE.len;rw[vW (by omega) (Db ho hout (pX (n:=x.cw.U+1) (by omega) (by omega)).symm ⟨hk.1,by omega⟩ ⟨ht.1,by omega⟩)];simp only[ad];obtain⟨e,he,hn⟩:=Gu (x:={x with l:=.mk (x.l.l++[(1,x.cw.U+1,k,now)]),cw:=(x.cw.U+1,x.cw.pk,true,k,now,0,false,false,0),dp:=p,skip:=0}) (now:=now) (k:=8) (sw:=0) (a:=p.X5) (b:=p.To) (by show x.bX.l.length<_;omega);dsimp only at hn
   erw[hn]
   dsimp only[ad];have hask:Ask ms.l:=⟨hm.1,fun m h=>⟨(hm.2 m h).2.1,(hm.2 m h).2.2⟩⟩
   refine Wc.bind (Mk (x:={x with l:=.mk (x.l.l++[(1,x.cw.U+1,k,now)]),cw:=(x.cw.U+1,x.cw.pk,true,k,now,0,false,false,0),dp:=p,skip:=0,bX:=e,cu:=1}) (now:=now) hask (by show x.out.l.length<_;omega)) ?_;rintro _ ⟨o,w,rfl,hw,hmem,hnil,hlen,hout'⟩;refine Wq.some ⟨0,{x with l:=.mk (x.l.l++[(1,x.cw.U+1,k,now)]),cw:=(x.cw.U+1,x.cw.pk,true,k,now,0,false,false,0),dp:=p,skip:=0,bX:=e,cu:=1,cZ:=w,out:=o,eU:=now},rfl,hJ',?_,zB hN hout',gS _ _,by simp,by show e.l.length<=_;rw[he];exact aq _,by have:o.l.length<=x.out.l.length+64:=hlen;show o.l.length<=_;omega⟩;have hnw:yQ w:=fun e he=>by rw[(hm.2 _ (hmem e he)).1];decide
   exact⟨⟨by show(0:Int)<=1;decide,by show(1:Int)<=6;decide⟩,⟨gJ 0,(by decide:(0:Int)<256)⟩,fun h=>absurd h (show¬(1:Int)=0 by decide),fun _ _=>⟨rfl,hp⟩,fun _=>⟨rfl,rfl,rfl⟩,fun h=>absurd h (show¬(1:Int)=2 by decide),fun h=>absurd h (show¬((1:Int)=3\/(1:Int)=4)by decide),fun h=>absurd h (show¬(1:Int)=5 by decide),hw,fun e he h=>absurd h (hnw e he),fun e he h=>absurd h (hnw e he)⟩
theorem Fm:∃es ask,o9=some (0,(Sl.nil,Sl.nil,0,0,0,0),0,Mp.none,0,-1,0,-1,es,ask,Sl.nil,Sl.nil):=by
 have H:Wq o9 fun t=>∃es ask,t=(0,(Sl.nil,Sl.nil,0,0,0,0),0,Mp.none,0,-1,0,-1,es,ask,Sl.nil,Sl.nil):=by
  unfold o9;refine Wq.bind (P:=fun t=>∃es ask,t=(0,(Sl.nil,Sl.nil,0,0,0,0),0,0,-1,0,-1,es,ask,Mp.none,Sl.nil,Sl.nil)) ?_ ?_
  .refine Wq.up 8 (by omega) (fun i t=>∃es ask,t=(0,(Sl.nil,Sl.nil,0,0,0,0),0,0,-1,0,-1,es,ask,Mp.none,Sl.nil,Sl.nil)) ⟨_,_,rfl⟩ ?_;rintro i _ hi ⟨es,ask,rfl⟩;dsimp only[vU];refine Wq.cond (fun hb=>?_) (fun hb=>Wq.some ⟨_,_,rfl⟩);have hlt:i<8:=by have:=of_decide_eq_true hb;omega
   rw[jq (i:=(i:Int)) (n:=8) (by omega) (by omega)];exact Wq.some ⟨_,rfl,hlt,_,_,rfl⟩
  .rintro _ ⟨es,ask,rfl⟩;exact Wq.some ⟨_,_,rfl⟩
 obtain⟨t,h,es,ask,rfl⟩:=H;exact⟨es,ask,h⟩
theorem TW{s:af}{dp:am}{lU:Int}{sk:Int}(hs:M8 sk):Ao c R H s 6 dp lU .none sk:=⟨by decide,hs,fun h=>absurd h (by decide),fun _ h=>absurd rfl h,fun h=>absurd h (by decide),fun h=>absurd h (by decide),fun h=>absurd h (by decide),fun h=>absurd h (by decide),.none,fun _ h=>(aW h).elim,fun _ h=>(aW h).elim⟩
theorem Xd:M8 0:=⟨gJ 0,by decide⟩
theorem UW(hJ:Jv c R H x):
  Wc (qQ x.c x.d_ x.l x.cw x.cu x.dp x.lU x.cZ x.eU x.bh x.skip x.dJ x.vP x.eQ x.out x.bX) (DX c R H 1 100 x):=by
 unfold qQ;obtain⟨es,ask,h⟩:=Fm;rw[h];exact⟨⟨x.c,x.d_,x.l,x.cw,6,(Sl.nil,Sl.nil,0,0,0,0),0,.none,0,-1,0,-1,es,ask,.nil,.nil⟩,rfl,hJ,TW Xd,fun _ h=>(aW h).elim,cE,aO _,cp _,cp _⟩
theorem UV(hE:gV c R)(hJ:Jv c R H x)(hI:Inv c R H x)(hN:kr x.out)(hz:Sm 5000 x):
  Wc (qP x.c x.d_ x.l x.cw x.cu x.dp x.lU x.cZ x.eU x.bh x.skip x.dJ x.vP x.eQ x.out x.bX now up) (DX c R H 1 100 x):=by
 have hz1:=hz.1;have hz2:=hz.2.1;have hz3:=hz.2.2;have hO:Ak x:=fun m hm h=>absurd h (hN m hm);unfold qP;refine Wc.cond (fun _=>Wc.some ⟨hJ,hI,hO,cE,aO _,aO _,bN _ _⟩) fun h6=>?_;have hph:x.cu=6:=by simpa using h6
 have hnw:yQ x.cZ:=hI.Qk (by omega);refine Wc.cond (fun ho=>?_) fun ho=>?_
 .have ho:x.cw.jg=false:=by simpa using ho
  exact Wc.some (x:={x with cu:=0}) ⟨hJ,w8 ho hI.Ka hI.OA hnw,hO,cE,aO _,aO _,bN _ _⟩
 .have ho:x.cw.jg=true:=by simpa using ho
  obtain⟨ht,ha,_,p,hp⟩:=hJ.op ho;have hmk:=If (x:={x with cu:=0}) (t:=x.cw.At) hE hJ.hc hJ.hR hJ.now ht;dsimp only at hmk;rw[hmk];unfold Al at hp;rw[hp];dsimp only[ad];refine Wc.cond (fun hb=>?_) fun _=>?_
  .simp only[aw,Bool.not_eq_true']at hb;exact Wc.some (x:={x with cu:=3,dp:=p}) ⟨hJ,Dq (.inl rfl) ho hb.1 hb.2 hp hI.Ka hI.OA hnw,hO,cE,aO _,aO _,bN _ _⟩
  .exact Wc.Aq ((DR (x:={x with cu:=0,dp:=p}) hE hJ ho hp hI.Ka hN ⟨by show x.l.l.length<=_;omega,by show x.bX.l.length<=_;omega,by show x.out.l.length<=_;omega⟩).mono fun y h=>⟨h.jv,h.inv,h.out,h.sz.pW,h.sz.l,h.sz.e,by have:=h.sz.o;have:y.out.l.length<=x.out.l.length+64:=this;omega⟩)
structure ae_(d:ba):Prop where
 now:0<=d.pk/\d.pk<=1099511627776
 few:Ow d.M.nq.l
theorem PV{eU:Sl aa}{n:Int}(hl:eU.l.length<=1000000):∃m b,sP eU n=some (m,b,eU):=by
 have H:Wq (sP eU n) fun t=>∃m b,t=(m,b,eU):=by unfold sP;refine Wq.cond (fun _=>Wq.some ⟨_,_,rfl⟩) fun hb=>?_;simp only[cJ,beq_eq_false_iff_ne,decide_eq_false_iff_not]at hb;obtain⟨h1,h2⟩:=hb;have h3:0<=n.tmod eU.l.length:=Int.tmod_nonneg _ (by omega);have h4:n.tmod eU.l.length<eU.l.length:=Int.tmod_lt_of_pos _ (by omega);unfold PJ;rw[if_neg h1];simp only[ad];rw[jq h3 h4];exact Wq.some ⟨_,_,rfl⟩
 obtain⟨t,h,m,b,rfl⟩:=H;exact⟨m,b,h⟩
theorem KR{m:aa}:∃r,rU m=some r/\Ow r.nq.l:=by
 have h0:Ow ([]:List bl):=⟨by simp,fun _ h=>(aW h).elim⟩
 unfold rU;cases(m.cN==1)<;>exact⟨_,rfl,h0⟩
theorem Fc{α:Type}(s:Sl α):my s s=some ():=by cases s with|nil=>rfl|mk l=>exact if_pos rfl
abbrev abT(c:ai)(R:Sl (Sl (Sl Int)))(H:List bR)(x:Cx)(eU:Sl aa)(r:(ai×Sl (Sl (Sl Int))×af×Int×am×Int×Int×Int×Int×Int×Arr 8 ak×Arr 8 Int×Sl aa×Sl aj×Mp Int aa×Sl aa×Sl ax)⊕(Int×Tl)):Prop:=∃y,DX c R H 1 100 x y/\(r=.inl (y.c,y.d_,y.cw,y.cu,y.dp,y.lU,y.eU,y.bh,y.skip,y.dJ,y.vP,y.eQ,eU,y.l,y.cZ,y.out,y.bX)\/∃e,r=.inr (e,y.lp))
theorem XL(hE:gV c R)(hJ:Jv c R H x)(hI:Inv c R H x)(hN:kr x.out)(hz:Sm 5000 x){d:ba}(hd:Ow d.M.nq.l){eU:Sl aa}(hs:eU.l.length<=1000000):
  Wq (vK x.c x.d_ x.l x.cw x.cu x.dp x.lU x.cZ x.eU x.bh x.skip x.dJ x.vP x.eQ x.out x.bX d eU) fun t=>∃(e:Int)(y:Cx),t=(e,y.c,y.d_,y.l,y.cw,y.cu,y.dp,y.lU,y.cZ,y.eU,y.bh,y.skip,y.dJ,y.vP,y.eQ,y.out,y.bX,eU)/\DX c R H 1 100 x y:=by
 have hO:Ak x:=fun m hm h=>absurd h (hN m hm);have hstay:DX c R H 1 100 x x:=⟨hJ,hI,hO,cE,aO _,aO _,bN _ _⟩
 unfold vK;refine Wq.bind (P:=abT c R H x eU) ?_ ?_
 .refine Wq.cond (fun _=>?_) fun _=>?_
  .refine (RG hE hJ hI hN hz).bind ?_;rintro _ ⟨e,y,rfl,h⟩;exact Wq.some ⟨y,h,.inr ⟨e,rfl⟩⟩
  refine Wq.bind (P:=fun _=>True) (Wq.cond (fun _=>Wq.some trivial) fun _=>Wq.some trivial) ?_;rintro b _;refine Wq.cond (fun _=>?_) fun _=>Wq.cond (fun _=>?_) fun _=>Wq.cond (fun _=>?_) fun _=>Wq.cond (fun _=>?_) fun _=>Wq.cond (fun _=>?_) fun _=>?_
  .refine (UU hE hJ hI hN hz).bind ?_;rintro y h;exact Wq.some ⟨y,h,.inl rfl⟩
  .refine (RF hE hJ hI hN hz hd).bind ?_;rintro y h;exact Wq.some ⟨y,h,.inl rfl⟩
  .obtain ⟨m,b,hp⟩:=PV (n:=d.N) hs;rw[hp];dsimp only[ad];rw[Fc];dsimp only[ad];refine Wq.cond (fun _=>?_) fun _=>Wq.some ⟨x,hstay,.inl rfl⟩;obtain⟨r,hr,hf⟩:=KR (m:=m);rw[hr];dsimp only[ad];refine(RF hE hJ hI hN hz hf).bind ?_;rintro y h;exact Wq.some ⟨y,h,.inl rfl⟩
  .refine (UW hJ).bind ?_;rintro y h;exact Wq.some ⟨y,h,.inl rfl⟩
  .refine (UV hE hJ hI hN hz).bind ?_;rintro y h;exact Wq.some ⟨y,h,.inl rfl⟩
  .exact Wq.some ⟨x,hstay,.inl rfl⟩
 .rintro _ ⟨y,h,rfl|⟨e,rfl⟩⟩
  .exact Wq.some ⟨0,y,rfl,h⟩
  .exact Wq.some ⟨e,y,rfl,h⟩
end
end Go.Proofs.YtoekkpmeeclpeaaGreat.S
