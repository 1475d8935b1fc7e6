/- Answers, side by side. Conditions: as stated. -/
import Derived.Test.YtoekkpmeeclpeaaGreatHd
open Bool renaming false_and->oo,not_true->bX,or_eq_false_iff->bV,or_false->j7
open Int renaming le_refl->gI
open List renaming filter_append->ic,flatMap_append->jk,length_append->au,length_map->br,length_take->bw,mem_map->aR,mem_range->ct,not_mem_nil->bF,range->aG,range_succ->ii
open List.Pairwise renaming imp_of_mem->j6
open Nat renaming le_refl->aw,le_trans->bg
open Option renaming bind_some->aa
open Go.Ev Go
noncomputable section
namespace Go.Proofs.YtoekkpmeeclpeaaGreat.S
def An(m w:ac):Prop:=w.Sw=m.Sw/\w.Rd=m.Rd/\w.bP=m.Of
theorem IH.cp{k m:Nat}{x y:Cx}{r s:Rx}(h:IH k x r)(e:k<=m)(h1:y.l=x.l)(h2:y.gq=x.gq)(h3:y.out=x.out)(h4:s.jB=r.jB):IH m y s:=⟨by rw[h1];exact bg h.l e,by rw[h2];exact bg h.e e,by rw[h3];exact bg h.o e,by rw[h4];exact bg h.s e⟩
section
variable{c:aA}{R:Sl (Sl (Sl Int))}{n K:Nat}{x:Cx}{r:Rx}{now up:Int}{m:ac}
theorem afy(h:Rl n x r):(∃i:Nat,ke r.tu m=some ((i:Int),r.tu)/\i<r.fN.l.length/\An m (gt r.fN.l i))\/(ke r.tu m=some (-1,r.tu)/\∀w∈r.fN.l,¬An m w):=by
 have h64:=h.eG.ok.len;have hlen:=h.eG.len
 have H:Wq (aJ (uC r.tu m) 0) fun q=>(∃i:Nat,q=.inl (i:Int)/\i<r.fN.l.length/\An m (gt r.fN.l i))\/(q=.inr ()/\∀w∈r.fN.l,¬An m w):=by
  refine Wq.loop (fun a=>r.fN.l.length-a.toNat) (fun a=>∃i:Nat,a=i/\i<=r.fN.l.length/\∀w∈r.fN.l.take i,¬An m w) ⟨0,rfl,by omega,by simp⟩ ?_;rintro _ ⟨i,rfl,hi,hm⟩;dsimp only[uC];simp only[Rx.pr];refine Wq.cond (fun hb=>?_) fun hb=>Wq.some (.inr ⟨rfl,?_⟩)
  .have hlt:i<r.fN.l.length:=by have:=of_decide_eq_true hb;omega
   rw[aY hlt];refine Wq.cond (fun e=>Wq.some (.inl ⟨i,rfl,hlt,?_⟩)) fun e=>Wq.some ⟨⟨i+1,fE (by omega) (by omega),by omega,?_⟩,?_⟩
   .simp only[Bool.and_eq_true,beq_iff_eq]at e;exact⟨e.1.1,e.1.2,e.2⟩
   .rw [uu hlt];intro w hw;rcases List.mem_append.1 hw with hw|hw
    .exact hm w hw
    .rintro ⟨a1,a2,a3⟩;simp_all
   .rw [fE (by omega) (by omega)];omega
  grind
 unfold ke;obtain⟨q,hq,⟨i,rfl,h1,h2⟩|⟨rfl,h1⟩⟩:=H
 .grind
 .rw [hq];exact .inr ⟨rfl,h1⟩
theorem aeP(hs:0<=m.Sw/\m.Sw<8)(hr:-1<=m.Rd/\m.Rd<=7):Ao m.Rd m.Sw=some (ky m):=by unfold Ao ky;rw[fE (n:=m.Rd*8) (by omega) (by omega),fE (by omega) (by omega)]
theorem aew{w:ac}(hw:(0<=w.Sw/\w.Sw<8)/\(0<=w.Rd/\w.Rd<8))(hs:0<=m.Sw/\m.Sw<8):ky w=ky m<->w.Sw=m.Sw/\w.Rd=m.Rd:=by unfold ky;omega
theorem Yq(h:Rl n x r)(hph:0<=x.cI/\x.cI<=6)(hwe:x.cI=0\/x.cI=3\/x.cI=6->r.fN.l=[])(hs:0<=m.Sw/\m.Sw<8)(hr:-1<=m.Rd/\m.Rd<=7):
  (lW x.tu m=some (true,x.tu)/\(x.cI=1\/x.cI=2\/x.cI=4\/x.cI=5)/\∃i:Nat,ke r.tu m=some ((i:Int),r.tu)/\i<r.fN.l.length/\ky (gt r.fN.l i)=ky m)\/
  (lW x.tu m=some (false,x.tu)/\ke r.tu m=some (-1,r.tu)):=by
 unfold lW;rw[aeP hs hr];simp only[aa,Cx.pr];rcases afy (m:=m) h with⟨i,h1,h2,h3⟩|⟨h1,h3⟩
 .have hm:=t7 h2;have hk:=h.eG.key hm;have hky:=(aew hk hs).2 ⟨h3.1,h3.2.1⟩;obtain⟨g1,g2⟩:=h.eG.get hm;rw[hky]at g1 g2
  have hph2:x.cI=1\/x.cI=2\/x.cI=4\/x.cI=5:=by
   grind
  rw[g1,g2,bq h3.2.2]
  grind
 .refine .inr ⟨?_,h1⟩
  have e:(Db x.eG (ky m)&&(lS x.eG (0,0,0,0,0,0,0,0,0,Sl.nil) (ky m)).bP==m.Of)=false:=by
   by_cases hex:∃w∈r.fN.l,ky w=ky m
   .obtain ⟨w,hw,hkw⟩:=hex;obtain⟨g1,g2⟩:=h.eG.get hw;rw[hkw]at g2;obtain⟨a1,a2⟩:=(aew (h.eG.key hw) hs).1 hkw;rw[g2,bn fun e=>h3 w hw ⟨a1,a2,e⟩,Bool.and_false]
   .rw [h.eG.out fun w hw e=>hex ⟨w,hw,e⟩,oo]
  erw[e];rfl
theorem abS(hE:kB c R)(h:Bd c R n K x r)(hK:K<=50000)(h0:0<=now/\now<=1099511627776)(hs:0<=m.Sw/\m.Sw<8)(hr:-1<=m.Rd/\m.Rd<=7):
  C2 (sE x.tu now m up) (sS r.tu now m up) (Bd c R n (K+160)):=by
 have z1:=h.z.l;have z2:=h.z.e;have z3:=h.z.o;have z4:=h.z.s;have h64:=h.rl.eG.ok.len;have hlen:=h.rl.eG.len;unfold sE sS;simp only[Cx.pr,Cx.st,Rx.pr,Rx.st];refine W2.cond (by rw[h.rl.ph]) (fun hb=>?_) fun hb=>?_
 .have h0:x.cI=0:=eq_of_beq hb;have ho:=h.i.aga h0;obtain⟨s,hsn⟩:=Int.eq_ofNat_of_zero_le hs.1;have hs8:s<8:=by omega
  rw[hsn,ED (by omega),h.rl.bK,zR hs8];simp only[aa,Ff hs8];refine W2.bind (P:=fun a b=>b=a/\(a=true->bt x.bK.ik s=true)) ?_ ?_
  .exact W2.cond rfl (fun _=>W2.some ⟨rfl,fun e=>e⟩) fun _=>W2.some ⟨rfl,fun e=>nomatch e⟩
  .rintro b _ ⟨rfl,hbit⟩;refine W2.cond rfl (fun ht=>?_) fun _=>C2.some (h.mono (by omega));obtain⟨w1,w2⟩:=Ca (x:=x) (r:=r) h.z (by omega) h.rl.l h.rl.bK (VS ho h.j.out hs8 (hbit ht));have w2':eY r.tu 7 (ay.U x.bK) (s:Int) 0=_:=w2;rw[w1,w2'];simp only[aa];refine W2.xf (W2.yh ((M3 (x:={x with l:=.mk (x.l.l++[(7,x.bK.U,(s:Int),0)]),bK:=(x.bK.U,x.bK.lh,x.bK.hZ,x.bK.dF,x.bK.At,x.bK.fx,x.bK.lf,x.bK.bD,fQ .i64 x.bK.ik (pS .i64 1 (s:Int)))}) (r:={r with L:=.mk (x.l.l++[(7,x.bK.U,(s:Int),0)]),At:=(x.bK.U,x.bK.lh,x.bK.hZ,x.bK.dF,x.bK.At,x.bK.fx,x.bK.lf,x.bK.bD,fQ .i64 x.bK.ik (pS .i64 1 (s:Int)))}) (n:=n) ⟨h.rl.c,h.rl.sw,h.rl.rt,rfl,rfl,h.rl.ph,h.rl.pl,h.rl.nv,h.rl.eG,h.rl.gE,h.rl.bH,h.rl.FY,h.rl.skip,h.rl.GF,h.rl.zj,h.rl.vF,h.rl.ask,h.rl.out,h.rl.ev,h.rl.wn,h.rl.fo⟩ (k:=K+1) ⟨by simp;omega,by show x.gq.l.length<=_;omega,by show x.out.l.length<=_;omega,by show r.jB.l.length<=_;omega⟩ (by omega)).mono ?_));rintro _ _ ⟨_,_,rfl,rfl,ev,ev',rfl,rfl,g1,g2⟩;have g2:ev.l.length=x.gq.l.length+1:=g2;exact⟨_,_,rfl,rfl,⟨⟨⟨h.rl.c,h.rl.sw,h.rl.rt,rfl,rfl,h.rl.ph,h.rl.pl,h.rl.nv,h.rl.eG,h.rl.gE,h.rl.bH,h.rl.FY,h.rl.skip,h.rl.GF,h.rl.zj,h.rl.vF,h.rl.ask,h.rl.out,g1,h.rl.wn,h.rl.fo⟩,h.hc,h.hR,h.j.abA,by show Iq c R _ x.cI _ _;rw[h0];exact F9 ho,h.e,by simp;omega,by show ev.l.length<=_;omega,by show x.out.l.length<=_;omega,by show r.jB.l.length<=_;omega⟩,h.r5,h.we⟩⟩
 .have hp0:x.cI≠0:=by simpa using hb
  rcases Yq (m:=m) h.rl h.i.ph h.we hs hr with⟨h1,hph,i,h2,h3,h4⟩|⟨h1,h2⟩
  .rw [h1,h2,aeP hs hr];simp only[aa,bX,cond_false,Rx.pr,Rx.st,Cx.pr,Cx.st];rw[bn (show(i:Int)≠-1 by omega)];simp only[cond_false];have hd:=h.rl.eG.del (k:=ky m);refine W2.aeJ (R:=fun(s:Sl ac)=>s.l=r.fN.l.filter fun q=>decide (ky q≠ky m)) ?_ ?_
   .refine Wq.up r.fN.l.length (by omega) (fun j(s:Sl ac)=>s.l=(r.fN.l.take j).filter fun q=>decide (ky q≠ky m)) rfl ?_;rintro j s hj e1;dsimp only[yL];simp only[Rx.pr];refine Wq.cond (fun hb=>?_) fun hb=>Wq.some ?_
    .have hlt:j<r.fN.l.length:=by have:=of_decide_eq_true hb;omega
     have hle:s.l.length<=j:=by
      grind
     have hne:((j:Int) !=(i:Int))=decide (ky (gt r.fN.l j)≠ky m):=by
      rw[Bool.eq_iff_iff,bne_iff_ne,decide_eq_true_eq];refine not_congr ⟨fun e=>?_,fun e=>?_⟩
      .grind
      .have:=h.rl.eG.N2.inj (t7 hlt) (t7 h3) (e.trans h4.symm);have hpw:=List.pairwise_iff_getElem.1 h.rl.eG.N2;rw[dx hlt,dx h3]at this
       grind
     rw[hne];refine Wq.bind (P:=fun(s:Sl ac)=>s.l=(r.fN.l.take (j+1)).filter fun q=>decide (ky q≠ky m)) ?_ fun s' e=>Wq.some ⟨_,rfl,hlt,e⟩;refine Wq.cond (fun hc=>?_) fun hc=>Wq.some ?_
     .rw [aY hlt];simp only[aa];rw[jw (by grind)];refine Wq.some ?_;rw[uu hlt,ic,Sl.lc,e1];simp_all
     .rw [uu hlt,ic,e1];simp_all
    grind
   .intro s es;rw[<-es]at hd;have hdl:=hd.len;have hsub:∀q∈s.l,q∈r.fN.l:=fun q hq=>by simp_all
    have hB:Bs c R n K {x with eG:=Br x.eG (ky m)} {r with fN:=s}:=
     ⟨⟨h.rl.c,h.rl.sw,h.rl.rt,h.rl.l,h.rl.bK,h.rl.ph,h.rl.pl,h.rl.nv,hd,fun hn=>h.rl.gE fun e=>hn (by show s.l=[];rw[es,e];rfl),h.rl.bH,h.rl.FY,h.rl.skip,h.rl.GF,h.rl.zj,h.rl.vF,h.rl.ask,h.rl.out,h.rl.ev,fun q hq=>h.rl.wn q (hsub q hq),h.rl.fo⟩,
      h.hc,h.hR,h.j,h.i,h.e,h.z.cp (aw _) rfl rfl rfl rfl⟩
    refine W2.cond (by rw[hdl]) (fun hb=>?_) fun hb=>?_
    .have hn:s.l=[]:=List.eq_nil_of_length_eq_zero (by have:=eq_of_beq hb;omega);refine W2.xf (W2.yh ((Yp hE hB hn hph (by omega) h0).mono ?_));rintro _ _ ⟨y,s,rfl,rfl,g⟩;exact⟨y,s,rfl,rfl,g.mono (by omega)⟩
    .have hn:s.l≠[]:=fun e=>by simp_all
     refine C2.some (x:={x with eG:=Br x.eG (ky m)}) (r:={r with fN:=s}) ⟨hB.mono (by omega),fun e=>⟨fun _=>hn,fun _=>?_⟩,fun e=>absurd e (by grind)⟩;refine(h.r5 e).2 fun e'=>hn ?_;rw[es,e'];rfl
  .rw [h1,h2];simp only[aa,Bool.not_false,cond_true];exact C2.some (h.mono (by omega))
theorem Yr(hE:kB c R)(h:Bd c R n K x r)(hK:K<=50000)(h0:0<=now/\now<=1099511627776)(hf:WG m.gW.l):
  C2 (mN x.tu now m up) (qp r.tu now m up) (Bd c R n (K+200)):=by
 obtain⟨hsw,h8⟩:=h.rl.sw;obtain⟨q1,q2⟩:=h.rl.vF;unfold mN qp fC;simp only[aa,Cx.pr,Cx.st,Rx.pr,Rx.st];have hR:=Ra hf;obtain⟨rb,hrb,_⟩:=L6 hf.1;refine W2.bind (P:=fun a b=>a=(b,x.tu)/\(b=false->(0<=m.Sw/\m.Sw<n)/\(-1<=m.Rd/\m.Rd<=7\/m.bP<=2\/m.bP=6))) ?_ ?_
 .refine W2.cond (by rw[h.rl.ph]) (fun _=>W2.some ⟨rfl,fun e=>nomatch e⟩) fun _=>?_;rw[<-hR,hrb];simp only[h.rl.c];simp only[aa];refine W2.some ⟨rfl,fun e=>?_⟩;simp only[bV,Bool.not_eq_false',decide_eq_false_iff_not]at e;obtain⟨e1,e2⟩:=e;subst e1;obtain⟨g1,g2⟩:=Rb hf.1 hrb;exact⟨⟨g1.1,by omega⟩,g2⟩
 .rintro _ b ⟨rfl,hb⟩;simp only[Cx.pr,Cx.st];refine W2.cond rfl (fun _=>C2.some (h.mono (by omega))) fun hbf=>?_;obtain⟨⟨s0,s1⟩,hrd⟩:=hb hbf;refine W2.cond rfl (fun _=>?_) fun hk2=>?_
  .rw [p8 (n:=8) s0 (by omega),p8 (n:=r.GG.l.length) s0 (by omega)];simp only[aa];obtain⟨e',f,g1,g2,g3⟩:=acl (h.e m.Sw.toNat (by omega)) (t1:=m.T1) (t2:=m.T2) (t4:=now) (m:=x.c.BF);rw[g1,q2 _ (by omega),h.rl.c,g2];simp only[aa];refine W2.cond rfl (fun _=>?_) fun _=>C2.some (h.mono (by omega));have gj:∀i,i<8->gt (Arr.set x.vF m.Sw.toNat e').1 i=if m.Sw.toNat=i then e' else gt x.vF.1 i:=fun i hi=>Kb (by have:=x.vF.2;omega)
   exact C2.some (x:={x with vF:=Arr.set x.vF m.Sw.toNat e'}) (r:={r with C:=x.c,GG:=.mk (r.GG.l.set m.Sw.toNat e')})
    ⟨⟨⟨rfl,h.rl.sw,h.rl.rt,h.rl.l,h.rl.bK,h.rl.ph,h.rl.pl,h.rl.nv,h.rl.eG,h.rl.gE,h.rl.bH,h.rl.FY,h.rl.skip,h.rl.GF,h.rl.zj,⟨by simpa using q1,fun i hi=>by
     rw[gj i (by omega),Sl.lc,Kb (by omega)];simp_all⟩,h.rl.ask,h.rl.out,h.rl.ev,h.rl.wn,h.rl.fo⟩,h.hc,h.hR,h.j,h.i,fun i hi=>by
     rw[gj i hi];split
     .exact g3
     .exact h.e i hi,h.z.cp (by omega) rfl rfl rfl rfl⟩,h.r5,h.we⟩
  .have k2:m.bP≠2:=by simpa using hk2
   refine W2.cond (by rw[h.rl.bK]) (fun _=>C2.some (h.mono (by omega))) fun _=>?_;by_cases k7:m.bP=7
   .rw [bq k7,bn (show m.bP≠8 by omega)];simp only[cond_true,oo,cond_false];have hrd':-1<=m.Rd/\m.Rd<=7:=by omega
    refine W2.xf ?_;have:=abS (up:=up) hE h hK h0 (m:=m) ⟨s0,by omega⟩ hrd';obtain⟨a,b,ha,hb,y,s,rfl,rfl,g⟩:=this;rw[ha,hb];exact C2.some (g.mono (by omega))
   .rw [bn k7];simp only[cond_false,aa];by_cases k8:(m.bP==8&&m.Of !=5)=true
    .rw [k8];simp only[cond_true];have hk8:m.bP=8:=by simp_all
     have hrd':-1<=m.Rd/\m.Rd<=7:=by omega
     rcases Yq (m:=m) h.rl h.i.ph h.we ⟨s0,by omega⟩ hrd' with⟨h1,hph,i,h2,h3,h4⟩|⟨h1,h2⟩
     .rw [h1,h2];simp only[aa];rw[decide_eq_true (show(i:Int)>=0 by omega)];simp only[cond_true];obtain⟨ho,hm⟩:=h.i.act (by omega) (by omega);refine W2.xf (W2.yh ((JM hE h.rl h.hc h.hR h.j ho hm h.e h.z (by omega) h0).mono ?_));rintro _ _ ⟨y,s,rfl,rfl,g⟩;exact⟨y,s,rfl,rfl,g.mono (by omega)⟩
     .rw [h1,h2];exact C2.some (h.mono (by omega))
    .have k8:(m.bP==8&&m.Of !=5)=false:=by simpa using k8
     rw[k8];exact C2.some (h.mono (by omega))
end
end Go.Proofs.YtoekkpmeeclpeaaGreat.S
open Go.Ev Go
namespace Go.Proofs.YtoekkpmeeclpeaaGreat.S
theorem Rj(v p:Int):vQ 1 v 10 p=Aa 1 v 10 p:=by
 have e1:nk 1=some 255:=by decide
 have e2:tW 1=some 255:=rfl;have e3:bS 1 4=some 1:=rfl;unfold vQ DJ Aa F3 DS JB;simp[e1,e2];cases decide (v>=0)<;>cases decide (v<=255)<;>rfl
theorem VF(l:Sl aD)(r s:Int):lU l r s=BZ l r s:=by
 have:jY l r s=AK l r s:=by
  funext ⟨i,q⟩;unfold jY AK;dsimp only;generalize decide (i<(l.l.length:Int))=b;cases b with
  |false=>rfl
  |true=>cases bS i l.l.length with|none=>rfl|some n=>simp[Rj];cases(aD.CC _==r)<;>cases(aD.Sw _==s)<;>rfl
 unfold lU BZ;rw[this]
def JX(p:aC)(i:Nat)(s:Int):Sl aV:=(lU p.sH (gt p.aF.l i).No s).getD Sl.nil
def Xx(p:aC)(u:Int)(i:Nat)(s:Int):ac:=(3,s,u,(i:Int),0,0,0,0,0,JX p i s)
def MI(p:aC)(u:Int)(i:Nat):List ac:=(gt p.aF.l i).jm.l.map (Xx p u i)
section
variable{n:Nat}{p:aC}
theorem L9(hp:Pk n p)(i:Nat)(s:Int):lU p.sH (gt p.aF.l i).No s=some (JX p i s):=by obtain⟨q,hq,_⟩:=Py hp.mv.1 hp.mv.2;unfold JX;rw[hq];rfl
theorem Xw(hp:Pk n p)(u:Int)(i:Nat)(s:Int):xk (Xx p u i s):=by
 obtain⟨q,hq,hl⟩:=Py hp.mv.1 hp.mv.2;have e:(Xx p u i s).gW=q:=by show JX p i s=q;unfold JX;rw[hq];rfl
 unfold xk;rw[e,hl];refine⟨?_,fun m hm=>?_⟩
 .rw [br];exact bg (List.length_filter_le _ _) hp.mv.1
 .obtain ⟨a,_,rfl⟩:=aR.1 hm;exact(by decide:1<=16)
theorem Ym(hp:Pk n p){i:Nat}(hi:i<p.aF.l.length):∃q,wa p (i:Int)=some q/\q.l=(gt p.aF.l i).jm.l.map fun s=>(s,JX p i s):=by
 obtain⟨hl,hs,_⟩:=hp.bK hi
 obtain⟨q,h1,h2⟩:=xR (f:=pJ p (i:Int) i) (gt p.aF.l i).jm.l (fun s=>[((s,JX p i s):gX)]) .nil (by omega) (fun j s hj hs'=>by
  have hle:s.l.length<=8:=by rw[hs'];show([]++_:List gX).length<=8;rw[List.nil_append,fm1,br,bw];omega
  simp only[pJ,fT hj,aY hj,aY hi,aa];rw[L9 hp];simp;rw[jw (by grind)];exact⟨_,rfl,rfl⟩) (fun s=>by simp[pJ,ij,cond_false])
 unfold wa;have hc:(decide ((i:Int)<0)||decide ((i:Int)>=(p.aF.l.length:Int)))=false:=by simp_all
 rw[hc];simp only[aY hi,aa,h1];exact⟨q,rfl,by rw[h2,fm1];rfl⟩
theorem Jk(hp:Pk n p)(u:Int):∀i,i<=p.aF.l.length->((aG i).flatMap (MI p u)).length<=8*i
 |0,_=>by simp
 |i+1,h=>by
  rw[ii,jk,au];have h1:=Jk hp u i (by omega);have h2:=(hp.bK (show i<p.aF.l.length by omega)).1
  grind [h3,MI,gt]
theorem Od{u:Int}{i:Nat}{m:ac}(h:m∈(aG i).flatMap (MI p u)):∃j,j<i/\∃s∈(gt p.aF.l j).jm.l,m=Xx p u j s:=by
 obtain⟨j,hj,hm⟩:=List.mem_flatMap.1 h;obtain⟨s,hs,rfl⟩:=aR.1 hm
 grind
theorem Xv(hp:Pk n p)(hn:n<=8)(u:Int):NZ ((aG p.aF.l.length).flatMap (MI p u)):=by unfold NZ;rw[List.pairwise_flatMap];refine⟨fun i hi=>I3 (hp.bK (ct.1 hi)).2.2 fun s=>rfl,?_⟩;refine j6 ?_ (List.pairwise_lt_range);intro a b ha hb hab x hx y hy;obtain⟨s,hs,rfl⟩:=aR.1 hx;obtain⟨t,ht,rfl⟩:=aR.1 hy;have h1:=(hp.bK (ct.1 ha)).2.1 s hs;have h2:=(hp.bK (ct.1 hb)).2.1 t ht;show(a:Int)*8+s<(b:Int)*8+t;omega
end
section
variable{c:aA}{R:Sl (Sl (Sl Int))}{n K:Nat}{x:Cx}{r:Rx}{now up:Int}
theorem abP(h:Rl n x r)(he:∀i,i<8->Et (gt x.vF.1 i))(hu:0<=x.bK.U/\x.bK.U<=65535){p:aC}(hp:Pk n p):
  W2 (aJ (mO p) (0,Sl.nil,x.tu)) (aJ (rB p) (0,Sl.nil,r.tu)) fun a b=>(a=.inl (15,x.tu)/\b=.inl (15,r.tu))\/∃s s':Sl ac,a=.inr (s,x.tu)/\b=.inr (s',r.tu)/\s'.l=s.l/\s.l=(aG p.aF.l.length).flatMap (MI p (x.bK.U+1)):=by
 have hr:=hp.rl;obtain⟨hsw,h8⟩:=h.sw;refine W2.up p.aF.l.length (by omega) (fun i a b=>∃s s':Sl ac,a=(s,x.tu)/\b=(s',r.tu)/\s'.l=s.l/\s.l=(aG i).flatMap (MI p (x.bK.U+1))) ⟨Sl.nil,Sl.nil,rfl,rfl,rfl,rfl⟩ ?_;rintro i _ _ hi ⟨s,s',rfl,rfl,e1,e2⟩;dsimp only[mO,rB];refine W2.cond rfl (fun hb=>?_) fun hb=>?_
 .have hlt:i<p.aF.l.length:=by have:=of_decide_eq_true hb;omega
  obtain⟨hl,hs,_⟩:=hp.bK hlt;have hlen:=Jk hp (x.bK.U+1) i (by omega);rw[aY hlt];simp only[aa];obtain⟨t,g1,_⟩:=aeQ (x:=x) he hl fun s h=>by have:=hs s h;omega
  rw[g1,Ur h he hlt hl hs];simp only[aa];refine W2.cond rfl (fun _=>W2.some (.inr ⟨_,_,rfl,rfl,.inl ⟨rfl,rfl⟩⟩)) fun _=>?_;obtain⟨q,q1,q2⟩:=Ym hp hlt;rw[q1];simp only[aa];have hql:q.l.length=(gt p.aF.l i).jm.l.length:=by rw[q2,br]
  have hw:wr .i64 (x.bK.U+1)=x.bK.U+1:=fE (by omega) (by omega)
  obtain⟨s1,a1,a2⟩:=xR (f:=mP (i:Int) x.tu q) q.l (fun(q:gX)=>[((3,q.1,x.bK.U+1,(i:Int),0,0,0,0,0,q.2):ac)]) s (by omega) (fun j s2 hj hs2=>by
   have hle:s2.l.length<=200:=by rw[hs2,au,e2,fm1,br,bw];omega
   simp only[mP,Cx.pr,fT hj,cond_true,aY hj,aa];rw[jw (by grind)];refine⟨_,rfl,?_⟩;rw[Sl.lc,show wr .i64 (ap.U x.bK+1)=x.bK.U+1 from hw]) (fun s=>by simp only[mP,ij,cond_false])
  obtain⟨s3,b1,b2⟩:=xR (f:=nD p (i:Int) r.tu) (gt p.aF.l i).jm.l (fun t=>[Xx p (x.bK.U+1) i t]) s' (by omega) (fun j s2 hj hs2=>by
   have hle:s2.l.length<=200:=by rw[hs2,au,e1,e2,fm1,br,bw];omega
   simp only[nD,Rx.pr,aY hlt,aa,fT hj,cond_true,aY hj];unfold EM;rw[aY hlt];simp only[aa];rw[<-VF];have hm:=L9 hp i (gt (gt p.aF.l i).jm.l j);rw[hm];simp only[aa];rw[jw (by grind)];refine⟨_,rfl,?_⟩;rw[Sl.lc,h.bK,show wr .i64 (ay.U x.bK+1)=x.bK.U+1 from hw];rfl) (fun s=>by simp only[nD,aY hlt,aa,ij,cond_false])
  rw[a1,b1];have a2':s1.l=s.l++MI p (x.bK.U+1) i:=by rw[a2,q2,fm1,List.map_map];rfl
  have b2':s3.l=s'.l++MI p (x.bK.U+1) i:=by rw[b2,fm1];rfl
  refine W2.some (.inl ⟨_,_,rfl,rfl,hlt,s1,s3,rfl,rfl,by rw[a2',b2',e1],?_⟩);rw[a2',e2,ii,jk];simp
 .have:i=p.aF.l.length:=by have:=of_decide_eq_false hb;omega
  subst this;exact W2.some (.inr ⟨_,_,rfl,rfl,.inr ⟨s,s',rfl,rfl,e1,e2⟩⟩)
theorem Ys(hE:kB c R)(h:Bd c R n K x r)(hK:K<=50000)(h0:0<=now/\now<=1099511627776){k:Int}:
  W2 (kh x.tu now k up) (qV r.tu now k up) fun a b=>∃(e:Int)(y:Cx)(s:Rx),a=(e,y.tu)/\b=(e,s.tu)/\Bd c R n (K+200) y s:=by
 have z1:=h.z.l;have z2:=h.z.e;have z3:=h.z.o;have z4:=h.z.s;have hju:=h.j.u;have h8:=h.rl.sw.2;have hstay:∀e:Int,W2 (some (e,x.tu)) (some (e,r.tu)) fun a b=>∃(e:Int)(y:Cx)(s:Rx),a=(e,y.tu)/\b=(e,s.tu)/\Bd c R n (K+200) y s:=fun e=>W2.some ⟨e,x,r,rfl,rfl,h.mono (by omega)⟩;unfold kh qV fC;simp only[aa,Cx.pr,Cx.st,Rx.pr,Rx.st,h.rl.ph,h.rl.bK,h.rl.rt,h.rl.c];refine W2.cond (by congr 1) (fun _=>hstay 16) fun hb=>?_;simp only[bV,bne_eq_false_iff_eq,decide_eq_false_iff_not]at hb;obtain⟨⟨hph,hout⟩,hu⟩:=hb;have ho:=h.i.aga hph;have hin:nY now 0 1099511627776=some true:=by unfold nY;simp_all
 rw[hin,decide_eq_false (show¬now<0 by omega),decide_eq_false (show¬now>1099511627776 by omega),j7,j7];simp only[aa,bX];have hk:(bif(decide (k<0)||decide (k>=(x.gp.l.length:Int)))then some true else some false:Option Bool)=some (decide (k<0)||decide (k>=(x.gp.l.length:Int))):=by cases(decide (k<0)||decide (k>=(x.gp.l.length:Int)))<;>rfl
 rw[hk];simp only[aa];refine W2.cond rfl (fun _=>hstay 2) fun hb=>?_;rw[h.hR]at hb;simp only[bV,decide_eq_false_iff_not]at hb;have hk:0<=k/\k<R.l.length:=by omega
 have hnow:=h.j.now;rw[aev hE h.hc h.hR hnow hk,h.hR,h.hc,p8 (show 0<=ay.lh x.bK from hnow.1) (show ay.lh x.bK<_ from hnow.2),p8 hk.1 hk.2,aeu hE];simp only[aa];obtain⟨p,e,hp1,hp2,hpk⟩:=Y_ hE hnow hk h0;rw[hp1,show lO c.T (gt R.l (ay.lh x.bK).toNat) (gt R.l k.toNat) now (2*c.qf+2) c.zQ=_ from hp2];simp only[aa];refine W2.cond rfl (fun _=>hstay e) fun he=>?_;have he0:e=0:=by simpa using he
 subst he0;have hp:=h.rl.pk h.hc (hpk rfl);have hrl:=hp.rl;obtain⟨m,v,q1,q2,_,_⟩:=Uq hp h8 up;rw[q1,LW hp];simp only[aa,q2];refine W2.cond rfl (fun _=>hstay 16) fun _=>?_;refine W2.bind (abP h.rl h.e hju hp) ?_;rintro _ _ (⟨rfl,rfl⟩|⟨ms,ms',rfl,rfl,e1,e2⟩)
 .exact hstay 15
 .simp only[Cx.pr,Rx.pr];have hw:wr .i64 (x.bK.U+1)=x.bK.U+1:=fE (by omega) (by omega);obtain⟨w1,w2⟩:=Ca (x:=x) (r:=r) h.z (by omega) h.rl.l h.rl.bK (acq ho hout (by omega) ⟨hk.1,by have:=hE.len;omega⟩ h0);rw[show wr .i64 (ap.U x.bK+1)=x.bK.U+1 from hw,w1,h.rl.bK,show wr .i64 (ay.U x.bK+1)=x.bK.U+1 from hw,w2];simp only[aa,Cx.st,Rx.st];have hj':=h.j.anO (by omega) hk h0 (p:=p) hp1;refine W2.bind (M3 (x:={x with l:=.mk (x.l.l++[(1,x.bK.U+1,k,now)]),bK:=(x.bK.U+1,x.bK.lh,true,k,now,0,false,false,0),eM:=p,skip:=0}) (r:={r with L:=.mk (x.l.l++[(1,x.bK.U+1,k,now)]),At:=(x.bK.U+1,x.bK.lh,true,k,now,0,false,false,0),ja:=p,jB:=Sl.nil}) (n:=n) ⟨h.rl.c,h.rl.sw,h.rl.rt,rfl,rfl,h.rl.ph,rfl,h.rl.nv,h.rl.eG,h.rl.gE,h.rl.bH,⟨gI 0,(by decide:(0:Int)<256)⟩,fun s _=>⟨fun e=>by rw[yk]at e;exact(nomatch e),fun e=>(bF e).elim⟩,fun s e=>(bF e).elim,h.rl.zj,h.rl.vF,h.rl.ask,h.rl.out,h.rl.ev,h.rl.wn,h.rl.fo⟩ (k:=K+1) ⟨by simp;omega,by show x.gq.l.length<=_;omega,by show x.out.l.length<=_;omega,by show(0:Nat)<=_;omega⟩ (by omega)) ?_;rintro _ _ ⟨_,_,rfl,rfl,ev,ev',rfl,rfl,g1,g2⟩;have g2:ev.l.length=x.gq.l.length+1:=g2;simp only[Cx.st,Rx.st];have hml:=Jk hp (x.bK.U+1) p.aF.l.length (aw _);have hask:Ask ms.l:=by rw[e2];refine⟨by omega,fun m hm=>?_⟩;obtain⟨j,hj,s,hs,rfl⟩:=Od hm;have:=(hp.bK hj).2.1 s hs;exact⟨⟨by show 0<=s;omega,by show s<8;omega⟩,by show 0<=(j:Int);omega,by show(j:Int)<8;omega⟩
  have hasc:NZ ms.l:=by rw[e2];exact Xv hp h8 _
  refine W2.bind (S_ (x:={x with l:=.mk (x.l.l++[(1,x.bK.U+1,k,now)]),bK:=(x.bK.U+1,x.bK.lh,true,k,now,0,false,false,0),eM:=p,skip:=0,gq:=ev,cI:=1}) (r:={r with L:=.mk (x.l.l++[(1,x.bK.U+1,k,now)]),At:=(x.bK.U+1,x.bK.lh,true,k,now,0,false,false,0),ja:=p,jB:=Sl.nil,l5:=ev',gR:=1}) (now:=now) (k:=K+1) ⟨by simp;omega,by show ev.l.length<=_;omega,by show x.out.l.length<=_;omega,by show(0:Nat)<=_;omega⟩ (by omega) h.rl.out hask hasc e1) ?_;rintro _ _ ⟨_,_,rfl,rfl,w,o,w',o',rfl,rfl,f1,f2,f3,f4⟩;have hol:o.l.length<=x.out.l.length+64:=by rw[f4,au,e2];show x.out.l.length+_<=_;omega
  have hwn:∀m∈w'.l,m.Sw<(n:Int)/\xk m:=fun m hm=>by rw[show w'.l=_ from f2.trans e2]at hm;obtain⟨j,hj,s,hs,rfl⟩:=Od hm;exact⟨((hp.bK hj).2.1 s hs).2,Xw hp _ _ _⟩
  exact W2.some ⟨0,{x with l:=.mk (x.l.l++[(1,x.bK.U+1,k,now)]),bK:=(x.bK.U+1,x.bK.lh,true,k,now,0,false,false,0),eM:=p,skip:=0,gq:=ev,cI:=1,eG:=w,out:=o,gE:=now},{r with L:=.mk (x.l.l++[(1,x.bK.U+1,k,now)]),At:=(x.bK.U+1,x.bK.lh,true,k,now,0,false,false,0),ja:=p,jB:=Sl.nil,l5:=ev',gR:=1,fN:=w',Gz:=now,ik:=o'},rfl,rfl,
   ⟨⟨h.rl.c,h.rl.sw,h.rl.rt,rfl,rfl,rfl,rfl,h.rl.nv,f1,fun _=>⟨rfl,h0.1⟩,h.rl.bH,⟨gI 0,(by decide:(0:Int)<256)⟩,fun s _=>⟨fun e=>by rw[yk]at e;exact(nomatch e),fun e=>(bF e).elim⟩,fun s e=>(bF e).elim,h.rl.zj,h.rl.vF,h.rl.ask,f3,g1,hwn,Dj h.rl.fo (b:=ms.l) (fun q hq=>(hwn q (by rw[show w'.l=_ from f2];exact hq)).2) (by rw[h.rl.out];exact f3.trans f4)⟩,h.hc,h.hR,hj',Zs rfl hp1 rfl rfl rfl,h.e,by simp;omega,by show ev.l.length<=_;omega,by show o.l.length<=_;omega,by show(0:Nat)<=_;omega⟩,
   fun e=>absurd e (by show¬(1:Int)=5;decide),fun e=>absurd e (by simp_all)⟩
end
end Go.Proofs.YtoekkpmeeclpeaaGreat.S
