/- The law CtlPlays, but for its example. Conditions: as stated. -/
import Derived.Test.YtoekkpmeeclpeaaGreatHh
open Bool renaming not_true->bX
open Int renaming le_refl->gI
open List renaming eq_nil_of_length_eq_zero->km,flatMap_singleton'->oj,length_take->bw,not_mem_nil->bF
open Nat renaming le_refl->aw
open Option renaming bind_some->aa
open Go.Ev Go
namespace Go.Proofs.YtoekkpmeeclpeaaGreat.S
theorem Wp{l:Sl aI}(h:l.l.length<=1000000):∃s,f0 l=some s/\s.l=l.l:=by unfold f0;cases l with|nil=>exact⟨Sl.nil,rfl,rfl⟩|mk r=>rw[jw (by simpa using h)];refine⟨_,rfl,?_⟩;cases r<;>rfl
theorem U9{a b:Sl aI}(h:a.l=b.l)(hl:a.l.length<=100000):Cg a b=some true:=by
 obtain⟨z,h1,h2⟩:=xR (f:=wI b) b.l (fun m=>[m]) .nil (by rw[<-h];omega) (fun i z hi hz=>by
  have hlen:z.l.length<=200000:=by
   have e:z.l=(b.l.take i).flatMap fun m=>[m]:=hz
   grind [oj,bw]
  refine⟨.mk _,?_,rfl⟩;simp only[wI,fT hi,cond_true,aY hi,aa];rw[jw (by grind)];rfl) (fun s=>by simp only[wI,ij,cond_false])
 have e:z.l=b.l:=by rw[h2,oj];rfl
 have h3:=wm (f:=wJ a z) a.l (fun _=>false) (by omega) (fun i hi=>by simp_all[wJ,fT,cond_true,aY]) (by simp only[wJ,ij,cond_false]);unfold Cg EY;simp_all
theorem RN{a:Sl aD}(hl:a.l.length<=100000):zg a a=some true:=by
 obtain⟨z,h1,h2⟩:=xR (f:=wL a) a.l _ .nil (by omega) (fun i z hi hz=>by
  have hlen:z.l.length<=200000:=by have e:z.l=(a.l.take i).flatMap fun m=>[m]:=hz;rw[e,oj,bw];omega
  refine⟨.mk _,?_,rfl⟩;simp only[wL,fT hi,aY hi,aa];rw[jw (by grind)];rfl) (fun s=>by simp only[wL,ij,cond_false])
 have e:z.l=a.l:=by rw[h2,oj];rfl
 have h3:=wm (f:=wM a z) a.l (fun _=>false) (by omega) (fun i hi=>by simp_all[wM,fT,aY]) (by simp only[wM,ij,cond_false]);unfold zg EZ;simp_all
theorem VU{a:Sl Int}(hl:a.l.length<=100000):yT a a=some true:=by have h1:=wm (f:=wF a a) a.l (fun _=>false) (by omega) (fun i hi=>by simp_all[wF,aY]) (by simp[wF,ij,cond_false]);rw[if_pos fun _ _=>rfl]at h1;unfold yT;rw[h1,bne_self_eq_false];rfl
theorem L1{p:aC}(h1:p.sH.l.length<=1000)(h2:p.aF.l.length<=8)(h3:∀r∈p.aF.l,r.jm.l.length<=8):zf p p=some true:=by have h:=wm (f:=wK p p) p.aF.l (fun _=>false) (by omega) (fun i hi=>by have hs:=VU (a:=(gt p.aF.l i).jm) (by have:=h3 _ (t7 hi);omega);simp_all[yT,gt,wK,fT,cond_true,aY]) (by simp only[wK,ij,cond_false]);have hm:zg (aC.sH p) _=some true:=RN (by omega);unfold zf;rw[hm,h];simp
theorem V_{m:ac}(h:xk m):tB m m=some true:=by
 rw[adN];have:fe m m=true:=by unfold fe;simp
 rw[this];exact(Jo h.1 h.2).2
theorem VC{a b:Sl ac}(e:b.l=a.l)(hl:a.l.length<=100000)(hf:∀m∈a.l,xk m):uz a b=some true:=by
 have h1:=wm (f:=pZ a b) a.l (fun _=>false) (by omega) (fun i hi=>by
  have hb:i<b.l.length:=by rw[e];exact hi
  simp only[pZ,fT hi,aY hi,aY hb,aa];rw[e,V_ (hf _ (t7 hi))];rfl) (by simp[pZ,ij,cond_false])
 rw[if_pos fun _ _=>rfl]at h1;unfold uz;rw[h1,e,bne_self_eq_false];rfl
theorem P8{a b:Sl dE}(e:b.l=a.l)(hl:a.l.length<=100000):xZ a b=some true:=by have h1:=wm (f:=sO a b) a.l (fun _=>false) (by omega) (fun i hi=>by simp_all[sO,aY]) (by simp[sO,ij,cond_false]);rw[if_pos fun _ _=>rfl]at h1;unfold xZ;rw[h1,e,bne_self_eq_false];rfl
section
variable{c:aA}{R:Sl (Sl (Sl Int))}{n K:Nat}{x:Cx}{r:Rx}{l:Sl bc}
theorem Wx(hE:kB c R)(h:Bd c R n K x r)(hK:K<=90000):Ak x.tu r.tu=some (true,x.tu,r.tu):=by
 have z1:=h.z.l;obtain⟨hsw,h8⟩:=h.rl.sw;obtain⟨q1,q2⟩:=h.rl.vF;obtain⟨s,s1,s2⟩:=Wp (l:=x.l) (by omega);have hlike:=U9 (a:=s) (b:=r.L) (by rw[s2,h.rl.l]) (by rw[s2];omega)
 have hplan:∃P,(bif(x.cI==6||!x.bK.hZ)then some (⟨Sl.nil,Sl.nil,0,0,0,0⟩:aQ)else some x.eM:Option aQ)=some P/\(bif(x.cI==6||!(ap.hZ x.bK))then some ((⟨Sl.nil,Sl.nil,0,0,0,0⟩:aC),x.tu)else some (x.eM,x.tu):Option (aC×aj))=some (P,x.tu)/\zf P P=some true:=by
  cases hc:(x.cI==6||!x.bK.hZ)with
  |true=>refine⟨_,rfl,?_,L1 (by show 0<=_;omega) (by show 0<=_;omega) fun _ h=>(bF h).elim⟩;rfl
  |false=>
   simp only[Bool.or_eq_false_iff,beq_eq_false_iff_ne,Bool.not_eq_false']at hc;have hph:x.cI≠0:=fun e=>by have:=h.i.aga e;rw[this]at hc;exact nomatch hc.2
   obtain⟨ho,hm⟩:=h.i.act hph hc.1;have hp:=h.rl.pk h.hc (hm.pk hE h.j ho);refine⟨x.eM,rfl,?_,L1 hp.mv.1 hp.rl.2 fun r hr=>(hp.sw r hr).1⟩;rfl
 obtain⟨P,p1,p2,p3⟩:=hplan
 have hloop:aJ (uT r.tu) (0,x.tu)=some (.inr x.tu):=by
  have H:Wq (aJ (uT r.tu) (0,x.tu)) fun q=>q=.inr x.tu:=by
   refine Wq.up n (by omega) (fun _ y=>y=x.tu) rfl ?_;rintro i _ hi rfl;dsimp only[uT];simp only[Rx.pr,h.rl.c];refine Wq.cond (fun hb=>?_) fun _=>Wq.some rfl;have hlt:(i:Int)<x.c.T.ao:=of_decide_eq_true hb;unfold wl;simp only[Cx.pr];have hc:(decide ((i:Int)<0)||decide ((i:Int)>=x.c.T.ao))=false:=by simp_all
   rw[hc];simp only[cond_false];rw[p8 (i:=(i:Int)) (n:=8) (by omega) (by omega),aY (n:=r.GG.l.length) (by omega)];simp only[aa,Int.toNat_natCast];rw[q2 i (by omega)];generalize gt x.vF.1 i=e;have:((((!((aZ.sI e)==(bE.sI e)))||((aZ.At e) !=(bE.At e)))||((bl.Lo (aZ.S e)) !=(bo.Lo (bE.S e))))||((bl.Hi (aZ.S e)) !=(bo.Hi (bE.S e))))=false:=by simp
   rw[this];exact Wq.some ⟨_,rfl,by omega,rfl⟩
  obtain⟨q,hq,rfl⟩:=H;exact hq
 unfold Ak fC pC AW Df Cn fC;simp only[aa,Cx.pr,Rx.pr];rw[h.rl.ph,h.rl.bK,h.rl.pl,s1];simp_all
def NS(l:Sl bc):Prop:=l.l.length<=80/\∀d∈l.l,SJ d
theorem Ri(hE:kB c R)(hS:NS l)(h:Bd c R n 0 x r):Wq (aJ (p7 l) (0,Sl.nil,x.tu,r.tu)) fun q=>∃a,q=.inr a:=by
 have hl:=hS.1;refine Wq.up l.l.length (by omega) (fun i t=>∃(x:Cx)(r:Rx)(gE:Sl ac),t=(gE,x.tu,r.tu)/\Bd c R n (200*i) x r/\x.out.l=[]/\x.gq.l=[]/\gE.l.length<=100*(i*i)+100*i) ⟨x,r,_,rfl,h,?_,?_,by show 0<=_;omega⟩ ?_
 .exact km (Nat.le_zero.1 h.z.o)
 .exact km (Nat.le_zero.1 h.z.e)
 rintro i _ hi ⟨x,r,gE,rfl,h,ho,he,hs⟩;dsimp only[p7];refine Wq.cond (fun hb=>?_) (fun _=>Wq.some ⟨_,rfl⟩);have hlt:i<l.l.length:=by have:=of_decide_eq_true hb;omega
 have hii:i*i<=79*79:=Nat.mul_le_mul (by omega) (by omega);rw[aY hlt];simp only[aa];obtain⟨_,_,p1,p2,e,y,s,rfl,rfl,g⟩:=afC hE h (by omega) (hS.2 _ (t7 hlt)) (gE:=gE) (by omega);rw[p1];simp only[aa];rw[G5];simp only[aa];rw[p2];simp only[aa];rw[G5];simp only[aa];unfold nq xA;simp only[aa,Cx.pr,Cx.st,Rx.pr,Rx.st,bne_self_eq_false,cond_false];have z1:=g.z.l;have z2:=g.z.e;have z3:=g.z.o;have z4:=g.z.s;rw[VC g.rl.out (by omega) (by rw[<-g.rl.out];exact g.rl.fo)];rw[P8 g.rl.ev (by omega)];simp only[aa,bX,cond_false];have hB:Bd c R n (200*(i+1)) {y with out:=.nil,gq:=.nil} {s with ik:=.nil,l5:=.nil}:=⟨⟨⟨g.rl.c,g.rl.sw,g.rl.rt,g.rl.l,g.rl.bK,g.rl.ph,g.rl.pl,g.rl.nv,g.rl.eG,g.rl.gE,g.rl.bH,g.rl.FY,g.rl.skip,g.rl.GF,g.rl.zj,g.rl.vF,g.rl.ask,rfl,rfl,g.rl.wn,fun m hm=>(bF hm).elim⟩,g.hc,g.hR,g.j,g.i,g.e,by show y.l.l.length<=_;omega,by show 0<=_;omega,by show 0<=_;omega,by show s.jB.l.length<=_;omega⟩,g.r5,g.we⟩
 rw[Wx hE hB (by omega)];have hq:(i+1)*(i+1)=i*i+2*i+1:=by simp[Nat.add_mul,Nat.mul_add];omega
 have hsl:(gE.l++s.ik.l).length<=100*((i+1)*(i+1))+100*(i+1):=by rw[List.length_append,g.rl.out];omega
 rw[jw (by omega)];refine Wq.some ⟨_,rfl,hlt,_,_,_,rfl,hB,rfl,rfl,?_⟩;rw[NO rfl];exact hsl
end
end Go.Proofs.YtoekkpmeeclpeaaGreat.S
open Go.Ev Go
namespace Go.Proofs.YtoekkpmeeclpeaaGreat.S
theorem aq3{d:bc}(h:zL y4 d):∀m∈d.M.gW.l,ady (bR.M (aV.R m)):=fun m hm f hf=>by have h1:zL (.sl y6) (ac.gW d.M):=h.2.2.2.2.2.2.2.2.2.2.2.2.2;have h2:=h1.2 m hm;have h3:zL (.ar 4 I6) (ck.Val (bR.M (aV.R m))):=h2.2.1.2.1.2.1;exact(h3 _ (t7 (by rw[(ck.Val (bR.M (aV.R m))).2];exact hf))).2
section
variable{c:aA}{l:Sl bc}
structure anZ(c:aA):Prop where
 xQ:c.T.aS.l.length<=30
 sq:c.T.aU.l.length<=12
 apS:c.dI.l.length<=6
 afk:c.iU.l.length<=12
 w:∀s∈c.dI.l,s.l.length<=30
theorem XE(h1:c.dI.l.length<=9223372036854775807)(h2:l.l.length<=9223372036854775807)(hf:∀d∈l.l,zL y4 d):Wq (Al c l) fun b=>b=true->NS l/\anZ c:=by
 unfold Al;refine Wq.bind (P:=fun r=>r=.inl false\/r=.inr ()/\∀s∈c.dI.l,s.l.length<=30) ?_ fun r hr=>?_
 .have:=wm (f:=uV c) c.dI.l (fun s=>decide ((s.l.length:Int)>30)) (by omega) (fun i hi=>by simp only[uV,fT hi,cond_true,aY hi,aa];cases decide (((gt c.dI.l i).l.length:Int)>30)<;>rfl) (by simp only[uV,ij,cond_false]);rw[this];by_cases ha:∀s∈c.dI.l,decide ((s.l.length:Int)>30)=false
  .rw [if_pos ha];exact Wq.some (.inr ⟨rfl,fun s hs=>by have:=of_decide_eq_false (ha s hs);omega⟩)
  .rw [if_neg ha];exact Wq.some (.inl rfl)
 rcases hr with rfl|⟨rfl,hw⟩
 .exact Wq.some fun h=>nomatch h
 .refine Wq.bind (P:=fun r=>(∃b,r=.inl b/\b=false)\/r=.inr ()/\NS l) ?_ fun r hr=>?_
  .refine Wq.loop (fun i=>l.l.length-i.toNat) (fun a=>∃i:Nat,a=i/\i<=l.l.length/\i<=80/\∀d∈l.l.take i,SJ d) ⟨0,rfl,by omega,by omega,by simp⟩ ?_;rintro _ ⟨i,rfl,h4,h80,hj⟩;unfold Dd;refine Wq.cond (fun hb=>?_) (fun hb=>Wq.some (.inr ⟨rfl,?_⟩))
   .have hlt:i<l.l.length:=by have:=of_decide_eq_true hb;omega
    refine Wq.bind (P:=fun b=>b=false->i<80/\(0<=(gt l.l i).lh/\(gt l.l i).lh<=1099511627776)/\(gt l.l i).M.gW.l.length<=20) ?_ fun b hb=>?_
    .refine Wq.cond (fun _=>Wq.some fun h=>nomatch h) fun h79=>?_;rw[aY hlt];simp only[aa];refine Wq.cond (fun _=>Wq.some fun h=>nomatch h) fun hn0=>Wq.cond (fun _=>Wq.some fun h=>nomatch h) fun hn1=>Wq.some fun h=>?_;have:=of_decide_eq_false h79;have:=of_decide_eq_false hn0;have:=of_decide_eq_false hn1;have:=of_decide_eq_false h;omega
    refine Wq.cond (fun _=>Wq.some (.inl ⟨false,rfl,rfl⟩)) fun hbf=>?_;obtain⟨g1,g2,g3⟩:=hb hbf
    have hL:=wm (f:=uU l (i:Int)) (gt l.l i).M.gW.l (fun m=>decide (((bR.Ct (aV.R m)).l.length:Int)>16)) (by omega) (fun k hk=>by
     simp only[uU,aY hlt,aa];rw[show decide ((k:Int)<((ac.gW (bc.M (gt l.l i))).l.length:Int))=true from fT hk,cond_true,show bS (k:Int) (ac.gW (bc.M (gt l.l i))).l.length=some k from aY hk];simp only[aa];cases decide (((bR.Ct (aV.R (gt (ac.gW (bc.M (gt l.l i))).l k))).l.length:Int)>16)<;>rfl) (by
     simp only[uU,aY hlt,aa];rw[show decide (((gt l.l i).M.gW.l.length:Int)<((ac.gW (bc.M (gt l.l i))).l.length:Int))=false from ij,cond_false])
    rw[hL];by_cases ha:∀m∈(gt l.l i).M.gW.l,decide (((bR.Ct (aV.R m)).l.length:Int)>16)=false
    .rw [if_pos ha];refine Wq.some ⟨⟨i+1,fE (by omega) (by omega),by omega,by omega,fun d hd=>?_⟩,?_⟩
     .rw [uu hlt]at hd;rcases List.mem_append.1 hd with hd|hd
      .exact hj d hd
      .rw [List.mem_singleton.1 hd];exact⟨g2,⟨g3,fun m hm=>by have:=of_decide_eq_false (ha m hm);omega⟩,aq3 (hf _ (t7 hlt))⟩
     .show _-(wr .i64 ((i:Int)+1)).toNat<_-((i:Int)).toNat;rw[fE (by omega) (by omega)];omega
    .rw [if_neg ha];exact Wq.some (.inl ⟨false,rfl,rfl⟩)
   .have:i=l.l.length:=by have:=of_decide_eq_false hb;omega
    subst this;rw[List.take_of_length_le (aw _)]at hj;exact⟨h80,hj⟩
  .rcases hr with⟨b,rfl,rfl⟩|⟨rfl,hs⟩
   .exact Wq.some fun h=>nomatch h
   .refine Wq.some fun h=>⟨hs,?_⟩;simp only[Bool.and_eq_true,decide_eq_true_eq]at h;exact⟨by omega,by omega,by omega,by omega,hw⟩
theorem Vc(hc:zL y0 c)(h2:l.l.length<=9223372036854775807)(hf:∀d∈l.l,zL y4 d):zd c l=some true:=by
 have hcw:zL (.sl (.sl (.i .u64))) (aA.dI c):=hc.2.1;have h5:∀s∈c.dI.l,∀x∈s.l,0<=x/\x<=18446744073709551615:=fun s hs x hx=>(hcw.2 s hs).2 x hx;obtain⟨b,hb,hsm⟩:=XE (Nat.le_of_lt_succ (TY hcw)) h2 hf;unfold zd;rw[hb];simp only[ar0,aa];cases b with
 |false=>rfl
 |true=>
  obtain⟨hS,hC⟩:=hsm rfl;simp only[bX,cond_false];unfold Ap DM;rcases Sr hC.xQ hC.sq hC.apS hC.w h5 hC.afk with⟨R,c1,c2,hE⟩|⟨R,c1,c2⟩
  .obtain ⟨ask,f1,f2⟩:=ZG;obtain⟨n,hn⟩:=Int.eq_ofNat_of_zero_le hE.sw.1;have h8:n<=8:=by have:=hE.sw.2;omega
   obtain⟨es,ak,ad,g3,e1,e2,e3⟩:=OX (r:=XP c R .nil (0,0,false,0,0,0,false,false,0) 0 .nil .nil .nil) (n:=n) hn h8;rw[c1,c2,f1];simp only[aa,bne_self_eq_false,cond_false,bX];rw[show lF (⟨c,R,Sl.nil,(⟨0,0,false,0,0,0,false,false,0⟩:ap),0,(⟨Sl.nil,Sl.nil,0,0,0,0⟩:aC),0,Sl.nil,0,false,0,Sl.nil,false,0,Sl.nil,Sl.nil,Sl.nil,Sl.nil,Sl.nil⟩:ah)=_ from g3];simp only[aa];obtain⟨k1,k2⟩:=rl0 (c:=c) (R:=R) (l:=.nil) (l':=.nil) (s:=(0,0,false,0,0,0,false,false,0)) (ph:=0) hn h8 rfl f2 e1 e2 e3;have hB:Bd c R n 0 (cx0 c R .nil (0,0,false,0,0,0,false,false,0) 0 ask) (XP c R .nil (0,0,false,0,0,0,false,false,0) 0 es ak ad):=⟨⟨k1,rfl,rfl,⟨⟨gI 0,(by decide:(0:Int)<=65535)⟩,⟨gI 0,(by decide:(0:Int)<256)⟩,⟨gI 0,by have:=hE.len;show(0:Int)<_;omega⟩,fun e=>nomatch e⟩,F9 rfl,k2,aw _,aw _,aw _,aw _⟩,fun e=>absurd e (by show¬(0:Int)=5;decide),fun _=>rfl⟩
   obtain⟨q,hq,a,rfl⟩:=Ri hE hS hB;show Option.bind (aJ (p7 l) (0,Sl.nil,(cx0 c R .nil (0,0,false,0,0,0,false,false,0) 0 ask).tu,(XP c R .nil (0,0,false,0,0,0,false,false,0) 0 es ak ad).tu)) _=_;rw[hq];rfl
  .rw [c1,c2];rfl
end
end Go.Proofs.YtoekkpmeeclpeaaGreat.S
