/- How the two controllers stand to one another. Conditions: as stated. -/
import Derived.Test.YtoekkpmeeclpeaaGreatGD
open List renaming getElem?_eq_getElem->bf,length_append->au,length_singleton->aH,length_take->bw,mem_append->aK,take_of_length_le->cH
open Nat renaming le_refl->aw,le_trans->bg
open Option renaming bind_some->aa
open Go.Ev Go
namespace Go.Proofs.YtoekkpmeeclpeaaGreat.S
def Tm(b:Bool)(t t':Int):Prop:=(b=false/\t'=-1)\/(b=true/\t=t'/\0<=t')
def xk(m:ac):Prop:=m.gW.l.length<=1000/\∀q∈m.gW.l,(bR.Ct (aV.R q)).l.length<=16
theorem Gg{m:ac}(h:m.gW=Sl.nil):xk m:=by unfold xk;rw[h];exact⟨Nat.zero_le _,fun _ h=>(List.not_mem_nil h).elim⟩
theorem P2{l:List ac}{m:ac}(h:∀q∈l,xk q)(hm:m.gW=Sl.nil):∀q∈(Sl.mk (l++[m])).l,xk q:=fun q hq=>by
 rcases aK.1 hq with hq|hq
 .exact h q hq
 .rw [List.mem_singleton.1 hq];exact Gg hm
theorem Dj{l a b:List ac}(h:∀q∈a,xk q)(h':∀q∈b,xk q)(e:l=a++b):∀q∈l,xk q:=fun q hq=>by
 rw[e]at hq;rcases aK.1 hq with hq|hq
 .exact h q hq
 .exact h' q hq
structure Rl(n:Nat)(x:Cx)(r:Rx):Prop where
 c:r.C=x.c
 sw:x.c.T.ao=n/\n<=8
 rt:r.lg=x.gp
 l:r.L.l=x.l.l
 bK:r.At=x.bK
 ph:r.gR=x.cI
 pl:r.ja=x.eM
 nv:r.I8=x.nv
 eG:WR x.eG r.fN.l
 gE:r.fN.l≠[]->r.Gz=x.gE/\0<=x.gE
 bH:Tm r.nw r.IJ x.bH
 FY:M8 x.skip
 skip:∀s:Nat,s<8->(bt x.skip s=true<->(s:Int)∈r.jB.l)
 GF:∀s∈r.jB.l,0<=s/\s<n
 zj:Tm r.zD r.xL x.tI
 vF:r.GG.l.length=n/\∀i,i<n->gt r.GG.l i=gt x.vF.1 i
 ask:r.DA.l.length=n/\r.xl.l.length=n/\∀i,i<n->Tm (gt r.DA.l i) (gt r.xl.l i) (gt x.Au.1 i)
 out:r.ik.l=x.out.l
 ev:r.l5.l=x.gq.l
 wn:∀m∈r.fN.l,m.Sw<(n:Int)/\xk m
 fo:∀m∈r.ik.l,xk m
structure IH(k:Nat)(x:Cx)(r:Rx):Prop where
 l:x.l.l.length<=k
 e:x.gq.l.length<=k
 o:x.out.l.length<=k
 s:r.jB.l.length<=k
structure Kp(x y:Cx)(r s:Rx):Prop where
 c:y.c=x.c
 R:y.gp=x.gp
 bK:y.bK=x.bK
 ph:y.cI=x.cI
 pl:y.eM=x.eM
 nv:y.nv=x.nv
 vF:y.vF=x.vF
 bH:y.bH=x.bH
 eG:s.fN=r.fN
theorem Kp.refl{x:Cx}{r:Rx}:Kp x x r r:=⟨rfl,rfl,rfl,rfl,rfl,rfl,rfl,rfl,rfl⟩
abbrev C2(p:Option Tu)(q:Option Ru)(Q:Cx->Rx->Prop):Prop:=W2 p q fun a b=>∃x r,a=Cx.tu x/\b=Rx.tu r/\Q x r
theorem C2.some{x:Cx}{r:Rx}{Q:Cx->Rx->Prop}(h:Q x r):C2 (some x.tu) (some r.tu) Q:=⟨_,_,rfl,rfl,x,r,rfl,rfl,h⟩
theorem W2.aap{p:Option Tu}{q:Option Ru}{R:Cx->Prop}{Q:Cx->Rx->Prop}(h:Wc p R)(k:∀x,R x->C2 (Option.some x.tu) q Q):C2 p q Q:=by obtain⟨x,rfl,hx⟩:=h;exact k x hx
section
variable{n:Nat}{x:Cx}{r:Rx}{now:Int}
theorem M3(h:Rl n x r){k:Nat}(hz:IH k x r)(hk:k<=100000){kind sw a b:Int}:
  C2 (j5 x.tu now kind sw a b) (lN r.tu now kind sw a b) fun y s=>∃e e',y={x with gq:=e}/\s={r with l5:=e'}/\e'.l=e.l/\e.l.length=x.gq.l.length+1:=by
 have:=hz.e;unfold j5 lN;simp only[Cx.pr,Cx.st,Rx.pr,Rx.st];rw[h.ev,h.bK,jw (by rw[au,aH];omega)];exact C2.some ⟨_,_,rfl,rfl,rfl,by simp⟩
end
end Go.Proofs.YtoekkpmeeclpeaaGreat.S
open Go.Ev Go
namespace Go.Proofs.YtoekkpmeeclpeaaGreat.S
section
variable{n:Nat}{x:Cx}{r:Rx}{now:Int}{l:List ac}
theorem OW(h:WR x.eG l)(ho:x.out.l.length<100000):
  Wc (lX x.tu now) fun y=>∃o,y={x with out:=o,gE:=now}/\o.l=x.out.l++l:=by
 unfold lX
 try simp only[Cx.pr,Cx.st]
 refine Wc.cond (fun _=>?_) (fun e=>absurd h.ok.okB (by rw[e];decide));have hlen:=PI (m:=x.eG);have h64:=h.ok.len
 have H:Wl (aJ (p9 x.tu) (0,({x with gE:=now}:Cx).tu)) fun y=>∃o,y={x with out:=o,gE:=now}/\o.l=x.out.l++l:=by
  refine Wl.up (rn x.eG).l.length (by omega) (fun i y=>∃o,y={x with out:=o,gE:=now}/\o.l=x.out.l++((rn x.eG).l.take i).map (lS x.eG (0,0,0,0,0,0,0,0,0,Sl.nil))) ⟨x.out,rfl,by simp⟩ ?_;rintro i _ hi ⟨o,rfl,hl⟩;dsimp only[p9]
  try simp only[Cx.pr,Cx.st]
  have hol:o.l.length=x.out.l.length+i:=by rw[hl];simp;omega
  refine Wq.cond (fun hb=>?_) (fun hb=>Wq.some ⟨_,rfl,o,rfl,?_⟩)
  .have hlt:i<(rn x.eG).l.length:=by have:=of_decide_eq_true hb;omega
   rw[aY hlt];simp only[aa];rw[jw (by rw[au,aH];omega)];refine Wq.some ⟨{x with out:=.mk (o.l++[_]),gE:=now},rfl,hlt,_,rfl,?_⟩;rw[List.take_add_one,bf hlt,Sl.lc,hl,dx hlt,List.map_append,<-List.append_assoc];rfl
  .have:i=(rn x.eG).l.length:=by have:=of_decide_eq_false hb;omega
   rw[hl,this,cH (aw _),h.E2]
 refine H.aeK ?_;rintro _ ⟨o,rfl,h⟩;exact Wc.some (x:={x with out:=o,gE:=now}) ⟨o,rfl,h⟩
theorem ako{q:Sl ac}(hA:NZ q.l)(hq:Ask q.l)(ho:x.out.l.length<99000):
  Wc (lA x.tu now q) fun y=>∃o w,y={x with eG:=w,out:=o,gE:=now}/\WR w q.l/\o.l=x.out.l++q.l:=by
 unfold lA
 try simp only[Cx.pr,Cx.st]
 have h64:=hq.1
 have H:Wl (aJ (u_ q) (0,({x with eG:=.none}:Cx).tu)) fun y=>∃w,y={x with eG:=w}/\WR w q.l:=by
  refine Wl.up q.l.length (by omega) (fun i y=>∃w,y={x with eG:=w}/\WR w (q.l.take i)) ⟨.none,rfl,by simpa using WR.nil⟩ ?_;rintro i _ hi ⟨w,rfl,hw⟩;dsimp only[u_]
  try simp only[Cx.pr,Cx.st]
  refine Wq.cond (fun hb=>?_) (fun hb=>Wq.some ⟨_,rfl,w,rfl,?_⟩)
  .have hlt:i<q.l.length:=by have:=of_decide_eq_true hb;omega
   rw[aY hlt];simp only[aa];have hmem:gt q.l i∈q.l:=by rw[dx hlt];exact List.getElem_mem _
   obtain⟨h1,h2⟩:=hq.2 _ hmem;rw[af2 h1 h2];refine Wq.some ⟨{x with eG:=Cw w ((gt q.l i).Rd*8+(gt q.l i).Sw) (gt q.l i)},rfl,hlt,_,rfl,?_⟩;rw[List.take_add_one,bf hlt,<-dx hlt];refine hw.upd h1 h2 (fun a ha=>?_) (by rw[bw];omega);obtain⟨j,hj,rfl⟩:=List.mem_iff_getElem.1 ha;rw[bw]at hj;rw[List.getElem_take,dx hlt];exact List.pairwise_iff_getElem.1 hA j i (by omega) hlt (by omega)
  .have:i=q.l.length:=by have:=of_decide_eq_false hb;omega
   rw[this,cH (aw _)]at hw;exact hw
 refine H.aeK ?_;rintro _ ⟨w,rfl,hw⟩;refine Wc.eta ((OW (x:={x with eG:=w}) (now:=now) hw (by show x.out.l.length<_;omega)).mono ?_);rintro _ ⟨o,rfl,h1⟩;exact⟨o,w,rfl,hw,h1⟩
end
end Go.Proofs.YtoekkpmeeclpeaaGreat.S
open Go.Ev Go
namespace Go.Proofs.YtoekkpmeeclpeaaGreat.S
section
variable{n:Nat}{x:Cx}{r:Rx}{now:Int}
theorem NO{α:Type}{s:Sl α}{l q:List α}(e:q=s.l++l):(AZ s l q).l=s.l++l:=by subst e;unfold AZ;cases l with|nil=>cases s<;>simp|cons a l=>rfl
theorem S_{k:Nat}(hz:IH k x r)(hk:k<=90000)(ho:r.ik.l=x.out.l){q q':Sl ac}(hq:Ask q.l)(hA:NZ q.l)(e:q'.l=q.l):
  C2 (lA x.tu now q) (nc r.tu now q') fun y s=>∃w o w' o',y={x with eG:=w,out:=o,gE:=now}/\s={r with fN:=w',Gz:=now,ik:=o'}/\WR w w'.l/\w'.l=q.l/\o'.l=o.l/\o.l=x.out.l++q.l:=by
 have h1:=hz.o;have h64:=hq.1;refine W2.aap (ako hA hq (now:=now) (by omega)) ?_;rintro _ ⟨o,w,rfl,hw,hl⟩;unfold nc;simp only[Rx.pr,Rx.st];rw[jw (by rw[List.nil_append,e];omega),ho];simp only[aa];rw[jw (by rw[au,e];omega)];have e1:(AZ Sl.nil q'.l ([]++q'.l)).l=q.l:=(NO (s:=Sl.nil) rfl).trans (by simpa using e);exact C2.some (x:={x with eG:=w,out:=o,gE:=now}) (r:={r with fN:=AZ Sl.nil q'.l ([]++q'.l),Gz:=now,ik:=AZ r.ik q'.l (x.out.l++q'.l)}) ⟨w,o,_,_,rfl,rfl,by rw[e1];exact hw,e1,by rw[NO (by rw[ho]),ho,e,hl],hl⟩
end
end Go.Proofs.YtoekkpmeeclpeaaGreat.S
open Go.Ev Go
namespace Go.Proofs.YtoekkpmeeclpeaaGreat.S
def J2(s:ap)(r:aI)(s':ap):Prop:=vI s r s'/\nf s r=some (s',0)
section
variable{s:ap}
theorem acq{a b:Int}(h1:s.hZ=false)(h2:s.ik=0)(hu:0<=s.U/\s.U<65535)(h4:0<=a/\a<16)(h5:0<=b/\b<=1099511627776):
  J2 s (1,s.U+1,a,b) (s.U+1,s.lh,true,a,b,0,false,false,0):=by
 have hw:wr .i64 (s.U+1)=s.U+1:=fE (by omega) (by omega);refine⟨RI h1 h2 hw.symm h4 ⟨h5.1,by omega⟩,?_⟩;have e1:ay.hZ s=false:=h1;have e2:ay.ik s=0:=h2;have e3:wr .i64 s.U=ay.U s:=fE (by omega) (by omega);have b1:b<=1125899906842624:=by omega
 have a1:a<=15:=by omega
 simp[nf,qW,ba.bP,ba.U,ba.A,ba.B,e1,e2,e3,h4.1,a1,h5.1,b1]
theorem ang(h1:s.hZ=true)(h2:s.lf=false)(h3:s.bD=false)(h4:0<=s.fx/\s.fx<8):
  J2 s (2,s.U,s.fx,0) (s.U,s.lh,true,s.dF,s.At,s.fx+1,s.lf,s.bD,s.ik):=by
 refine⟨YY h1 h2 h3 h4,?_⟩;have e1:ay.hZ s=true:=h1;have e2:ay.lf s=false:=h2;have e3:ay.bD s=false:=h3;have e4:wr .i64 (ay.fx s+1)=s.fx+1:=fE (by show _<=s.fx+1;omega) (by show s.fx+1<=_;omega);have e5:0<=ay.fx s:=h4.1;have e6:ay.fx s<8:=h4.2;simp[nf,qW,ba.bP,ba.U,ba.A,ba.B,e1,e2,e3,e4,e5,e6,h1,h2,h3]
theorem af3(h1:s.hZ=true)(h2:s.lf=false)(h3:s.bD=false)(h4:0<s.fx):
  J2 s (3,s.U,0,0) (s.U,s.lh,true,s.dF,s.At,s.fx,true,s.bD,s.ik):=by
 refine⟨Vz h1 h2 h3 h4,?_⟩;have e1:ay.hZ s=true:=h1;have e2:ay.lf s=false:=h2;have e3:ay.bD s=false:=h3;have e6:0<ay.fx s:=h4;simp[nf,qW,ba.bP,ba.U,ba.A,ba.B,e1,e2,e3,e6,h1,h3]
theorem Zo(h1:s.hZ=true)(h3:s.bD=false):
  J2 s (4,s.U,0,0) (s.U,s.lh,true,s.dF,s.At,s.fx,s.lf,true,s.ik):=by
 refine⟨Pq h1 h3,?_⟩;have e1:ay.hZ s=true:=h1;have e3:ay.bD s=false:=h3;simp[nf,qW,ba.bP,ba.U,ba.A,ba.B,e1,e3,h1]
theorem Zn(h1:s.hZ=true)(h2:s.lf=true)(h3:s.bD=false):
  J2 s (5,s.U,0,0) (s.U,s.dF,false,0,0,0,false,false,s.ik):=by
 refine⟨Pp h1 h2 h3,?_⟩;have e1:ay.hZ s=true:=h1;have e2:ay.lf s=true:=h2;have e3:ay.bD s=false:=h3;simp[nf,qW,ba.bP,ba.U,ba.A,ba.B,e1,e2,e3]
theorem Zm(h1:s.hZ=true)(h3:s.bD=true){a:Int}(h4:M8 a):
  J2 s (6,s.U,a,0) (s.U,s.lh,false,0,0,0,false,false,a):=by
 refine⟨Po h1 h3 h4,?_⟩;have e1:ay.hZ s=true:=h1;have e3:ay.bD s=true:=h3;have a0:0<=a:=h4.1;have a1:a<=255:=by have:=h4.2;omega
 simp[nf,qW,ba.bP,ba.U,ba.A,ba.B,e1,e3,a0,a1]
end
end Go.Proofs.YtoekkpmeeclpeaaGreat.S
open Go.Ev Go
namespace Go.Proofs.YtoekkpmeeclpeaaGreat.S
section
variable{n:Nat}{x:Cx}{r:Rx}{now:Int}
theorem Ca{k:Nat}(hz:IH k x r)(hk:k<=90000)(hl:r.L.l=x.l.l)(ha:r.At=x.bK){kd u a b:Int}{s':ap}(hn:J2 x.bK (kd,u,a,b) s'):
  fB x.tu kd u a b=some ({x with l:=.mk (x.l.l++[(kd,u,a,b)]),bK:=s'}:Cx).tu/\
  eY r.tu kd u a b=some ({r with L:=.mk (x.l.l++[(kd,u,a,b)]),At:=s'}:Rx).tu:=by
 have:=hz.l;refine⟨ade (by omega) hn.1,?_⟩;unfold eY;simp only[Rx.pr,Rx.st,hl,ha];rw[jw (by rw[au,aH];omega)];simp only[aa];rw[hn.2];rfl
theorem IH.mono{k m:Nat}(h:IH k x r)(e:k<=m):IH m x r:=⟨bg h.l e,bg h.e e,bg h.o e,bg h.s e⟩
theorem M2(h:Rl n x r){k:Nat}(hz:IH k x r)(hk:k<=90000)(h0:0<=now):
  C2 (sD x.tu now) (pm r.tu now) fun y s=>Rl n y s/\IH (k+64) y s/\Kp x y r s:=by
 have h64:=h.eG.ok.len;have hlen:=h.eG.len;have ho:=hz.o;have hc:=h.c;unfold sD pm mL;simp only[Cx.pr,Cx.st,Rx.pr,Rx.st,hlen,hc,aa];by_cases hw:r.fN.l=[]
 .rw [hw];exact C2.some ⟨h,hz.mono (by omega),Kp.refl⟩
 .obtain ⟨s1,s2⟩:=h.gE hw;have hp:0<r.fN.l.length:=List.length_pos_iff.2 hw;have hd:decide ((r.fN.l.length:Int)>0)=true:=decide_eq_true (by omega);have hs:(x.gE==-1)=false:=beq_eq_false_iff_ne.2 (by omega);rw[hd,s1,hs];simp only[cond_true,aa,Bool.false_or,Bool.true_and];refine W2.cond rfl (fun _=>?_) fun _=>C2.some ⟨h,hz.mono (by omega),Kp.refl⟩;refine W2.xf (W2.aap (OW h.eG (now:=now) (by omega)) ?_);rintro _ ⟨o,rfl,hl⟩;rw[h.out,jw (by rw[au];omega)];have e1:(AZ r.ik r.fN.l (x.out.l++r.fN.l)).l=o.l:=by rw[NO (by rw[h.out]),h.out,hl]
  exact C2.some (Q:=fun y s=>Rl n y s/\IH (k+64) y s/\Kp x y r s) (x:={x with out:=o,gE:=now}) (r:={r with C:=x.c,Gz:=now,ik:=AZ r.ik r.fN.l (x.out.l++r.fN.l)})
   ⟨⟨rfl,h.sw,h.rt,h.l,h.bK,h.ph,h.pl,h.nv,h.eG,fun _=>⟨rfl,h0⟩,h.bH,h.FY,h.skip,h.GF,h.zj,h.vF,h.ask,e1,h.ev,h.wn,Dj h.fo (fun q hq=>(h.wn q hq).2) (by rw[h.out];exact e1.trans hl)⟩,⟨by have:=hz.l;show x.l.l.length<=_;omega,by have:=hz.e;show x.gq.l.length<=_;omega,by show o.l.length<=_;rw[hl,au];omega,by have:=hz.s;show r.jB.l.length<=_;omega⟩,⟨rfl,rfl,rfl,rfl,rfl,rfl,rfl,rfl,rfl⟩⟩
end
end Go.Proofs.YtoekkpmeeclpeaaGreat.S
open Go.Ev Go
namespace Go.Proofs.YtoekkpmeeclpeaaGreat.S
section
variable{n:Nat}{x:Cx}{r:Rx}{now up:Int}
theorem Xi{b:Bool}{t t' c:Int}(h:Tm b t t'):((t'==-1)||decide (wr .i64 (now-t')>=c))=((!b)||decide (wr .i64 (now-t)>=c)):=by
 rcases h with⟨rfl,rfl⟩|⟨rfl,rfl,h⟩
 .rfl
 grind
theorem afD(h:Rl n x r){k:Nat}(hz:IH k x r)(hk:k<=90000)(h0:0<=now):
  C2 (rf x.tu now up) (uB r.tu now up) fun y s=>Rl n y s/\IH (k+8) y s/\Kp x y r s:=by
 have ho:=hz.o;obtain⟨hsw,h8⟩:=h.sw;unfold rf uB mL;simp only[Cx.pr,Cx.st,Rx.pr,Rx.st,aa,Xi h.zj,h.c,h.bK];refine W2.bind (P:=fun a b=>a=(b,x.tu)) ?_ ?_
 .refine W2.cond rfl (fun _=>W2.some rfl) fun _=>W2.some ?_;have:∀a:Int,(!decide (a>=x.c.Aw))=decide (a<x.c.Aw):=fun a=>by grind
  rw[Bool.not_or,Bool.not_not,this]
 .rintro _ b rfl;refine W2.cond rfl (fun _=>C2.some ⟨h,hz.mono (by omega),Kp.refl⟩) fun _=>?_;refine W2.xf (W2.yh ?_)
  have H:W2 (aJ (pB up x.tu) (0,({x with tI:=now}:Cx).tu)) (aJ (uA up) (0,({r with C:=x.c,At:=x.bK,zD:=true,xL:=now}:Rx).tu))
    fun a b=>∃o o',a=({x with tI:=now,out:=o}:Cx).tu/\b=({r with C:=x.c,At:=x.bK,zD:=true,xL:=now,ik:=o'}:Rx).tu/\o'.l=o.l/\o.l.length<=x.out.l.length+8/\∀m∈o.l,xk m:=by
   refine W2.up n (by omega) (fun i a b=>∃o o',a=({x with tI:=now,out:=o}:Cx).tu/\b=({r with C:=x.c,At:=x.bK,zD:=true,xL:=now,ik:=o'}:Rx).tu/\o'.l=o.l/\o.l.length<=x.out.l.length+i/\∀m∈o.l,xk m) ⟨x.out,r.ik,rfl,rfl,h.out,by omega,by rw[<-h.out];exact h.fo⟩ ?_;rintro i _ _ hi ⟨o,o',rfl,rfl,e,hl,ef⟩;dsimp only[pB,uA];simp only[Cx.pr,Cx.st,Rx.pr,Rx.st,h.c,h.bK];refine W2.cond rfl (fun hb=>?_) fun _=>W2.some (.inr ⟨_,_,rfl,rfl,o,o',rfl,rfl,e,by omega,ef⟩);have hlt:(i:Int)<x.c.T.ao:=of_decide_eq_true hb;rw[ED (by omega),zR (by omega),zR (by omega)];simp only[aa,Ff (show i<8 by omega),agA];refine W2.bind (P:=fun a b=>∃o o',a=({x with tI:=now,out:=o}:Cx).tu/\b=({r with C:=x.c,At:=x.bK,zD:=true,xL:=now,ik:=o'}:Rx).tu/\o'.l=o.l/\o.l.length<=x.out.l.length+(i+1)/\∀m∈o.l,xk m) ?_ ?_
   .have hc:(bif bt x.bK.ik i then some (bt up i)else some false:Option Bool)=some (bt x.bK.ik i&&bt up i):=by cases bt x.bK.ik i<;>rfl
    erw[hc]
    simp only[aa];refine W2.cond rfl (fun _=>?_) fun _=>W2.some ⟨o,o',rfl,rfl,e,by omega,ef⟩;rw[e,jw (by grind)];exact W2.some ⟨_,_,rfl,rfl,rfl,by simp;omega,P2 ef rfl⟩
   .rintro _ _ ⟨o,o',rfl,rfl,e,hl,ef⟩;exact W2.some (.inl ⟨_,_,rfl,rfl,by omega,o,o',rfl,rfl,e,hl,ef⟩)
  refine H.mono ?_;rintro _ _ ⟨o,o',rfl,rfl,e,hl,ef⟩;exact⟨_,_,rfl,rfl,⟨rfl,h.sw,h.rt,h.l,rfl,h.ph,h.pl,h.nv,h.eG,h.gE,h.bH,h.FY,h.skip,h.GF,.inr ⟨rfl,rfl,h0⟩,h.vF,h.ask,e,h.ev,h.wn,by simp_all⟩,⟨by have:=hz.l;show x.l.l.length<=_;omega,by have:=hz.e;show x.gq.l.length<=_;omega,by show o.l.length<=_;omega,by have:=hz.s;show r.jB.l.length<=_;omega⟩,⟨rfl,rfl,rfl,rfl,rfl,rfl,rfl,rfl,rfl⟩⟩
theorem Kb{α:Type}[Inhabited α]{l:List α}{i j:Nat}{v:α}(hj:j<l.length):gt (l.set i v) j=if i=j then v else gt l j:=by rw[dx (by rw[List.length_set];exact hj),dx hj,List.getElem_set]
theorem abO(h:Rl n x r){k:Nat}(hz:IH k x r)(hk:k<=90000)(h0:0<=now):
  C2 (pL x.tu now up) (aJ (oM now up) (0,r.tu)) fun y s=>Rl n y s/\IH (k+8) y s/\Kp x y r s:=by
 have ho:=hz.o;obtain⟨hsw,h8⟩:=h.sw;unfold pL;refine W2.xf ?_
 have H:W2 (aJ (n_ x.tu now up) (0,x.tu)) (aJ (oM now up) (0,r.tu))
   fun a b=>∃o o' t ab at',a=({x with Au:=t,out:=o}:Cx).tu/\b=({r with DA:=ab,xl:=at',ik:=o'}:Rx).tu/\(o'.l=o.l/\o.l.length<=x.out.l.length+8/\∀m∈o.l,xk m)/\ab.l.length=n/\at'.l.length=n/\∀i,i<n->Tm (gt ab.l i) (gt at'.l i) (gt t.1 i):=by
  refine W2.up n (by omega) (fun i a b=>∃o o' t ab at',a=({x with Au:=t,out:=o}:Cx).tu/\b=({r with DA:=ab,xl:=at',ik:=o'}:Rx).tu/\(o'.l=o.l/\o.l.length<=x.out.l.length+i/\∀m∈o.l,xk m)/\ab.l.length=n/\at'.l.length=n/\∀i,i<n->Tm (gt ab.l i) (gt at'.l i) (gt t.1 i)) ⟨x.out,r.ik,x.Au,r.DA,r.xl,rfl,rfl,⟨h.out,by omega,by rw[<-h.out];exact h.fo⟩,h.ask⟩ ?_;rintro i _ _ hi ⟨o,o',t,ab,at',rfl,rfl,⟨e,hl,ef⟩,l1,l2,hT⟩;dsimp only[n_,oM];simp only[Cx.pr,Cx.st,Rx.pr,Rx.st];refine W2.cond (by rw[h.c]) (fun hb=>?_) fun _=>W2.some (.inr ⟨_,_,rfl,rfl,o,o',t,ab,at',rfl,rfl,⟨e,by omega,ef⟩,l1,l2,hT⟩);have hlt:(i:Int)<x.c.T.ao:=of_decide_eq_true hb;have hin:i<n:=by omega
  rw[ED (by omega),zR (by omega),p8 (i:=(i:Int)) (n:=8) (by omega) (by omega),aY (n:=ab.l.length) (by omega),aY (n:=at'.l.length) (by omega)];simp only[aa,Ff (show i<8 by omega),Int.toNat_natCast];refine W2.bind (P:=fun a b=>∃o o' t ab at',a=({x with Au:=t,out:=o}:Cx).tu/\b=({r with DA:=ab,xl:=at',ik:=o'}:Rx).tu/\(o'.l=o.l/\o.l.length<=x.out.l.length+(i+1)/\∀m∈o.l,xk m)/\ab.l.length=n/\at'.l.length=n/\∀i,i<n->Tm (gt ab.l i) (gt at'.l i) (gt t.1 i)) ?_ ?_
  .refine W2.bind (P:=fun a b=>a=(b,({x with Au:=t,out:=o}:Cx).tu)) ?_ ?_
   .refine W2.cond rfl (fun _=>?_) fun _=>W2.some rfl;unfold mL;simp only[aa,Cx.pr,Xi (hT i hin),h.c];cases gt ab.l i<;>exact W2.some rfl
   .rintro _ b rfl;refine W2.cond rfl (fun _=>?_) fun _=>W2.some ⟨o,o',t,ab,at',rfl,rfl,⟨e,by omega,ef⟩,l1,l2,hT⟩;simp only[Cx.pr,Cx.st];rw[e,jw (by grind)];refine W2.some ⟨_,_,_,_,_,rfl,rfl,⟨rfl,by simp;omega,P2 ef rfl⟩,by simpa using l1,by simpa using l2,fun j hj=>?_⟩;have h8':t.1.length=8:=t.2;rw[Sl.lc,Sl.lc,Kb (by omega),Kb (by omega),show gt (Arr.set t i now).1 j=if i=j then now else gt t.1 j from Kb (by omega)];by_cases hij:i=j
    .rw [if_pos hij,if_pos hij,if_pos hij];exact .inr ⟨rfl,rfl,h0⟩
    simp_all
  .rintro _ _ ⟨o,o',t,ab,at',rfl,rfl,⟨e,hl,ef⟩,l1,l2,hT⟩;exact W2.some (.inl ⟨_,_,rfl,rfl,by omega,o,o',t,ab,at',rfl,rfl,⟨e,hl,ef⟩,l1,l2,hT⟩)
 refine H.mono ?_;rintro _ _ ⟨o,o',t,ab,at',rfl,rfl,⟨e,hl,ef⟩,hA⟩;exact⟨_,_,rfl,rfl,⟨h.c,h.sw,h.rt,h.l,h.bK,h.ph,h.pl,h.nv,h.eG,h.gE,h.bH,h.FY,h.skip,h.GF,h.zj,h.vF,hA,e,h.ev,h.wn,by simp_all⟩,⟨by have:=hz.l;show x.l.l.length<=_;omega,by have:=hz.e;show x.gq.l.length<=_;omega,by show o.l.length<=_;omega,by have:=hz.s;show r.jB.l.length<=_;omega⟩,⟨rfl,rfl,rfl,rfl,rfl,rfl,rfl,rfl,rfl⟩⟩
end
end Go.Proofs.YtoekkpmeeclpeaaGreat.S
