/- A round is undone, side by side. Conditions: as stated. -/
import Derived.Test.YtoekkpmeeclpeaaGreatGU
open Bool renaming not_false->fq,not_true->bX
open List renaming length_map->br,length_take->bw,mem_map->aR,nil_append->e_
open Option renaming bind_some->aa
open Go.Ev Go
noncomputable section
namespace Go.Proofs.YtoekkpmeeclpeaaGreat.S
structure Sk(n:Nat)(sk:Int)(l:List Int):Prop where
 FY:M8 sk
 skip:∀s:Nat,s<8->(bt sk s=true<->(s:Int)∈l)
 GF:∀s∈l,0<=s/\s<(n:Int)
theorem Sk.add{n:Nat}{sk:Int}{l:List Int}(h:Sk n sk l){s:Nat}(hs:s<n)(hn:n<=8):Sk n (CL .i64 sk (pS .i64 1 (s:Int))) (l++[(s:Int)]):=by
 refine⟨h.FY.bit (by omega) (by omega),fun m hm=>?_,fun m hm=>?_⟩
 .rw [Qo,NI hm (by omega),Bool.or_eq_true,h.skip m hm]
  grind
 .rcases List.mem_append.1 hm with hm|hm
  .exact h.GF m hm
  .rw [List.mem_singleton.1 hm];omega
theorem Sk.has{n:Nat}{sk:Int}{l:List Int}(h:Sk n sk l){s:Nat}(hs:s<8):decide ((s:Int)∈l)=bt sk s:=by rw[Bool.eq_iff_iff,decide_eq_true_eq];exact(h.skip s hs).symm
theorem Rl.sk{n:Nat}{x:Cx}{r:Rx}(h:Rl n x r):Sk n x.skip r.jB.l:=⟨h.FY,h.skip,h.GF⟩
def W_(k u s:Int):ac:=(5,s,u,k,0,0,0,0,0,Sl.nil)
theorem I3{l:List Int}{f:Int->ac}{k:Int}(h:l.Pairwise (·<·))(hf:∀s,ky (f s)=k*8+s):NZ (l.map f):=by
 unfold NZ
 grind
theorem NL{l:List Int}{f:Int->ac}{n k:Nat}(hn:n<=8)(hk:k<8)(hl:l.length<=8)(hs:∀s∈l,0<=s/\s<(n:Int))(hf:∀s,(f s).Sw=s/\(f s).Rd=k):Ask (l.map f):=by
 refine⟨by rw[br];omega,fun m hm=>?_⟩
 grind
section
variable{c:aA}{R:Sl (Sl (Sl Int))}{n K:Nat}{x:Cx}{r:Rx}{now up:Int}
theorem anp(h:x.cI=5):sY x.tu now up=some ({x with bH:=wr .i64 (wr .i64 (now+x.eM.jb)+1)}:Cx).tu:=by unfold sY;simp only[Cx.pr,Cx.st,h];rfl
theorem O9(h:Rl n x r)(hp:Pk n x.eM)(hz:IH K x r)(hK:K<=80000)(h0:0<=now/\now<=1099511627776)(hph:x.cI=5){k:Nat}(hk:k<x.eM.aF.l.length):
  C2 (qL x.tu now (k:Int) up) (nR r.tu now (k:Int) up) fun y s=>(∃rs sk w o,y={x with nv:=(k:Int),bH:=rs,skip:=sk,eG:=w,out:=o,gE:=now})/\Rl n y s/\(y.bH=-1<->s.fN.l≠[])/\IH (K+64) y s:=by
 obtain⟨hl,hs,ha⟩:=hp.bK hk;obtain⟨hsw,h8⟩:=h.sw;have hrl:=hp.rl;have hli:=hp.yZ;have z1:=hz.l;have z2:=hz.e;have z3:=hz.o;have z4:=hz.s;unfold qL nR;simp only[Cx.pr,Cx.st,Rx.pr,Rx.st,h.pl,h.bK];rw[aY hk];simp only[aa];refine W2.bind (P:=fun a b=>∃(ms ms':Sl ac)(sk:Int)(sk':Sl Int)(q:List Int),a=(ms,({x with nv:=(k:Int),bH:=-1,skip:=sk}:Cx).tu)/\b=(ms',({r with At:=x.bK,ja:=x.eM,I8:=(k:Int),nw:=false,jB:=sk'}:Rx).tu)/\ms'.l=ms.l/\ms.l=q.map (W_ (k:Int) x.bK.U)/\q.Sublist (gt x.eM.aF.l k).jm.l/\Sk n sk sk'.l/\sk'.l.length<=r.jB.l.length+8) ?_ ?_
 .refine W2.up (gt x.eM.aF.l k).jm.l.length (by omega) (fun i a b=>∃(ms ms':Sl ac)(sk:Int)(sk':Sl Int)(q:List Int),a=(ms,({x with nv:=(k:Int),bH:=-1,skip:=sk}:Cx).tu)/\b=(ms',({r with At:=x.bK,ja:=x.eM,I8:=(k:Int),nw:=false,jB:=sk'}:Rx).tu)/\ms'.l=ms.l/\ms.l=q.map (W_ (k:Int) x.bK.U)/\q.Sublist ((gt x.eM.aF.l k).jm.l.take i)/\Sk n sk sk'.l/\sk'.l.length<=r.jB.l.length+i) ⟨Sl.nil,Sl.nil,x.skip,r.jB,[],rfl,rfl,rfl,rfl,List.nil_sublist _,h.sk,by omega⟩ ?_;rintro i _ _ hi ⟨ms,ms',sk,sk',q,rfl,rfl,e1,e2,e3,e4,e5⟩;dsimp only[Aq,xP];simp only[Cx.pr,Cx.st,Rx.pr,Rx.st];rw[aY hk];simp only[aa];refine W2.cond rfl (fun hb=>?_) fun hb=>?_
  .have hlt:i<(gt x.eM.aF.l k).jm.l.length:=by have:=of_decide_eq_true hb;omega
   obtain⟨s0,s1⟩:=hs _ (t7 hlt);have ht:=uu hlt;rw[aY hlt];simp only[aa];generalize gt (gt x.eM.aF.l k).jm.l i=s at*;obtain⟨w,rfl⟩:=Int.eq_ofNat_of_zero_le s0;have hw:w<8:=by omega
   have hql:q.length<=i:=by grind
   rw[ED s0,zR hw,IY (by omega)];simp only[aa,adf hw,Gx (show w<64 by omega),e4.has hw];refine W2.bind (P:=fun a b=>∃(ms ms':Sl ac)(sk:Int)(sk':Sl Int)(q:List Int),a=(ms,({x with nv:=(k:Int),bH:=-1,skip:=sk}:Cx).tu)/\b=(ms',({r with At:=x.bK,ja:=x.eM,I8:=(k:Int),nw:=false,jB:=sk'}:Rx).tu)/\ms'.l=ms.l/\ms.l=q.map (W_ (k:Int) x.bK.U)/\q.Sublist ((gt x.eM.aF.l k).jm.l.take (i+1))/\Sk n sk sk'.l/\sk'.l.length<=r.jB.l.length+(i+1)) ?_ ?_
   .have hc:(bif bt up w then some (!bt sk w)else some false:Option Bool)=some (bt up w&&!bt sk w):=by cases bt up w<;>rfl
    rw[hc];simp only[aa];cases(bt up w&&!bt sk w)with
    |true=>
     simp only[bX,cond_true,cond_false];rw[e1,jw (by grind)];refine W2.some ⟨_,_,sk,sk',q++[(w:Int)],rfl,rfl,rfl,?_,?_,e4,by omega⟩
     .rw [Sl.lc,e2,List.map_append];rfl
     simp_all
    |false=>simp only[fq,cond_true,cond_false];rw[GO s0,jw (by grind)];refine W2.some ⟨ms,ms',_,_,q,rfl,rfl,e1,e2,?_,e4.add (by omega) h8,by simp;omega⟩;simp_all
   .rintro _ _ ⟨ms,ms',sk,sk',q,rfl,rfl,h⟩;exact W2.some (.inl ⟨_,_,rfl,rfl,hlt,ms,ms',sk,sk',q,rfl,rfl,h⟩)
  .have hi:i=(gt x.eM.aF.l k).jm.l.length:=by have:=of_decide_eq_false hb;omega
   rw[hi,List.take_of_length_le (Nat.le_refl _)]at e3;exact W2.some (.inr ⟨_,_,rfl,rfl,ms,ms',sk,sk',q,rfl,rfl,e1,e2,e3,e4,by omega⟩)
 .rintro _ _ ⟨ms,ms',sk,sk',q,rfl,rfl,e1,e2,e3,e4,e5⟩;dsimp only;have hq8:=e3.length_le;have hask:Ask ms.l:=by rw[e2];exact NL h8 (show k<8 by omega) (by omega) (fun s h=>hs s (e3.subset h)) fun s=>⟨rfl,rfl⟩
  have hasc:NZ ms.l:=by rw[e2];exact I3 (ha.sublist e3) fun s=>rfl
  refine W2.bind (S_ (x:={x with nv:=(k:Int),bH:=-1,skip:=sk}) (r:={r with At:=x.bK,ja:=x.eM,I8:=(k:Int),nw:=false,jB:=sk'}) (now:=now) (k:=K+8) ⟨by show x.l.l.length<=_;omega,by show x.gq.l.length<=_;omega,by show x.out.l.length<=_;omega,by show sk'.l.length<=_;omega⟩ (by omega) h.out hask hasc e1) ?_;rintro _ _ ⟨_,_,rfl,rfl,w,o,w',o',rfl,rfl,g1,g2,g3,g4⟩;have hwn:∀m∈w'.l,m.Sw<(n:Int)/\xk m:=fun m hm=>by rw[g2,e2]at hm;obtain⟨s,h1,rfl⟩:=aR.1 hm;exact⟨(hs s (e3.subset h1)).2,Gg rfl⟩
  have hfo:∀m∈o'.l,xk m:=Dj h.fo (b:=ms.l) (fun q hq=>(hwn q (by rw[g2];exact hq)).2) (by rw[h.out];exact g3.trans g4);have hlq:ms.l.length=q.length:=by rw[e2,br]
  have hol:o.l.length<=x.out.l.length+8:=by
   grind
  refine W2.cond (by rw[e1]) (fun hb=>?_) fun hb=>?_
  .have hn:ms.l=[]:=List.eq_nil_of_length_eq_zero (by have:=eq_of_beq hb;omega);refine W2.xf (W2.yh ?_);rw[anp (x:={x with nv:=(k:Int),bH:=-1,skip:=sk,eG:=w,out:=o,gE:=now}) hph];unfold nT;simp only[Rx.pr,Rx.st];rw[fE (n:=now+x.eM.jb) (by omega) (by omega),fE (by omega) (by omega)]
   exact C2.some (x:={x with nv:=(k:Int),bH:=now+x.eM.jb+1,skip:=sk,eG:=w,out:=o,gE:=now}) (r:={r with At:=x.bK,ja:=x.eM,I8:=(k:Int),nw:=true,IJ:=now+x.eM.jb+1,jB:=sk',fN:=w',Gz:=now,ik:=o'})
    ⟨⟨_,_,_,_,rfl⟩,⟨h.c,h.sw,h.rt,h.l,rfl,h.ph,rfl,rfl,g1,fun _=>⟨rfl,h0.1⟩,.inr ⟨rfl,rfl,by show 0<=now+x.eM.jb+1;omega⟩,e4.FY,e4.skip,e4.GF,h.zj,h.vF,h.ask,g3,h.ev,hwn,hfo⟩,
     ⟨fun e=>absurd e (by grind),fun e=>absurd (g2.trans hn) e⟩,by show x.l.l.length<=_;omega,by show x.gq.l.length<=_;omega,by show o.l.length<=_;omega,by show sk'.l.length<=_;omega⟩
  .have hn:ms.l≠[]:=fun e=>by rw[e]at hb;exact nomatch hb
   exact C2.some (x:={x with nv:=(k:Int),bH:=-1,skip:=sk,eG:=w,out:=o,gE:=now}) (r:={r with At:=x.bK,ja:=x.eM,I8:=(k:Int),nw:=false,jB:=sk',fN:=w',Gz:=now,ik:=o'})
    ⟨⟨_,_,_,_,rfl⟩,⟨h.c,h.sw,h.rt,h.l,rfl,h.ph,rfl,rfl,g1,fun _=>⟨rfl,h0.1⟩,.inl ⟨rfl,rfl⟩,e4.FY,e4.skip,e4.GF,h.zj,h.vF,h.ask,g3,h.ev,hwn,hfo⟩,
     ⟨fun _=>by show w'.l≠[];rw[g2];exact hn,fun _=>rfl⟩,by show x.l.l.length<=_;omega,by show x.gq.l.length<=_;omega,by show o.l.length<=_;omega,by show sk'.l.length<=_;omega⟩
end
end Go.Proofs.YtoekkpmeeclpeaaGreat.S
open Go.Ev Go
namespace Go.Proofs.YtoekkpmeeclpeaaGreat.S
def agG(x:Cx)(t k u s:Int):ac:=(4,s,u,k,0,tmA x t s,0,0,0,Sl.nil)
section
variable{c:aA}{R:Sl (Sl (Sl Int))}{n K:Nat}{x:Cx}{r:Rx}{now up:Int}
theorem Rl.wr(h:Rl n x r){kd a b:Int}{v:Option Ru}(w:eY r.tu kd (ay.U x.bK) a b=v):eY r.tu kd (ay.U r.At) a b=v:=by rw[h.bK];exact w
theorem JM(hE:kB c R)(h:Rl n x r)(hc:x.c=c)(hR:x.gp=R)(hj:Jq c R x.bK)(ho:x.bK.hZ=true)(hm:Fi c R x.bK.lh x.bK.dF x.bK.At x.eM)(he:∀i,i<8->Et (gt x.vF.1 i))(hz:IH K x r)(hK:K<=70000)(h0:0<=now/\now<=1099511627776):
  C2 (ld x.tu now up) (lM r.tu now up) (Bd c R n (K+80)):=by
 have hp:=h.pk hc (hm.pk hE hj ho);have hrl:=hp.rl;have z1:=hz.l;have z2:=hz.e;have z3:=hz.o;have z4:=hz.s;unfold ld lM;simp only[Cx.pr,Cx.st,Rx.pr,Rx.st,h.bK];refine W2.bind (P:=fun a b=>∃l l' s,a=({x with l:=l,bK:=s}:Cx).tu/\b=({r with L:=l',At:=s}:Rx).tu/\l'.l=l.l/\l.l.length<=x.l.l.length+1/\Jq c R s/\s.hZ=true/\s.bD=true/\Fi c R s.lh s.dF s.At x.eM) ?_ ?_
 .rw [show ay.bD x.bK=x.bK.bD from rfl];cases hcn:x.bK.bD with|false=>obtain⟨w1,w2⟩:=Ca (x:=x) (r:=r) hz (by omega) h.l h.bK (Zo ho hcn);simp only[fq,cond_true];rw[w1,show eY r.tu 4 (ay.U x.bK) 0 0=_ from w2];simp only[aa];exact W2.some ⟨_,_,_,rfl,rfl,rfl,by simp,hj.agz ho,rfl,rfl,hm⟩|true=>simp only[bX,cond_false];exact W2.some ⟨x.l,r.L,x.bK,rfl,by rw[<-h.bK],h.l,by omega,hj,ho,hcn,hm⟩
 .rintro _ _ ⟨l,l',s,rfl,rfl,e1,e2,e3,e4,e5,e6⟩;simp only[Cx.pr,Cx.st,Rx.pr,Rx.st,h.pl];rw[fE (n:=(x.eM.aF.l.length:Int)-1) (by omega) (by omega),show(x.eM.aF.l.length:Int)-1=((x.eM.aF.l.length-1:Nat):Int)by omega];refine W2.xf (W2.yh ((O9 (x:={x with l:=l,bK:=s,cI:=5}) (r:={r with L:=l',At:=s,ja:=x.eM,gR:=5}) (up:=up) ⟨h.c,h.sw,h.rt,e1,rfl,rfl,rfl,h.nv,h.eG,h.gE,h.bH,h.FY,h.skip,h.GF,h.zj,h.vF,h.ask,h.out,h.ev,h.wn,h.fo⟩ hp (K:=K+1) ⟨by show l.l.length<=_;omega,by show x.gq.l.length<=_;omega,by show x.out.l.length<=_;omega,by show r.jB.l.length<=_;omega⟩ (by omega) h0 rfl (k:=x.eM.aF.l.length-1) (by grind)).mono ?_));rintro _ _ ⟨_,s',rfl,rfl,⟨rs,sk,w,o,rfl⟩,g1,g2,g3⟩;exact⟨_,_,rfl,rfl,⟨⟨g1,hc,hR,e3,TK e4 e5 e6 ⟨by simp_all,by grind⟩,he,g3.mono (by omega)⟩,fun _=>g2,fun e=>absurd e (by simp_all)⟩⟩
theorem adP(hE:kB c R)(h:Rl n x r)(hc:x.c=c)(hR:x.gp=R)(hj:Jq c R x.bK)(ho:x.bK.hZ=true)(hm:Fi c R x.bK.lh x.bK.dF x.bK.At x.eM)(he:∀i,i<8->Et (gt x.vF.1 i))(hz:IH K x r)(hK:K<=70000)(h0:0<=now/\now<=1099511627776)
  (h1:x.bK.lf=false) (h2:x.bK.bD=false) {k:Nat} (ha:x.bK.fx=k) (hk:k<x.eM.aF.l.length):
  C2 (xg x.tu now (k:Int) up) (rW r.tu now (k:Int) up) (Bd c R n (K+80)):=by
 have hp:=h.pk hc (hm.pk hE hj ho);have hrl:=hp.rl;obtain⟨hl,hs,hasc⟩:=hp.bK hk;have h8:=h.sw.2;have z1:=hz.l;have z2:=hz.e;have z3:=hz.o;have z4:=hz.s;obtain⟨q1,q2⟩:=h.vF;unfold xg rW;simp only[Cx.pr,Cx.st,Rx.pr,Rx.st];rw[aY hk];simp only[aa];obtain⟨t,e1,e2⟩:=aeQ (x:=x) he hl fun s h=>by have:=hs s h;omega
 rw[e1,h.pl,Ur h he hk hl hs];simp only[aa];refine W2.cond rfl (fun _=>W2.xf (W2.yh (JM hE h hc hR hj ho hm he hz hK h0))) fun hb=>?_;have hall:∀s∈(gt x.eM.aF.l k).jm.l,Ix x (gt x.eM.aF.l k).At s=false:=by simpa using hb
 have et:=e2 hall;obtain⟨w1,w2⟩:=Ca (x:=x) (r:=r) hz (by omega) h.l h.bK (ang ho h1 h2 (by omega));rw[ha]at w1 w2;have w2':=h.wr w2;rw[w1,w2'];simp only[aa,Cx.pr,Cx.st,Rx.pr,Rx.st];rw[aY hk];simp only[aa];have htl:t.l.length=(gt x.eM.aF.l k).jm.l.length:=by rw[et,br]
 obtain⟨ms,m1,m2⟩:=xR (f:=vd (k:Int) t ({x with l:=.mk (x.l.l++[(2,x.bK.U,(k:Int),0)]),bK:=(x.bK.U,x.bK.lh,true,x.bK.dF,x.bK.At,(k:Int)+1,x.bK.lf,x.bK.bD,x.bK.ik)}:Cx).tu k) (gt x.eM.aF.l k).jm.l (fun s=>[agG x (gt x.eM.aF.l k).At (k:Int) x.bK.U s]) .nil (by omega) (fun i s hi hs'=>by
  have hle:s.l.length<=8:=by rw[hs'];show([]++_:List ac).length<=8;rw[e_,fm1,br,bw];omega
  simp only[vd,Cx.pr,fT hi,cond_true,aY hi,aa];rw[aY (n:=t.l.length) (by omega)];simp only[aa];rw[jw (by grind)];refine⟨_,rfl,?_⟩;rw[Sl.lc,et,dx (l:=List.map _ _) (by rw[br];exact hi),List.getElem_map,<-dx hi];rfl) (fun s=>by simp only[vd,Cx.pr,ij,cond_false])
 obtain⟨ms',m3,m4⟩:=xR (f:=qU (k:Int) ({r with L:=.mk (x.l.l++[(2,x.bK.U,(k:Int),0)]),At:=(x.bK.U,x.bK.lh,true,x.bK.dF,x.bK.At,(k:Int)+1,x.bK.lf,x.bK.bD,x.bK.ik)}:Rx).tu) (gt x.eM.aF.l k).jm.l (fun s=>[agG x (gt x.eM.aF.l k).At (k:Int) x.bK.U s]) .nil (by omega) (fun i s hi hs'=>by
  have hle:s.l.length<=8:=by rw[hs'];show([]++_:List ac).length<=8;rw[e_,fm1,br,bw];omega
  have hx:=hs _ (t7 hi);simp only[qU,Rx.pr,h.pl];rw[aY hk];simp only[aa,fT hi,cond_true,aY hi];rw[p8 (n:=r.GG.l.length) hx.1 (by omega)];simp only[aa];rw[q2 _ (by omega),h.c,(agK (he _ (by omega))).2];simp only[aa];rw[jw (by grind)];exact⟨_,rfl,rfl⟩) (fun s=>by
  simp only[qU,Rx.pr,h.pl];rw[aY hk];simp_all)
 have m2:ms.l=(gt x.eM.aF.l k).jm.l.map (agG x (gt x.eM.aF.l k).At (k:Int) x.bK.U):=by rw[m2,fm1];rfl
 have m4:ms'.l=ms.l:=by rw[m4,fm1,m2];rfl
 have hask:Ask ms.l:=by rw[m2];exact NL h8 (show k<8 by omega) hl hs fun s=>⟨rfl,rfl⟩
 have hac:NZ ms.l:=by rw[m2];exact I3 hasc fun s=>rfl
 rw[m1,m3];simp only[aa];refine W2.xf (W2.yh ((S_ (x:={x with l:=.mk (x.l.l++[(2,x.bK.U,(k:Int),0)]),bK:=(x.bK.U,x.bK.lh,true,x.bK.dF,x.bK.At,(k:Int)+1,x.bK.lf,x.bK.bD,x.bK.ik),cI:=2,nv:=(k:Int)}) (r:={r with L:=.mk (x.l.l++[(2,x.bK.U,(k:Int),0)]),At:=(x.bK.U,x.bK.lh,true,x.bK.dF,x.bK.At,(k:Int)+1,x.bK.lf,x.bK.bD,x.bK.ik),gR:=2,I8:=(k:Int)}) (now:=now) (k:=K+1) ⟨by simp;omega,by show x.gq.l.length<=_;omega,by show x.out.l.length<=_;omega,by show r.jB.l.length<=_;omega⟩ (by omega) h.out hask hac m4).mono ?_));rintro _ _ ⟨_,_,rfl,rfl,w,o,w',o',rfl,rfl,g1,g2,g3,g4⟩
 have hol:o.l.length<=x.out.l.length+8:=by
  grind
 have hwn:∀m∈w'.l,m.Sw<(n:Int)/\xk m:=fun m hm=>by rw[show w'.l=_ from g2.trans m2]at hm;obtain⟨s,h1,rfl⟩:=aR.1 hm;exact⟨(hs s h1).2,Gg rfl⟩
 have hj':=hj.anR ho (by omega);rw[ha]at hj'
 exact⟨_,_,rfl,rfl,⟨⟨⟨h.c,h.sw,h.rt,rfl,rfl,rfl,h.pl,rfl,g1,fun _=>⟨rfl,h0.1⟩,h.bH,h.FY,h.skip,h.GF,h.zj,h.vF,h.ask,g3,h.ev,hwn,Dj h.fo (b:=ms.l) (fun q hq=>(hwn q (by rw[show w'.l=_ from g2];exact hq)).2) (by rw[h.out];exact g3.trans g4)⟩,hc,hR,hj',af9 rfl hm rfl ⟨by show(0:Int)<=(k:Int);omega,by simp_all⟩ h1 h2,he,by simp;omega,by show x.gq.l.length<=_;omega,by show o.l.length<=_;omega,by show r.jB.l.length<=_;omega⟩,
  fun e=>absurd e (by show¬(2:Int)=5;decide),fun e=>absurd e (by simp_all)⟩⟩
end
end Go.Proofs.YtoekkpmeeclpeaaGreat.S
