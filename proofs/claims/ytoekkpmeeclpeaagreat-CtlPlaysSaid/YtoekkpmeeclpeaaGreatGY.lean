/- Going on, checking, watching, side by side. Conditions: as stated. -/
import Derived.Test.YtoekkpmeeclpeaaGreatGW
open Bool renaming false_and->oo,not_true->bX
open Int renaming eq_ofNat_of_zero_le->dR,toNat_natCast->dA
open List renaming length_pos_iff->ji,map_append->dm,mem_map->aR,range->aG
open Nat renaming pow_le_pow_right->dq
open Option renaming bind_some->aa
open Go.Ev Go
namespace Go.Proofs.YtoekkpmeeclpeaaGreat.S
theorem bq{a b:Int}(h:a=b):(a==b)=true:=by rw[h];exact beq_self_eq_true b
theorem bn{a b:Int}(h:a≠b):(a==b)=false:=beq_eq_false_iff_ne.2 h
def agv(p:aC)(u s:Int):ac:=(6,s,u,0,0,0,0,0,(ui (Mg p s) p.aF.l.length:Int),Sl.nil)
section
variable{c:aA}{R:Sl (Sl (Sl Int))}{n K:Nat}{x:Cx}{r:Rx}{now up:Int}
theorem Yp(hE:kB c R)(h:Bs c R n K x r)(hw:r.fN.l=[])(hph:x.cI=1\/x.cI=2\/x.cI=4\/x.cI=5)(hK:K<=60000)(h0:0<=now/\now<=1099511627776):
  C2 (u7 x.tu now up) (qo r.tu now up) (Bd c R n (K+80)):=by
 obtain⟨ho,hm⟩:=h.i.act (by omega) (by omega);have hp:=h.rl.pk h.hc (hm.pk hE h.j ho);have hrl:=hp.rl;have hli:=hp.yZ;have z1:=h.z.l;have z2:=h.z.e;have z3:=h.z.o;have z4:=h.z.s;have hrp:=h.rl.ph;unfold u7 qo;simp only[Cx.pr,Cx.st,Rx.pr,Rx.st];rcases hph with e|e|e|e
 .simp only[bq e,bq (hrp.trans e),cond_true];obtain⟨a1,a2,a3⟩:=h.i.p1 e;exact W2.xf (W2.yh (adP hE h.rl h.hc h.hR h.j ho hm h.e h.z (by omega) h0 a2 a3 (k:=0) a1 (by omega)))
 .obtain ⟨a1,⟨a2,a5⟩,a3,a4⟩:=h.i.p2 e;have e1:wr .i64 (x.nv+1)=((x.nv.toNat+1:Nat):Int):=by rw[fE (by omega) (by omega)];omega
  have e2:wr .i64 (r.I8+1)=((x.nv.toNat+1:Nat):Int):=by rw[h.rl.nv];exact e1
  have cnd:decide (r.I8<wr .i64 (((aQ.aF r.ja).l.length:Int)-1))=decide (((x.nv.toNat+1:Nat):Int)<(x.eM.aF.l.length:Int)):=by rw[h.rl.nv,h.rl.pl,decide_eq_decide];show x.nv<wr .i64 ((x.eM.aF.l.length:Int)-1)<->_;rw[fE (by omega) (by omega)];omega
  simp only[bn (show x.cI≠1 by omega),bn (show r.gR≠1 by omega),bq e,bq (hrp.trans e),cond_true,cond_false,Bool.true_and,cnd,e1,e2];refine W2.cond rfl (fun hb=>?_) fun _=>?_
  .have hlt:=of_decide_eq_true hb;exact W2.xf (W2.yh (adP hE h.rl h.hc h.hR h.j ho hm h.e h.z (by omega) h0 a3 a4 (k:=x.nv.toNat+1) (by omega) (by omega)))
  .obtain ⟨w1,w2⟩:=Ca (x:=x) (r:=r) h.z (by omega) h.rl.l h.rl.bK (af3 ho a3 a4 (by omega));have w2':=h.rl.wr w2;rw[w1,w2']
   exact C2.some (x:={x with l:=.mk (x.l.l++[(3,x.bK.U,0,0)]),bK:=(x.bK.U,x.bK.lh,true,x.bK.dF,x.bK.At,x.bK.fx,true,x.bK.bD,x.bK.ik),cI:=3}) (r:={r with L:=.mk (x.l.l++[(3,x.bK.U,0,0)]),At:=(x.bK.U,x.bK.lh,true,x.bK.dF,x.bK.At,x.bK.fx,true,x.bK.bD,x.bK.ik),gR:=3})
    ⟨⟨⟨h.rl.c,h.rl.sw,h.rl.rt,rfl,rfl,rfl,h.rl.pl,h.rl.nv,h.rl.eG,h.rl.gE,h.rl.bH,h.rl.FY,h.rl.skip,h.rl.GF,h.rl.zj,h.rl.vF,h.rl.ask,h.rl.out,h.rl.ev,h.rl.wn,h.rl.fo⟩,h.hc,h.hR,h.j.aom ho,Np (.inl rfl) rfl rfl a4 hm,h.e,by simp;omega,by show x.gq.l.length<=_;omega,by show x.out.l.length<=_;omega,by show r.jB.l.length<=_;omega⟩,
     fun e=>absurd e (by show¬(3:Int)=5;decide),fun _=>hw⟩
 .obtain ⟨a1,a2⟩:=h.i.p3 (.inr e);simp only[bn (show x.cI≠1 by omega),bn (show r.gR≠1 by omega),bn (show x.cI≠2 by omega),bn (show r.gR≠2 by omega),bq e,bq (hrp.trans e),cond_true,cond_false,oo];obtain⟨w1,w2⟩:=Ca (x:=x) (r:=r) h.z (by omega) h.rl.l h.rl.bK (Zn ho a1 a2);have w2':=h.rl.wr w2;rw[w1,w2'];simp only[aa];refine W2.bind (M3 (x:={x with l:=.mk (x.l.l++[(5,x.bK.U,0,0)]),bK:=(x.bK.U,x.bK.dF,false,0,0,0,false,false,x.bK.ik)}) (r:={r with L:=.mk (x.l.l++[(5,x.bK.U,0,0)]),At:=(x.bK.U,x.bK.dF,false,0,0,0,false,false,x.bK.ik)}) (n:=n) ⟨h.rl.c,h.rl.sw,h.rl.rt,rfl,rfl,h.rl.ph,h.rl.pl,h.rl.nv,h.rl.eG,h.rl.gE,h.rl.bH,h.rl.FY,h.rl.skip,h.rl.GF,h.rl.zj,h.rl.vF,h.rl.ask,h.rl.out,h.rl.ev,h.rl.wn,h.rl.fo⟩ (k:=K+1) ⟨by simp;omega,by show x.gq.l.length<=_;omega,by show x.out.l.length<=_;omega,by show r.jB.l.length<=_;omega⟩ (by omega)) ?_;rintro _ _ ⟨_,_,rfl,rfl,ev,ev',rfl,rfl,g1,g2⟩;have g2:ev.l.length=x.gq.l.length+1:=g2
  exact C2.some (x:={x with l:=.mk (x.l.l++[(5,x.bK.U,0,0)]),bK:=(x.bK.U,x.bK.dF,false,0,0,0,false,false,x.bK.ik),gq:=ev,cI:=0,bH:=-1,tI:=-1}) (r:={r with L:=.mk (x.l.l++[(5,x.bK.U,0,0)]),At:=(x.bK.U,x.bK.dF,false,0,0,0,false,false,x.bK.ik),l5:=ev',gR:=0,nw:=false,zD:=false})
   ⟨⟨⟨h.rl.c,h.rl.sw,h.rl.rt,rfl,rfl,rfl,h.rl.pl,h.rl.nv,h.rl.eG,h.rl.gE,.inl ⟨rfl,rfl⟩,h.rl.FY,h.rl.skip,h.rl.GF,.inl ⟨rfl,rfl⟩,h.rl.vF,h.rl.ask,h.rl.out,g1,h.rl.wn,h.rl.fo⟩,h.hc,h.hR,h.j.ags ho,F9 rfl,h.e,by simp;omega,by show ev.l.length<=_;omega,by show x.out.l.length<=_;omega,by show r.jB.l.length<=_;omega⟩,
    fun e=>absurd e (by show¬(0:Int)=5;decide),fun _=>hw⟩
 .obtain ⟨a1,a2⟩:=h.i.p5 e;simp only[bn (show x.cI≠1 by omega),bn (show r.gR≠1 by omega),bn (show x.cI≠2 by omega),bn (show r.gR≠2 by omega),bn (show x.cI≠4 by omega),bn (show r.gR≠4 by omega),bq e,cond_true,cond_false,oo];refine W2.yh ?_;unfold nT;simp only[Rx.pr,Rx.st];have e3:wr .i64 (wr .i64 (now+aQ.jb r.ja)+1)=now+x.eM.jb+1:=by rw[h.rl.pl];show wr .i64 (wr .i64 (now+x.eM.jb)+1)=_;rw[fE (n:=now+x.eM.jb) (by omega) (by omega),fE (by omega) (by omega)]
  have e4:wr .i64 (wr .i64 (now+aC.jb x.eM)+1)=now+x.eM.jb+1:=by rw[fE (n:=now+x.eM.jb) (by omega) (by omega),fE (by omega) (by omega)]
  rw[e3,e4]
  exact C2.some (x:={x with bH:=now+x.eM.jb+1}) (r:={r with nw:=true,IJ:=now+x.eM.jb+1})
   ⟨⟨⟨h.rl.c,h.rl.sw,h.rl.rt,h.rl.l,h.rl.bK,h.rl.ph,h.rl.pl,h.rl.nv,h.rl.eG,h.rl.gE,.inr ⟨rfl,rfl,by show 0<=now+x.eM.jb+1;omega⟩,h.rl.FY,h.rl.skip,h.rl.GF,h.rl.zj,h.rl.vF,h.rl.ask,h.rl.out,h.rl.ev,h.rl.wn,h.rl.fo⟩,h.hc,h.hR,h.j,h.i,h.e,by show x.l.l.length<=_;omega,by show x.gq.l.length<=_;omega,by show x.out.l.length<=_;omega,by show r.jB.l.length<=_;omega⟩,
    fun _=>⟨fun e=>absurd e (by grind),fun e=>absurd hw e⟩,fun e=>absurd e (by simp_all)⟩
theorem abR(hE:kB c R)(h:Bs c R n K x r)(hph:x.cI=3)(hK:K<=60000)(h0:0<=now/\now<=1099511627776):
  C2 (wP x.tu now) (sR r.tu now) (Bd c R n (K+80)):=by
 obtain⟨ho,hm⟩:=h.i.act (by omega) (by omega);obtain⟨a1,a2⟩:=h.i.p3 (.inl hph);have hp:=h.rl.pk h.hc (hm.pk hE h.j ho);obtain⟨hsw,h8⟩:=h.rl.sw;have z1:=h.z.l;have z2:=h.z.e;have z3:=h.z.o;have z4:=h.z.s;obtain⟨m,v,q1,q2,q3,q4⟩:=aaJ hp h8;unfold wP sR;simp only[Cx.pr,Cx.st,Rx.pr,Rx.st];rw[q1];simp only[aa];refine W2.bind (P:=fun(s t:Sl ac)=>t.l=s.l/\∃q:List Int,s.l=q.map (agv x.eM x.bK.U)/\q.Sublist ((aG n).map fun(a:Nat)=>(a:Int))) ?_ ?_
 .refine W2.up n (by omega) (fun i(s t:Sl ac)=>t.l=s.l/\∃q:List Int,s.l=q.map (agv x.eM x.bK.U)/\q.Sublist ((aG i).map fun(a:Nat)=>(a:Int))) ⟨rfl,[],rfl,List.nil_sublist _⟩ ?_;rintro i s t hi ⟨e1,q,e2,e3⟩;dsimp only[BB,yK];simp only[Cx.pr,Rx.pr,h.rl.c,h.rl.pl,h.rl.bK];refine W2.cond rfl (fun hb=>?_) fun hb=>?_
  .have hlt:(i:Int)<x.c.T.ao:=of_decide_eq_true hb;have hi8:i<8:=by omega
   have hql:q.length<=i:=by grind
   have hrs:((aG (i+1)).map fun(a:Nat)=>(a:Int))=((aG i).map fun(a:Nat)=>(a:Int))++[(i:Int)]:=by rw[List.range_succ,dm];rfl
   rw[ED (by omega),Ye hp,afz hp];simp only[aa,Ff hi8,q3 i hi8];refine W2.bind (P:=fun(s t:Sl ac)=>t.l=s.l/\∃q:List Int,s.l=q.map (agv x.eM x.bK.U)/\q.Sublist ((aG (i+1)).map fun(a:Nat)=>(a:Int))) ?_ ?_
   .refine W2.cond rfl (fun _=>?_) fun _=>W2.some ⟨e1,q,e2,?_⟩
    .rw [p8 (i:=(i:Int)) (n:=8) (by omega) (by omega)];simp only[aa,dA,q4 i hi8];rw[e1,jw (by grind)];refine W2.some ⟨rfl,q++[(i:Int)],?_,?_⟩
     .rw [Sl.lc,e2,dm];rfl
     simp_all
    simp_all
   .rintro s t gj;exact W2.some (.inl ⟨s,t,rfl,rfl,by omega,gj⟩)
  .have:i=n:=by have:=of_decide_eq_false hb;omega
   subst this;exact W2.some (.inr ⟨s,t,rfl,rfl,e1,q,e2,e3⟩)
 .rintro ms ms' ⟨e1,q,e2,e3⟩;have hq8:=e3.length_le;rw[List.length_map,List.length_range]at hq8;have hask:Ask ms.l:=by rw[e2];exact NL (k:=0) h8 (by decide) (by omega) (fun s hs=>by obtain⟨a,ha,rfl⟩:=aR.1 (e3.subset hs);simp_all) fun s=>⟨rfl,rfl⟩
  have hasc:NZ ms.l:=by rw[e2];refine I3 (k:=0) (List.Pairwise.sublist e3 ?_) fun s=>rfl;rw[List.pairwise_map];exact List.pairwise_lt_range.imp fun{a b}hab=>by omega
  refine W2.xf (W2.yh ((S_ (x:={x with cI:=4}) (r:={r with gR:=4}) (now:=now) (k:=K) ⟨h.z.l,h.z.e,h.z.o,h.z.s⟩ (by omega) h.rl.out hask hasc e1).mono ?_));rintro _ _ ⟨_,_,rfl,rfl,w,o,w',o',rfl,rfl,g1,g2,g3,g4⟩
  have hol:o.l.length<=x.out.l.length+8:=by
   grind
  have hwn:∀m∈w'.l,m.Sw<(n:Int)/\xk m:=fun m hm=>by rw[show w'.l=_ from g2.trans e2]at hm;obtain⟨s,h1,rfl⟩:=aR.1 hm;obtain⟨a,ha,rfl⟩:=aR.1 (e3.subset h1);have:=List.mem_range.1 ha;exact⟨by show(a:Int)<_;omega,Gg rfl⟩
  exact⟨_,_,rfl,rfl,⟨⟨⟨h.rl.c,h.rl.sw,h.rl.rt,h.rl.l,h.rl.bK,rfl,h.rl.pl,h.rl.nv,g1,fun _=>⟨rfl,h0.1⟩,h.rl.bH,h.rl.FY,h.rl.skip,h.rl.GF,h.rl.zj,h.rl.vF,h.rl.ask,g3,h.rl.ev,hwn,Dj h.rl.fo (b:=ms.l) (fun q hq=>(hwn q (by rw[show w'.l=_ from g2];exact hq)).2) (by rw[h.rl.out];exact g3.trans g4)⟩,h.hc,h.hR,h.j,Np (.inr rfl) ho a1 a2 hm,h.e,by show x.l.l.length<=_;omega,by show x.gq.l.length<=_;omega,by show o.l.length<=_;omega,by show r.jB.l.length<=_;omega⟩,
   fun e=>absurd e (by show¬(4:Int)=5;decide),fun e=>absurd e (by simp_all)⟩⟩
theorem abN(hE:kB c R)(h:Bd c R n K x r)(hph:x.cI≠0/\x.cI≠5/\x.cI≠6)(hK:K<=60000)(h0:0<=now/\now<=1099511627776):
  C2 (sC x.tu now up) (sP r.tu now up) (Bd c R n (K+80)):=by
 have h7:=h.i.ph;obtain⟨ho,hm⟩:=h.i.act hph.1 hph.2.2;have hp:=h.rl.pk h.hc (hm.pk hE h.j ho);have hrl:=hp.rl;obtain⟨hsw,h8⟩:=h.rl.sw;have hrp:=h.rl.ph;obtain⟨m,v,q1,q2,_,_⟩:=Uq hp h8 up;unfold sC sP;simp only[Cx.pr,Rx.pr,h.rl.pl,h.rl.c,hrp,h.rl.nv];rw[q1,LW hp];simp only[aa,q2];refine W2.bind (P:=fun(a b:Int)=>b=a/\∃i:Nat,a=i/\i<x.eM.aF.l.length) ?_ ?_
 .refine W2.cond rfl (fun hb=>W2.some ⟨rfl,?_⟩) fun _=>W2.some ⟨rfl,0,rfl,by omega⟩;obtain⟨_,⟨a2,a5⟩,_⟩:=h.i.p2 (eq_of_beq hb);exact⟨x.nv.toNat,by omega,by omega⟩
 .rintro _ _ ⟨rfl,i,rfl,hi⟩;cases hR:decide (Rch x.eM up)with
  |false=>exact W2.xf (W2.yh (JM hE h.rl h.hc h.hR h.j ho hm h.e h.z (by omega) h0))
  |true=>
   have hc2:decide (x.cI<=2)=(x.cI==1||x.cI==2):=by
    grind
   simp only[bX,cond_false];rw[hc2,aY hi];simp only[aa];refine W2.bind (P:=fun a b=>b=a) ?_ ?_
   .refine W2.cond rfl (fun _=>W2.some rfl) fun _=>W2.some rfl
   .rintro b _ rfl;refine W2.cond rfl (fun _=>W2.xf (W2.yh (JM hE h.rl h.hc h.hR h.j ho hm h.e h.z (by omega) h0))) fun _=>?_;refine W2.cond rfl (fun hb=>?_) fun _=>?_
    .simp only[Bool.and_eq_true,beq_iff_eq]at hb;exact W2.xf (W2.yh (abR hE h.bs hb.1 hK h0))
    .refine W2.xf (W2.yh ((M2 h.rl h.z (by omega) h0.1).mono ?_));rintro _ _ ⟨y,s,rfl,rfl,g1,g2,g3⟩;exact⟨y,s,rfl,rfl,h.tH g1 (g2.mono (by omega)) g3⟩
end
end Go.Proofs.YtoekkpmeeclpeaaGreat.S
open Go.Ev Go
namespace Go.Proofs.YtoekkpmeeclpeaaGreat.S
theorem ahd{up s:Int}(h:0<=s/\s<8):GI up s=bt up s.toNat:=by obtain⟨w,rfl⟩:=dR h.1;exact Ff (show w<8 by omega)
theorem abo{m:Mp Int ac}(h:Qy m){up sk:Int}{s:Nat}(hs:s<8):
  bt (tU (β:=Int×Int×Int×Int×Int×Int×Int×Sl aV) up m sk) s=true<->bt sk s=true\/∃e∈m.es,e.2.1.Sw=(s:Int)/\GI up (s:Int)=false:=by
 have:∀(es:List (Int×ac×Nat)),(∀e∈es,0<=e.2.1.Sw/\e.2.1.Sw<8)->∀sk,(bt (es.foldl (fun s e=>bif GI up e.2.1.2.1 then s else CL .i64 s (pS .i64 1 e.2.1.2.1)) sk) s=true<->bt sk s=true\/∃e∈es,e.2.1.Sw=(s:Int)/\GI up (s:Int)=false):=by
  intro es;induction es with
  |nil=>simp
  |cons e es ih=>
   intro he sk;have h1:=he e List.mem_cons_self;rw[List.foldl_cons,ih fun x hx=>he x (List.mem_cons_of_mem _ hx)];have e1:e.2.1.2.1=e.2.1.Sw:=rfl;rw[e1];obtain⟨w,hw⟩:=dR h1.1;rw[hw]at h1|-;cases hu:GI up (w:Int)with
   |true=>grind
   |false=>
    show(bt (CL .i64 sk _) s=true\/_)<->_;rw[Qo,NI hs (by omega)]
    grind
 exact this m.es (fun e he=>(h.key e he).1) sk
section
variable{c:aA}{R:Sl (Sl (Sl Int))}{n K:Nat}{x:Cx}{r:Rx}{now up:Int}
theorem afx(h:Rl n x r)(hz:IH K x r)(hK:K<=80000):
  Wq (aJ (uD up) (0,Sl.nil,r.tu)) fun t=>∃(left:Sl ac)(sk':Sl Int),t=(left,({r with jB:=sk'}:Rx).tu)/\left.l=r.fN.l.filter (fun m=>GI up m.Sw)/\Sk n (tU (β:=Int×Int×Int×Int×Int×Int×Int×Sl aV) up x.eG x.skip) sk'.l/\sk'.l.length<=r.jB.l.length+64:=by
 have h64:=h.eG.ok.len;have hlen:=h.eG.len;have h8:=h.sw.2;have z4:=hz.s;refine Wq.up r.fN.l.length (by omega) (fun i t=>∃(left:Sl ac)(sk':Sl Int),t=(left,({r with jB:=sk'}:Rx).tu)/\left.l=(r.fN.l.take i).filter (fun m=>GI up m.Sw)/\(∀s:Int,s∈sk'.l<->s∈r.jB.l\/∃m∈r.fN.l.take i,m.Sw=s/\GI up s=false)/\sk'.l.length<=r.jB.l.length+i) ⟨Sl.nil,r.jB,rfl,rfl,fun s=>by simp,by omega⟩ ?_;rintro i _ hi ⟨left,sk',rfl,e1,e2,e3⟩;dsimp only[uD];simp only[Rx.pr,Rx.st];refine Wq.cond (fun hb=>?_) fun hb=>?_
 .have hlt:i<r.fN.l.length:=by have:=of_decide_eq_true hb;omega
  have hm:=t7 hlt;have ht:=uu hlt;obtain⟨⟨s0,s1⟩,_⟩:=h.eG.key hm
  have hle:left.l.length<=i:=by
   grind
  rw[aY hlt];simp only[aa];generalize gt r.fN.l i=m at*;have hu:=ahd (up:=up) ⟨s0,s1⟩
  have hup:pi up m.Sw=some (GI up m.Sw):=by
   grind [dR,dA,zR]
  rw[hup];simp only[aa];refine Wq.bind (P:=fun t=>∃(left:Sl ac)(sk':Sl Int),t=(left,({r with jB:=sk'}:Rx).tu)/\left.l=(r.fN.l.take (i+1)).filter (fun m=>GI up m.Sw)/\(∀s:Int,s∈sk'.l<->s∈r.jB.l\/∃m∈r.fN.l.take (i+1),m.Sw=s/\GI up s=false)/\sk'.l.length<=r.jB.l.length+(i+1)) ?_ ?_
  .refine Wq.cond (fun hc=>?_) fun hc=>?_
   .rw [jw (by grind)];refine Wq.some ⟨_,sk',rfl,?_,fun s=>?_,by omega⟩
    .simp_all
    .rw [e2,ht];refine or_congr .rfl ⟨fun⟨q,a,b⟩=>⟨q,List.mem_append_left _ a,b⟩,fun⟨q,a,b,d⟩=>?_⟩
     grind
   .rw [jw (by grind)];refine Wq.some ⟨left,_,rfl,?_,fun s=>?_,by simp;omega⟩
    .simp_all
    .rw [Sl.lc,List.mem_append,List.mem_singleton,e2,ht,or_assoc];refine or_congr .rfl ⟨?_,?_⟩
     .rintro (⟨q,a,b⟩|rfl)
      .grind
      .exact ⟨m,by simp,rfl,hc⟩
     grind
  .rintro _ ⟨left,sk',rfl,g⟩;exact Wq.some ⟨_,rfl,hlt,left,sk',rfl,g⟩
 .have:i=r.fN.l.length:=by have:=of_decide_eq_false hb;omega
  rw[this,List.take_of_length_le (Nat.le_refl _)]at e1 e2;refine Wq.some ⟨left,sk',rfl,e1,⟨abn h.eG.ok h.FY,fun s hs=>?_,fun s hs=>?_⟩,by omega⟩
  .rw [abo h.eG.ok hs,e2,h.skip s hs];refine or_congr .rfl ⟨fun⟨e,a,b⟩=>⟨e.2.1,(h.eG.ZZ a).2,b⟩,fun⟨m,a,b⟩=>?_⟩;obtain⟨e,he,rfl⟩:=(h.eG.yq m).1 a;exact⟨e,he,b⟩
  .rcases (e2 s).1 hs with hs|⟨m,a,rfl,_⟩
   .exact h.GF s hs
   .exact ⟨(h.eG.key a).1.1,(h.wn m a).1⟩
theorem akn(h:Rl n x r)(hz:IH K x r)(hK:K<=80000):
  aJ (oL r.tu up) (0,1,0)=some (CL .i64 x.skip (fQ .i64 (wr .i64 (pS .i64 1 x.c.T.ao-1)) up)):=by
 obtain⟨hsw,h8⟩:=h.sw;have z4:=hz.s
 have H:Wq (aJ (oL r.tu up) (0,1,0)) fun q=>q=(ui (fun s=>bt x.skip s||!bt up s) n:Int):=by
  refine Wq.loop (fun a=>n-a.2.2.toNat) (fun a=>∃i:Nat,a=((ui (fun s=>bt x.skip s||!bt up s) i:Int),((2^i:Nat):Int),(i:Int))/\i<=n) ⟨0,rfl,by omega⟩ ?_;rintro _ ⟨i,rfl,hi⟩;dsimp only[oL];simp only[Rx.pr,h.c];refine Wq.cond (fun hb=>?_) fun hb=>Wq.some ?_
  .have hlt:(i:Int)<x.c.T.ao:=of_decide_eq_true hb;have hp8:2^i<=2^8:=dq (by decide) (by omega);have hsl:=Fz (fun s=>bt x.skip s||!bt up s) i;rw[IY (by omega),zR (by omega)];simp only[aa,h.sk.has (show i<8 by omega)];have hc:(bif bt x.skip i then some true else some (!bt up i):Option Bool)=some (bt x.skip i||!bt up i):=by cases bt x.skip i<;>rfl
   rw[hc];simp only[aa];refine Wq.bind (P:=fun t=>t=(ui (fun s=>bt x.skip s||!bt up s) (i+1):Int)) ?_ ?_
   .refine Wq.cond (fun e=>Wq.some ?_) fun e=>Wq.some ?_
    .grind [ui,bt,up,fE]
    grind [ui,bt,up]
   .rintro _ rfl;refine Wq.some ⟨⟨i+1,?_,by omega⟩,?_⟩
    .grind [fE,Nat.pow_succ]
    .show _-(wr .i64 ((i:Int)+1)).toNat<_-((i:Int)).toNat;rw[fE (by omega) (by omega)];omega
  grind
 obtain⟨q,hq,rfl⟩:=H;rw[hq];refine congrArg some (Eq.symm ?_);rw[hsw];refine(h.FY.bH (by omega) (by omega)).sum _ h8 fun k hk=>?_
 have hb:bt (wr .i64 (pS .i64 1 (n:Int)-1)) k=decide (k<n):=by
  rw[afp h8];have h2:2^n<=2^8:=dq (by decide) h8;have h1:1<=2^n:=Nat.one_le_two_pow;rw[fE (by omega) (by omega)];have:∀(n:Fin 9)(k:Fin 8),bt (((2^n.val:Nat):Int)-1) k.val=decide (k.val<n.val):=by decide+kernel
  exact this ⟨n,by omega⟩ ⟨k,hk⟩
 rw[Qo,Gx (by omega),hb];cases hsk:bt x.skip k with|false=>simp|true=>have:=(h.GF _ ((h.skip k hk).1 hsk)).2;simp_all
theorem abQ(h:Bs c R n K x r)(hph:x.cI=5)(ho:x.bK.hZ=true)(hw:r.fN.l=[])(hK:K<=60000):
  C2 ((fB x.tu 6 x.bK.U (CL .i64 x.skip (fQ .i64 (wr .i64 (pS .i64 1 x.c.T.ao-1)) up)) 0).bind fun q5=>
   (j5 q5 now 10 0 (CL .i64 x.skip (fQ .i64 (wr .i64 (pS .i64 1 x.c.T.ao-1)) up)) 0).bind fun q6=>
   (uY q6).bind fun q7=>some q7) (sQ r.tu now up) (Bd c R n (K+80)):=by
 obtain⟨hsw,h8⟩:=h.rl.sw;have z1:=h.z.l;have z2:=h.z.e;have z3:=h.z.o;have z4:=h.z.s;have hm:=h.rl.FY.bH (up:=up) (s:=x.c.T.ao) (by omega) (by omega);unfold sQ;rw[akn h.rl h.z (by omega)];simp only[aa];generalize CL .i64 x.skip _=a at hm|-;obtain⟨w1,w2⟩:=Ca h.z (by omega) h.rl.l h.rl.bK (Zm ho (h.i.p5 hph).1 hm);have w2':=h.rl.wr w2;rw[w1,w2'];simp only[aa];refine W2.bind (M3 (x:={x with l:=.mk _,bK:=(x.bK.U,x.bK.lh,false,0,0,0,false,false,a)}) (r:={r with L:=.mk _,At:=(x.bK.U,x.bK.lh,false,0,0,0,false,false,a)}) (n:=n) ⟨h.rl.c,h.rl.sw,h.rl.rt,rfl,rfl,h.rl.ph,h.rl.pl,h.rl.nv,h.rl.eG,h.rl.gE,h.rl.bH,h.rl.FY,h.rl.skip,h.rl.GF,h.rl.zj,h.rl.vF,h.rl.ask,h.rl.out,h.rl.ev,h.rl.wn,h.rl.fo⟩ (k:=K+1) ⟨by simp;omega,by show x.gq.l.length<=_;omega,by show x.out.l.length<=_;omega,by show r.jB.l.length<=_;omega⟩ (by omega)) ?_;rintro _ _ ⟨_,_,rfl,rfl,ev,ev',rfl,rfl,g1,g2⟩;have g2:ev.l.length=x.gq.l.length+1:=g2
 exact C2.some (x:={x with l:=.mk _,bK:=(x.bK.U,x.bK.lh,false,0,0,0,false,false,a),gq:=ev,cI:=0,bH:=-1,tI:=-1}) (r:={r with L:=.mk _,At:=(x.bK.U,x.bK.lh,false,0,0,0,false,false,a),l5:=ev',gR:=0,nw:=false,zD:=false})
  ⟨⟨⟨h.rl.c,h.rl.sw,h.rl.rt,rfl,rfl,rfl,h.rl.pl,h.rl.nv,h.rl.eG,h.rl.gE,.inl ⟨rfl,rfl⟩,h.rl.FY,h.rl.skip,h.rl.GF,.inl ⟨rfl,rfl⟩,h.rl.vF,h.rl.ask,h.rl.out,g1,h.rl.wn,h.rl.fo⟩,h.hc,h.hR,h.j.W9 hm,F9 rfl,h.e,by simp;omega,by show ev.l.length<=_;omega,by show x.out.l.length<=_;omega,by show r.jB.l.length<=_;omega⟩,
   fun e=>absurd e (by show¬(0:Int)=5;decide),fun _=>hw⟩
theorem afE(hE:kB c R)(h:Bd c R n K x r)(hph:x.cI=5)(hK:K<=50000)(h0:0<=now/\now<=1099511627776):
  C2 (u9 x.tu now up) (uE r.tu now up) (Bd c R n (K+160)):=by
 obtain⟨ho,hm⟩:=h.i.act (by omega) (by omega);have hp:=h.rl.pk h.hc (hm.pk hE h.j ho);have hrl:=hp.rl;have hli:=hp.yZ;obtain⟨hsw,h8⟩:=h.rl.sw;obtain⟨a1,a2⟩:=h.i.p5 hph;have h5:=h.r5 hph;have z1:=h.z.l;have z2:=h.z.e;have z3:=h.z.o;have z4:=h.z.s;have hk:=h.rl.eG.tH (up:=up);have hlen:=h.rl.eG.len;have hlk:=hk.len;unfold u9 uE;simp only[Cx.pr,Cx.st];rw[show Fa (β:=Int×Int×Int×Int×Int×Int×Int×Sl aV) x.eG=true from h.rl.eG.ok.aq4,cond_true];refine W2.aeJ (afx h.rl h.z (by omega)) ?_;rintro _ ⟨left,sk',rfl,e1,e2,e3⟩;simp only[Rx.pr,Rx.st];rw[<-e1]at hk hlk;generalize Dg (β:=Int×Int×Int×Int×Int×Int×Int×Sl aV) up x.eG=w at*;generalize tU (β:=Int×Int×Int×Int×Int×Int×Int×Sl aV) up x.eG x.skip=sk at*;have hsub:∀m∈left.l,m∈r.fN.l:=fun m hm=>by simp_all
 have hB:Bs c R n (K+64) {x with eG:=w,skip:=sk} {r with jB:=sk',fN:=left}:=
  ⟨⟨h.rl.c,h.rl.sw,h.rl.rt,h.rl.l,h.rl.bK,h.rl.ph,h.rl.pl,h.rl.nv,hk,fun hn=>h.rl.gE fun e=>hn (by show left.l=[];rw[e1,e];rfl),h.rl.bH,e2.FY,e2.skip,e2.GF,h.rl.zj,h.rl.vF,h.rl.ask,h.rl.out,h.rl.ev,fun m hm=>h.rl.wn m (hsub m hm),h.rl.fo⟩,
   h.hc,h.hR,h.j,h.i,h.e,by show x.l.l.length<=_;omega,by show x.gq.l.length<=_;omega,by show x.out.l.length<=_;omega,by show sk'.l.length<=_;omega⟩
 have hwl:x.eG.es.length=r.fN.l.length:=hlen;by_cases hl:left.l=[]
 .have hl0:left.l.length=0:=by rw[hl];rfl
  have c1:((w.es.length:Int)==0)=true:=bq (by omega);have c2:((left.l.length:Int)==0)=true:=bq (by omega);by_cases hn:r.fN.l=[]
  .--it rests
   have hrest:x.bH≠-1:=fun e=>h5.1 e hn
   have hR:r.nw=true/\r.IJ=x.bH:=by
    rcases h.rl.bH with⟨_,e⟩|⟨a,b,_⟩
    .exact absurd e hrest
    .exact ⟨a,b⟩
   have c3:decide ((x.eG.es.length:Int)>0)=false:=decide_eq_false (by rw[hwl,hn];decide);have d0:(decide ((x.eG.es.length:Int)>0)&&((w.es.length:Int)==0))=false:=by rw[c3];rfl
   have d1:(((left.l.length:Int)==0)&&(!r.nw))=false:=by rw[hR.1,bX,Bool.and_false]
   have d2:((!r.nw)||decide (now<r.IJ))=(x.bH==-1||decide (now<x.bH)):=by rw[hR.1,hR.2,bn hrest];rfl
   have d3:decide (r.I8>0)=decide (x.nv>0):=by rw[h.rl.nv]
   rw[d0,d1,d2,d3];simp only[cond_false];refine W2.cond rfl (fun _=>?_) fun _=>W2.cond rfl (fun hb=>?_) fun _=>?_
   .refine W2.xf (W2.yh ((M2 hB.rl hB.z (by omega) h0.1).mono ?_));rintro _ _ ⟨y,s,rfl,rfl,g1,g2,g3⟩;refine⟨y,s,rfl,rfl,hB.tH g1 (g2.mono (by omega)) g3,fun _=>?_,fun e=>?_⟩
    .rw [g3.bH,g3.eG];simp_all
    .rw [g3.eG];exact hl
   .have hgt:=of_decide_eq_true hb;have e4:wr .i64 (x.nv-1)=((x.nv.toNat-1:Nat):Int):=by rw[fE (by omega) (by omega)];omega
    have e5:wr .i64 (r.I8-1)=((x.nv.toNat-1:Nat):Int):=by rw[h.rl.nv];exact e4
    rw[e4,e5];refine W2.xf (W2.yh ((O9 hB.rl hp hB.z (by omega) h0 hph (k:=x.nv.toNat-1) (by show _<x.eM.aF.l.length;omega)).mono ?_));rintro _ _ ⟨_,s',rfl,rfl,⟨rs,sk2,w2,o,rfl⟩,g1,g2,g3⟩;refine⟨_,_,rfl,rfl,⟨⟨g1,h.hc,h.hR,h.j,?_,h.e,g3.mono (by omega)⟩,fun _=>g2,fun e=>absurd e (by simp_all)⟩⟩
    grind [TK]
   .rw [GO (by omega)];simp only[aa];refine W2.yh ((abQ hB hph ho hl (by omega)).mono ?_);rintro _ _ ⟨y,s,rfl,rfl,g⟩;exact⟨y,s,rfl,rfl,g.mono (by omega)⟩
  .--nothing is left
   have hrest:x.bH=-1:=h5.2 hn
   have hR:r.nw=false:=by
    rcases h.rl.bH with⟨a,_⟩|⟨_,b,d⟩
    .exact a
    omega
   have c3:decide ((x.eG.es.length:Int)>0)=true:=decide_eq_true (by have:=ji.2 hn;omega);have d0:(decide ((x.eG.es.length:Int)>0)&&((w.es.length:Int)==0))=true:=by rw[c3,c1];rfl
   have d1:(((left.l.length:Int)==0)&&(!r.nw))=true:=by rw[c2,hR];rfl
   rw[d0,d1];simp only[cond_true];have hG:=Yp hE hB hl (.inr (.inr (.inr hph))) (by omega) h0 (up:=up);unfold qo at hG;simp only[Rx.pr]at hG;have hrp:r.gR=5:=h.rl.ph.trans hph;simp only[bn (show r.gR≠1 by omega),bn (show r.gR≠2 by omega),bn (show r.gR≠4 by omega),oo,cond_false]at hG;refine W2.xf (hG.mono ?_);rintro _ _ ⟨y,s,rfl,rfl,g⟩;exact⟨y,s,rfl,rfl,g.mono (by omega)⟩
 .have hn:r.fN.l≠[]:=fun e=>hl (by rw[e1,e];rfl);have hp0:=ji.2 hl;have c1:((w.es.length:Int)==0)=false:=bn (by omega);have c2:((left.l.length:Int)==0)=false:=bn (by omega);have hrest:x.bH=-1:=h5.2 hn
  have hR:r.nw=false:=by
   rcases h.rl.bH with⟨a,_⟩|⟨_,b,d⟩
   .exact a
   omega
  have d0:(decide ((x.eG.es.length:Int)>0)&&((w.es.length:Int)==0))=false:=by rw[c1,Bool.and_false]
  have d1:(((left.l.length:Int)==0)&&(!r.nw))=false:=by rw[c2];rfl
  have d2:((!r.nw)||decide (now<r.IJ))=true:=by rw[hR];rfl
  have d3:(x.bH==-1||decide (now<x.bH))=true:=by rw[bq hrest];rfl
  rw[d0,d1,d2,d3];simp only[cond_false,cond_true];refine W2.xf (W2.yh ((M2 hB.rl hB.z (by omega) h0.1).mono ?_));rintro _ _ ⟨y,s,rfl,rfl,g1,g2,g3⟩;refine⟨y,s,rfl,rfl,hB.tH g1 (g2.mono (by omega)) g3,fun _=>?_,fun e=>?_⟩
  .rw [g3.bH,g3.eG];exact⟨fun _=>hl,fun _=>hrest⟩
  .rw [g3.ph]at e
   grind
theorem abT(hE:kB c R)(h:Bd c R n K x r)(hK:K<=40000)(h0:0<=now/\now<=1099511627776):
  C2 (lB x.tu now up) (sT r.tu now up) (Bd c R n (K+200)):=by
 unfold lB sT fC;simp only[Cx.pr,Rx.pr];refine W2.cond (by rw[h.rl.ph]) (fun _=>C2.some (h.mono (by omega))) fun hb=>?_;have h6:x.cI≠6:=by simpa using hb
 refine W2.bind (abO h.rl h.z (by omega) h0.1) ?_;rintro _ _ ⟨y,s,rfl,rfl,g1,g2,g3⟩;have h':=h.tH g1 g2 g3;simp only[Cx.pr,Rx.pr];refine W2.cond (by rw[g1.ph]) (fun hb=>?_) fun hb0=>W2.cond (by rw[g1.ph]) (fun hb=>?_) fun hb5=>?_
 .refine W2.xf (W2.yh ((afD h'.rl h'.z (by omega) h0.1).mono ?_));rintro _ _ ⟨y,s,rfl,rfl,g1,g2,g3⟩;exact⟨y,s,rfl,rfl,h'.tH g1 (g2.mono (by omega)) g3⟩
 .refine W2.xf (W2.yh ((afE hE h' (eq_of_beq hb) (by omega) h0).mono ?_));rintro _ _ ⟨y,s,rfl,rfl,g⟩;exact⟨y,s,rfl,rfl,g.mono (by omega)⟩
 .refine W2.xf (W2.yh ((abN hE h' ⟨by simpa using hb0,by simpa using hb5,by rw[g3.ph];exact h6⟩ (by omega) h0).mono ?_));rintro _ _ ⟨y,s,rfl,rfl,g⟩;exact⟨y,s,rfl,rfl,g.mono (by omega)⟩
end
end Go.Proofs.YtoekkpmeeclpeaaGreat.S
