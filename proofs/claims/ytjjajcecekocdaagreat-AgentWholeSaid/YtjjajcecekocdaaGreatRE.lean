/- An agent that hears, sends, plays. Conditions: as stated. -/
import Derived.Test.YtjjajcecekocdaaGreatRD
open Bool renaming not_true->dC
open Option renaming bind_some->ah,getD_some->bF
open Go.Ev Go
open Go.Ev.HeapM (Hp)
noncomputable section
namespace Go.Proofs.YtjjajcecekocdaaGreat.A
theorem Nf{α:Type}(s:Sl α)(x:List α):(sP s x (s.l++x)).l=s.l++x:=by cases x with|nil=>cases s<;>simp[sP,Sl.l]|cons y r=>rfl
abbrev Ag.Qp(a:Ag)(rd:Int)(w:Sl Int):Ag:={a.AG rd w with fz:=gW a.fz rd a.u}
theorem AI.Qp{a:Ag}{rd:Int}{w:Sl Int}(h0:MI a.bm)(h:AI (a.AG rd w))(hr:0<=rd/\rd<8):AI (a.Qp rd w)where
 rm:=h.rm
 T:=h.T
 S:=h.S
 A:=h.A
 D:=BI h.D hr.1 hr.2 _
 sa:=h.sa
 tm:=h.tm
 H:=h.H
 W:=h.W
 sm:=h.sm
 dr:=h.dr
 dd:=h.dd
 db:=h.db
 da:=fun k x hk=>by
  have hk:bV (gW a.fz rd a.u) k=some x:=hk;rw[lA]at hk;split at hk
  .rename_i e;show bV (jF a.bm rd) k=none;rw[kx h0,if_pos e]
  .exact h.da k x hk
 lf:=h.lf
 uu:=h.uu
inductive E4(a:Ag)(rd:Int):List aZ->Int->Ag->Prop
 |all {L:List aZ} {a':Ag} (h0:rd<0) (hd:a'.done.l=[]) (ht:a'.bU=Is a) (hs:a'.bm=Mp.none) (ha:a'.cq=Mp.none) (hk:∀k,0<=k->k<8->(bV a'.fz k).isSome)
   (e1:a'.sw=a.sw) (e2:a'.aD=a.aD) (e3:a'.up=a.up) (e4:a'.cz=a.cz) (e5:a'.u=a.u) (hL:L=a.done.l.reverse.map fun d=>((2,d.1):aZ)):E4 a rd L 0 a'
 |no {x:aB} {d:List aB} (h0:0<=rd) (hd:a.done.l=d++[x]) (hD:Dn a rd) (hx:x.1≠rd):E4 a rd [] 16 a
 |RM {x:aB} {d:List aB} {w:Sl Int} (h0:0<=rd) (hd:a.done.l=d++[x]) (hx:x.1=rd) (hl:(a.Nv x.2 d).done.l=d):E4 a rd [(2,rd)] 0 ((a.Nv x.2 d).Qp rd w)
 |oA {w:Sl Int} (h0:0<=rd) (hD:¬Dn a rd):E4 a rd [] 0 (a.Qp rd w)
theorem EH{a:Ag}(h:AI a)(rd:Int):∃w,fV a.sw a.aD a.up a.cz a.u a.bU a.bm a.cq a.fT a.done a.fz rd=some (a.AG rd w).t/\AI (a.AG rd w):=by cases hf:bV a.cq rd with|none=>exact⟨_,JG h hf⟩|some v=>exact EG h hf
theorem NM{a:Ag}(h:AI a){rd:Int}(hr:-1<=rd/\rd<=7):∃(s:Sl aZ)(e:Int)(a':Ag),
  l_ a.sw a.aD a.up a.cz a.u a.bU a.bm a.cq a.fT a.done a.fz rd=some (s,e,a'.t)/\AI a'/\E4 a rd s.l e a'/\s.l.length<=8:=by
 have h8:=h.zO;unfold l_;by_cases h0:rd<0
 .rw [decide_eq_true h0,cond_true];obtain⟨s',a1,i1,i2,i3,i4,i5,i6,i7,i8,i9,i10,i11,i12,i13,i14,_⟩:=Fo _ a Sl.nil rfl h (by show(0:Nat)+_<=_;omega);have i1:bw iW (a.sw,a.aD,a.up,a.cz,a.u,a.bU,Sl.nil,a.bm,a.cq,a.done,a.fz,a.fT)=some (a1.sw,a1.aD,a1.up,a1.cz,a1.u,a1.bU,s',a1.bm,a1.cq,a1.done,a1.fz,a1.fT):=i1;rw[i1];simp only[ah,fA,nL];obtain⟨d,j1,j2,j3,j4⟩:=Fm a1.Al i2.D;have j1:bw gT (0,a1.sw,a1.aD,a1.up,a1.cz,a1.u,a1.bU,Mp.none,Mp.none,a1.done,a1.fz,Sl.nil)=_:=j1;rw[j1];have hI:=i2.Al;have hL:s'.l=a.done.l.reverse.map fun d=>((2,d.1):aZ):=by rw[i5];rfl
  refine⟨s',0,{a1.Al with fz:=d},rfl,?_,.all h0 i3 i4 rfl rfl j3 i6 i7 i8 i9 i10 hL,by rw[hL];simpa using h8⟩;exact{rm:=hI.rm,T:=hI.T,S:=hI.S,A:=hI.A,D:=j2,sa:=hI.sa,tm:=hI.tm,H:=hI.H,W:=hI.W,sm:=hI.sm,dr:=hI.dr,dd:=hI.dd,db:=hI.db,da:=fun k x _=>rfl,lf:=hI.lf,uu:=hI.uu}
 .rw [decide_eq_false h0,cond_false,LO h];simp only[ah];by_cases hD:Dn a rd
  .rw [iC hD,cond_true]
   obtain⟨d,x,hd⟩:∃d x,a.done.l=d++[x]:=by
    rcases List.eq_nil_or_concat a.done.l with e|⟨d,x,e⟩
    .obtain ⟨y,hy,_⟩:=hD;rw[e]at hy;simp at hy
    .exact ⟨d,x,by rw[e,List.concat_eq_append]⟩
   have hlen:a.done.l.length=d.length+1:=by rw[hd];simp
   have hw:wr .i64 ((a.done.l.length:Int)-1)=(d.length:Int):=by rw[xQ (by omega) (by omega)];omega
   have hg:gt a.done.l d.length=x:=by rw[gX (by omega)];simp[hd]
   rw[hw,cB (show d.length<a.done.l.length by omega)];simp only[ah];rw[hg];by_cases hx:x.1=rd
   .rw [show(aB.rd x !=rd)=false by simpa using hx,cond_false];obtain⟨b1,b2,b3⟩:=H8 h hd;rw[b1];simp only[ah];rw[ZJ (by simp)];simp only[ah];obtain⟨w,d1,d2⟩:=EH b2 rd;have d1:fV a.sw a.aD a.up a.cz a.u x.2 a.bm a.cq a.fT (a.done.to d) a.fz rd=some ((a.Nv x.2 d).AG rd w).t:=d1;rw[d1];exact⟨.mk ([]++[(2,x.1)]),0,(a.Nv x.2 d).Qp rd w,rfl,AI.Qp b2.S d2 (by omega),by show E4 a rd [(2,x.1)] 0 _;rw[hx];exact .RM (by omega) hd hx b3,by simp⟩
   .rw [show(aB.rd x !=rd)=true by simpa using hx,cond_true];exact⟨Sl.nil,16,a,rfl,h,.no (by omega) hd hD hx,by decide⟩
  .rw [eI hD,cond_false];simp only[ah];obtain⟨w,d1,d2⟩:=EH h rd;rw[d1];exact⟨Sl.nil,0,a.Qp rd w,rfl,AI.Qp h.S d2 (by omega),.oA (by omega) hD,by decide⟩
theorem MU{a:Ag}(h:AI a)(bits:Int):∃e,jN a.sw a.aD a.up a.cz a.u a.bU a.bm a.cq a.fT a.done a.fz bits=some (e,a.t):=by
 obtain⟨r,h1,h2⟩:=tg (f:=jM bits) (fun i(_:Unit)=>((i:Int),a.sw,a.aD,a.up,a.cz,a.u,a.bU,a.bm,a.cq,a.done,a.fz,a.fT)) 8 (fun _ _=>True)
  (fun r=>r=.inr (a.sw,a.aD,a.up,a.cz,a.u,a.bU,a.bm,a.cq,a.done,a.fz,a.fT)\/∃e,r=.inl (e,a.sw,a.aD,a.up,a.cz,a.u,a.bU,a.bm,a.cq,a.done,a.fz,a.fT))
  (fun i s hi _=>by
   have hs:Ix .i64 bits (i:Int)=some (M9 .i64 bits (i:Int)):=by unfold Ix;rw[if_neg (by omega)]
   simp only[jM];rw[decide_eq_true (by omega),cond_true,hs];simp only[ah];cases(oe .i64 (M9 .i64 bits (i:Int)) 1==1)with
   |false=>simp only[cond_false,ah];exact .inl ⟨(),by rw[u9 (by omega)],trivial⟩
   |true=>
    simp only[cond_true];rw[LO h];simp only[ah];cases tt (Dn a i)with
    |true=>exact .inl ⟨(),by simp only[dC,cond_false];rw[u9 (by omega)],trivial⟩
    |false=>exact .inr ⟨_,rfl,.inr ⟨7,rfl⟩⟩)
  (fun s _=>⟨_,rfl,.inl rfl⟩) 0 () (by omega) trivial
 have h1:bw (jM bits) ((0:Int),a.sw,a.aD,a.up,a.cz,a.u,a.bU,a.bm,a.cq,a.done,a.fz,a.fT)=some r:=h1;unfold jN;rw[h1];rcases h2 with rfl|⟨e,rfl⟩
 .exact ⟨0,rfl⟩
 .exact ⟨e,rfl⟩
abbrev Ag.OH(a:Ag)(u:Int):Ag:={a.Al with u:=u,done:=.nil,fz:=Mp.none}
theorem AI.OH{a:Ag}(h:AI a){u:Int}(hu:0<=u/\u<=65535):AI (a.OH u)where
 rm:=h.rm
 T:=h.T
 S:=.none
 A:=.none
 D:=.none
 sa:=fun k v hk=>by cases hk
 tm:=fun k v hk=>by cases hk
 H:=fun j _ hj=>by simp[Sl.l]at hj
 W:=List.Perm.refl _
 sm:=fun k l hk=>by cases hk
 dr:=fun d hd=>by simp[Sl.l]at hd
 dd:=List.nodup_nil
 db:=fun d hd=>by simp[Sl.l]at hd
 da:=fun k x hk=>rfl
 lf:=h.lf
 uu:=hu
def Ag.lh(a:Ag)(u:Int):Ag:=if a.u<u then a.OH u else a
theorem AI.lh{a:Ag}(h:AI a){u:Int}(hu:0<=u/\u<=65535):AI (a.lh u):=by
 unfold Ag.lh;split
 .exact h.OH hu
 .exact h
inductive QI(a:Ag)(now:Int)(m:ad):List aZ->Int->Ag->Prop
 |old (h:ad.U m<a.u):QI a now m [] 16 a
 |Qa (h:a.u<=ad.U m) (hk:ad.bh m=3):QI a now m [] (gE (a.lh (ad.U m)) m).1 (gE (a.lh (ad.U m)) m).2
 |Zm (h:a.u<=ad.U m) (hk:ad.bh m=4):QI a now m [] (x5 (a.lh (ad.U m)) now m).1 (x5 (a.lh (ad.U m)) now m).2
 |To {L:List aZ} {e:Int} {a':Ag} (h:a.u<=ad.U m) (hk:ad.bh m=5) (hu:E4 (a.lh (ad.U m)) (ad.Rd m) L e a'):QI a now m L e a'
 |MV {e:Int} (h:a.u<=ad.U m) (hk:ad.bh m=6) (he:jN (a.lh (ad.U m)).sw (a.lh (ad.U m)).aD (a.lh (ad.U m)).up (a.lh (ad.U m)).cz (a.lh (ad.U m)).u (a.lh (ad.U m)).bU (a.lh (ad.U m)).bm (a.lh (ad.U m)).cq (a.lh (ad.U m)).fT (a.lh (ad.U m)).done (a.lh (ad.U m)).fz (ad.Code m)=some (e,(a.lh (ad.U m)).t)):QI a now m [] e (a.lh (ad.U m))
theorem Pm{a:Ag}(h:AI a){now:Int}{m:ad}(hm:RP m)(hk:3<=ad.bh m/\ad.bh m<=6)(hf:∀x∈(ad.gi m).l,rX x):
  ∃(s:Sl aZ)(e:Int)(a':Ag),ma a.sw a.aD a.up a.cz a.u a.bU a.bm a.cq a.fT a.done a.fz now m=some (s,e,a'.t)/\AI a'/\QI a now m s.l e a'/\s.l.length<=8:=by
 have hu:=hm.u hk.1;unfold ma;by_cases ho:ad.U m<a.u
 .rw [decide_eq_true ho,cond_true];exact⟨Sl.nil,16,a,rfl,h,.old ho,by decide⟩
 rw[decide_eq_false ho,cond_false]
 have hup:(bif decide (ad.U m>a.u)then((fA a.sw a.aD a.up a.cz (ad.U m) a.bU a.bm a.cq a.fT Sl.nil (Mp.none:Mp Int Int)).bind fun(q1,q2,q3,q4,q5,q6,q7,q8,s9,s10,q11)=>
   some (q1,q2,q3,q4,q5,q6,q7,q8,s10,q11,s9))else(some (a.sw,a.aD,a.up,a.cz,a.u,a.bU,a.bm,a.cq,a.done,a.fz,a.fT)):Option (Int×Int×Bool×Int×Int×Sl ae×Mp Int (Sl ai)×Mp Int Int×Sl aB×Mp Int Int×Sl Int))=
   some ((a.lh (ad.U m)).sw,(a.lh (ad.U m)).aD,(a.lh (ad.U m)).up,(a.lh (ad.U m)).cz,(a.lh (ad.U m)).u,(a.lh (ad.U m)).bU,(a.lh (ad.U m)).bm,(a.lh (ad.U m)).cq,(a.lh (ad.U m)).done,(a.lh (ad.U m)).fz,(a.lh (ad.U m)).fT):=by
  unfold Ag.lh;by_cases hn:a.u<ad.U m
  .rw [decide_eq_true (show ad.U m>a.u from hn),if_pos hn];rfl
  .rw [decide_eq_false (show¬ad.U m>a.u from hn),if_neg hn];rfl
 rw[hup];simp only[ah];have hI:=h.lh (u:=ad.U m) (by omega);by_cases k3:ad.bh m=3
 .rw [show(ad.bh m==3)=true by simpa using k3,cond_true,KA hI hm.n hf];exact⟨Sl.nil,_,_,rfl,Df hI hm.n hf (hm.rd (.inl k3)),.Qa (by omega) k3,by decide⟩
 rw[show(ad.bh m==3)=false by simpa using k3,cond_false];by_cases k4:ad.bh m=4
 .obtain ⟨e1,e2⟩:=SV hI (now:=now) hm (hm.rd (.inr k4));rw[show(ad.bh m==4)=true by simpa using k4,cond_true,e1];exact⟨Sl.nil,_,_,rfl,e2,.Zm (by omega) k4,by decide⟩
 rw[show(ad.bh m==4)=false by simpa using k4,cond_false];by_cases k5:ad.bh m=5
 .obtain ⟨s,e,a',e1,e2,e3,e4⟩:=NM hI (hm.Zx k5);rw[show(ad.bh m==5)=true by simpa using k5,cond_true,e1];exact⟨s,e,a',rfl,e2,.To (by omega) k5 e3,e4⟩
 rw[show(ad.bh m==5)=false by simpa using k5,cond_false];obtain⟨e,he⟩:=MU hI (ad.Code m);rw[he];exact⟨Sl.nil,e,_,rfl,hI,.MV (by omega) (by omega) he,by decide⟩
def mo(a:Ag)(m:ad):Bool:=a.up&&!((((!(jD m).getD false)||((ad.Sw m) !=a.sw))||((ad.bh m)==2))||(decide ((ad.bh m)>=7)))
abbrev tP:ad:=(⟨0,0,0,0,0,0,0,0,0,Sl.nil⟩:ad)
def Ad(a':Ag)(m:ad)(e:Int):ad:=if e=0 then(⟨7,a'.sw,ad.U m,ad.Rd m,0,0,a'.cz,ad.bh m,0,Sl.nil⟩:ad)else(⟨8,a'.sw,ad.U m,ad.Rd m,0,0,a'.cz,ad.bh m,e,Sl.nil⟩:ad)
inductive VX(a:Ag)(now:Int)(m:ad):ad->Bool->List aZ->Ag->Prop
 |off (h:mo a m=false):VX a now m tP false [] a
 |QX {L:List aZ} {a':Ag} (h:mo a m=true) (hr:RP m) (hk:ad.bh m=1) (hd:wy now a L a'):VX a now m (⟨2,a'.sw,0,0,ad.T1 m,now,a'.cz,0,0,Sl.nil⟩:ad) true L a'
 |JJ {L1 L2:List aZ} {a1 a':Ag} {e:Int} (h:mo a m=true) (hr:RP m) (hk:3<=ad.bh m/\ad.bh m<=6) (hd:wy now a L1 a1) (h1:AI a1) (hm:QI a1 now m L2 e a'):
   VX a now m (Ad a' m e) true (L1++L2) a'
theorem O0{a:Ag}(h:AI a)(now:Int){m:ad}(hn:(ad.gi m).l.length<9223372036854775808)(hf:∀x∈(ad.gi m).l,rX x):
  ∃(x:ad)(ok:Bool)(s:Sl aZ)(a':Ag),me a.sw a.aD a.up a.cz a.u a.bU a.bm a.cq a.fT a.done a.fz now m=some (x,ok,s,a'.t)/\AI a'/\VX a now m x ok s.l a'/\s.l.length<=16:=by
 obtain⟨b,hb1,hb2⟩:=KR m hn hf
 have hhead:((fL a.sw a.aD a.up a.cz a.u a.bU a.bm a.cq a.fT a.done a.fz).bind fun(r1,q2,q3,q4,q5,q6,q7,q8,q9,s10,s11,q12)=>
   bif(!r1)then(some (true,q2,q3,q4,q5,q6,q7,q8,q9,s11,q12,s10))else
   ((jD m).bind fun r13=>
   some (((((!r13)||((ad.Sw m) !=q2))||((ad.bh m)==2))||(decide ((ad.bh m)>=7))),q2,q3,q4,q5,q6,q7,q8,q9,s11,q12,s10)):Option (Bool×Int×Int×Bool×Int×Int×Sl ae×Mp Int (Sl ai)×Mp Int Int×Sl aB×Mp Int Int×Sl Int))=
   some (!mo a m,a.sw,a.aD,a.up,a.cz,a.u,a.bU,a.bm,a.cq,a.done,a.fz,a.fT):=by
  unfold fL mo;simp only[ah];rw[hb1];simp only[ah,bF];cases a.up<;>simp
 unfold me;rw[hhead];simp only[ah];cases hh:mo a m with
 |false=>exact⟨tP,false,Sl.nil,a,rfl,h,.off hh,by decide⟩
 |true=>
  have hh2:=hh;simp only[dC,cond_false];unfold mo at hh2;rw[hb1]at hh2;simp only[bF,Bool.and_eq_true,Bool.not_eq_true',Bool.or_eq_false_iff,Bool.not_eq_false',decide_eq_false_iff_not,beq_eq_false_iff_ne]at hh2;obtain⟨hup,⟨⟨hb,_⟩,hk2⟩,hk7⟩:=hh2;have hr:=hb2 hb;obtain⟨s1,a1,d1,d2,d3,d4,d5⟩:=Mw h hup now;have d1:fg a.sw a.aD a.up a.cz a.u a.bU a.bm a.cq a.fT a.done a.fz now=_:=d1;rw[d1];simp only[ah];by_cases k1:ad.bh m=1
  .rw [show(ad.bh m==1)=true by simpa using k1,cond_true];exact⟨_,true,s1,a1,rfl,d3,.QX hh hr k1 d2,by omega⟩
  .rw [show(ad.bh m==1)=false by simpa using k1,cond_false];have hk:=hr.k;obtain⟨s2,e,a2,e1,e2,e3,e4⟩:=Pm d3 (now:=now) hr (by omega) hf;rw[e1];simp only[ah];rw[ZJ (by simp;omega)];refine⟨Ad a2 m e,true,sP s1 s2.l (s1.l++s2.l),a2,?_,e2,?_,by rw[Nf];simp;omega⟩
   .unfold Ad;by_cases he:e=0
    .subst he;rfl
    .rw [show(e !=0)=true by simpa using he,if_neg he];rfl
   .rw [Nf];exact .JJ hh hr (by omega) d2 d3 e3
end Go.Proofs.YtjjajcecekocdaaGreat.A
