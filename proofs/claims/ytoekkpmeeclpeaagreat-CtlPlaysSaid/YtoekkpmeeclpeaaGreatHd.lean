/- Halving, doubling: single bits; the journal's Release; matches, acts, rules that may be, side by side. Conditions: as stated. -/
import Derived.Test.YtoekkpmeeclpeaaGreatGY
open BitVec renaming ofInt->aW
open Bool renaming and_eq_false_iff->jG,and_eq_true->ax,eq_iff_iff->cF,not_true->bX,or_eq_true->cE
open Classical renaming choose->jN,choose_spec->fZ
open Int renaming eq_ofNat_of_zero_le->dR
open List renaming range->aG
open Nat renaming lt_of_lt_of_le->bY,pow_le_pow_right->dq,pow_succ->mR,testBit_lt_two_pow->jd
open Option renaming bind_some->aa
open Option.some renaming injEq->eZ
open Go.Ev Go
namespace Go.Proofs.YtoekkpmeeclpeaaGreat.S
theorem V4{n:Int}(h:0<=n/\n<=9223372036854775807){i:Nat}(hi:i<1000):aJ (x_ (i:Int)) (n,0)=some ((n.toNat/2^i:Nat):Int):=by
 have H:Wq (aJ (x_ (i:Int)) (n,0)) fun q=>q=((n.toNat/2^i:Nat):Int):=by
  refine Wq.loop (fun a=>i-a.2.toNat) (fun a=>∃j:Nat,a=(((n.toNat/2^j:Nat):Int),(j:Int))/\j<=i) ⟨0,by simp;omega,by omega⟩ ?_;rintro _ ⟨j,rfl,hj⟩;dsimp only[x_];refine Wq.cond (fun hb=>Wq.some ⟨⟨j+1,?_,by have:=of_decide_eq_true hb;omega⟩,?_⟩) fun hb=>Wq.some ?_
  .have h1:n.toNat/2^j<=n.toNat:=Nat.div_le_self _ _;rw[mR,<-Nat.div_div_eq_div_mul];generalize n.toNat/2^j=q at*;rw[Int.tdiv_eq_ediv_of_nonneg (by omega),fE (n:=(q:Int)/2) (by omega) (by omega),fE (by omega) (by omega)];simp
  .have:=of_decide_eq_true hb;show i-(wr .i64 ((j:Int)+1)).toNat<i-((j:Int)).toNat;rw[fE (by omega) (by omega)];omega
  .have:j=i:=by have:=of_decide_eq_false hb;omega
   rw[this]
 obtain⟨q,hq,rfl⟩:=H;exact hq
theorem Hx{a:Int}(h:0<=a/\a<=9223372036854775807){k:Nat}:bt a k=a.toNat.testBit k:=by unfold bt;rw[BitVec.getLsbD];congr 1;simp;omega
theorem NJ{n:Int}(h:0<=n/\n<=9223372036854775807){i:Nat}(hi:i<1000):Bi n (i:Int)=some (if bt n i=true then 1 else 0):=by
 unfold Bi;rw[V4 h hi,Hx h,Nat.testBit_eq_decide_div_mod_eq];simp only[aa,eZ];generalize n.toNat/2^i=c;rw[Int.tmod_eq_emod_of_nonneg (by omega)];by_cases e:c %2=1
 .rw [if_pos (decide_eq_true e)];omega
 .rw [if_neg (by simpa using e)];omega
theorem abG{i:Nat}(hi:i<=8):w6 (i:Int)=some ((2^i:Nat):Int):=by
 have H:Wq (aJ (yM (i:Int)) (1,0)) fun q=>q=((2^i:Nat):Int):=by
  refine Wq.loop (fun a=>i-a.2.toNat) (fun a=>∃j:Nat,a=(((2^j:Nat):Int),(j:Int))/\j<=i) ⟨0,rfl,by omega⟩ ?_;rintro _ ⟨j,rfl,hj⟩;dsimp only[yM];refine Wq.cond (fun hb=>Wq.some ⟨⟨j+1,?_,by have:=of_decide_eq_true hb;omega⟩,?_⟩) fun hb=>Wq.some ?_
  .have h8:2^j<=2^8:=dq (by decide) (by omega);rw[mR];generalize 2^j=q at*;rw[fE (n:=(q:Int)*2) (by omega) (by omega),fE (by omega) (by omega)];simp
  .have:=of_decide_eq_true hb;show i-(wr .i64 ((j:Int)+1)).toNat<i-((j:Int)).toNat;rw[fE (by omega) (by omega)];omega
  .have:j=i:=by have:=of_decide_eq_false hb;omega
   rw[this]
 obtain⟨q,hq,rfl⟩:=H;unfold w6;rw[hq];rfl
theorem Wr{a:Int}(ha:M8 a){s:Nat}(hs:s<8)(hb:bt a s=true):fQ .i64 a (pS .i64 1 (s:Int))=a-((2^s:Nat):Int)/\0<a:=by
 obtain⟨w,rfl⟩:=dR ha.1;have hw:w<256:=by have:=ha.2;omega
 have h1:∀(w:Fin 256)(s:Fin 8),(w.val).testBit s.val=true->sF .i64 ((w.val:Nat):Int) (pS .i64 1 ((s.val:Nat):Int))=((w.val:Nat):Int)-((2^s.val:Nat):Int)/\(0:Int)<((w.val:Nat):Int):=by decide+kernel
 rw[aeI (by omega) (by omega),Int.toNat_natCast]at hb;rw[oV];exact h1 ⟨w,hw⟩ ⟨s,hs⟩ hb
theorem VS{s:ap}(h1:s.hZ=false)(ho:M8 s.ik){a:Nat}(ha:a<8)(h2:bt s.ik a=true):
  J2 s (7,s.U,(a:Int),0) (s.U,s.lh,s.hZ,s.dF,s.At,s.fx,s.lf,s.bD,fQ .i64 s.ik (pS .i64 1 (a:Int))):=by
 obtain⟨e5,e6⟩:=Wr ho ha h2;refine⟨Nd h1 ⟨by omega,by omega⟩ (by rw[<-Ff ha]at h2;exact eq_of_beq h2),?_⟩;rw[e5];have hb:=NJ (n:=s.ik) ⟨by omega,by have:=ho.2;omega⟩ (i:=a) (by omega);rw[if_pos h2]at hb;have e1:ay.hZ s=false:=h1;have e2:Bi (ay.ik s) (a:Int)=some 1:=hb;have e3:w6 (a:Int)=some ((2^a:Nat):Int):=abG (by omega);have e4:0<ay.ik s:=e6;have h8:2^a<=2^8:=dq (by decide) (by omega);have hp:1<=2^a:=Nat.one_le_two_pow;have e7:wr .i64 (ay.ik s-((2^a:Nat):Int))=s.ik-((2^a:Nat):Int):=fE (by show _<=s.ik-_;omega) (by show s.ik-_<=_;have:=ho.2;omega);have e8:(a:Int)<=7:=by omega
 unfold nf qW;simp only[ba.bP,ba.U,ba.A,ba.B,e1,e2,decide_eq_true e4,decide_eq_true e8,decide_eq_true (show(a:Int)>=0 by omega)];simp[e3,h1];rw[show((2:Int)^a)=((2^a:Nat):Int)by simp];exact e7
theorem Oa{f:Nat}(hf:f<4):∃t:Int,nk (f:Int)=some t/\tW (f:Int)=some t/\0<=t/\t<=255:=by
 obtain rfl|rfl|rfl|rfl:f=0\/f=1\/f=2\/f=3:=by omega
 .exact ⟨255,by decide,rfl,by decide,by decide⟩
 .exact ⟨255,by decide,rfl,by decide,by decide⟩
 .exact ⟨15,by decide,rfl,by decide,by decide⟩
 .exact ⟨255,by decide,rfl,by decide,by decide⟩
theorem abj{v m:Int}(hv:0<=v/\v<=9223372036854775807)(hm:0<=m/\m<=255):fQ .i64 v m=0<->v<=m/\∀i,i<8->bt v i=true->bt m i=true:=by
 have hm':∀i,8<=i->bt m i=false:=fun i hi=>by rw[Hx ⟨hm.1,by omega⟩];exact jd (bY (show m.toNat<2^8 by omega) (dq (by decide) hi))
 have hz:fQ .i64 v m=0<->∀i,bt v i=true->bt m i=true:=by
  constructor
  .intro h i hi;by_cases h64:i<64
   .have:=Gx (a:=v) (b:=m) h64;rw[h,yk,hi]at this;simpa using this
   .rw [Hx hv]at hi;rw[jd (bY (show v.toNat<2^64 by omega) (dq (by decide) (by omega)))]at hi;exact nomatch hi
  .intro h;rw[oV];unfold sF;have e:(aW 64 v&&&~~~aW 64 m)=0#64:=by refine BitVec.eq_of_getLsbD_eq fun i hi=>?_;rw[BitVec.getLsbD_and,BitVec.getLsbD_not];have:=h i;unfold bt at this;cases h1:(aW 64 v).getLsbD i with|false=>simp|true=>rw[this h1];simp
   show IntKind.wrap .i64 ((aW 64 v&&&~~~aW 64 m).toNat:Int)=0;rw[e];rfl
 rw[hz];constructor
 .intro h;refine⟨?_,fun i _=>h i⟩;have e:v.toNat&&&m.toNat=v.toNat:=Nat.eq_of_testBit_eq fun i=>by have:=h i;rw[Hx hv,Hx ⟨hm.1,by omega⟩]at this;rw[Nat.testBit_and];cases h1:v.toNat.testBit i with|false=>rfl|true=>rw[this h1];rfl
  have:=Nat.and_le_right (n:=v.toNat) (m:=m.toNat);omega
 .rintro ⟨h1,h2⟩ i hi;by_cases h8:i<8
  .exact h2 i h8 hi
  .rw [Hx hv,jd (bY (show v.toNat<2^8 by omega) (dq (by decide) (by omega)))]at hi;exact nomatch hi
def ady(m:ck):Prop:=∀f,f<4->gt (ck.Val m).1 f<=9223372036854775807
theorem RR{m:ck}(hf:ady m):tZ m=Ac m:=by
 unfold tZ Ac;have e:decide (ck.fU m>=8)=decide (ck.fU m>7):=by rw[decide_eq_decide];omega
 rw[e];congr 1
 have key:∀i:Nat,i<4->∃b:Bool,nW m (i:Int)=some (bif b then .inr (.inl false)else .inl (wr .i64 ((i:Int)+1)))/\qG m (i:Int)=some (bif b then .inr (.inl false)else .inl (wr .i64 ((i:Int)+1))):=by
  intro i hi;obtain⟨t,t1,t2,t3,t4⟩:=Oa hi;have hv:=hf i hi;have hd:decide ((i:Int)<4)=true:=decide_eq_true (by omega);unfold nW qG;simp only[hd,cond_true,aY hi,aa,t1,t2];generalize hvv:gt (ck.Val m).1 i=v at*;generalize hmm:gt (ck.QA m).1 i=k;by_cases h1:k<0
  .rw [decide_eq_true h1];exact⟨true,rfl,rfl⟩
  rw[decide_eq_false h1];simp only[cond_false];by_cases h2:k>t
  .rw [decide_eq_true h2];exact⟨true,rfl,rfl⟩
  rw[decide_eq_false h2];simp only[cond_false];by_cases h3:v<0
  .rw [decide_eq_true h3];exact⟨true,rfl,rfl⟩
  rw[decide_eq_false h3];simp only[cond_false,aa];have hs:=abj (v:=v) (m:=k) ⟨by omega,hv⟩ ⟨by omega,by omega⟩
  have hL:=wm (f:=yU m (i:Int)) (aG 8) (fun j=>bt v j&&!bt k j) (by decide) (fun j hj=>by
   have hj:j<8:=by simpa using hj
   rw[uM hj];have b1:Bj v (j:Int)=_:=NJ (n:=v) ⟨by omega,hv⟩ (i:=j) (by omega);have b2:Bj k (j:Int)=_:=NJ (n:=k) ⟨by omega,by omega⟩ (i:=j) (by omega);simp only[yU,decide_eq_true (show(j:Int)<8 by omega),cond_true,aY hi,aa,hvv,hmm,b1,b2];cases bt v j<;>cases bt k j<;>rfl) rfl
  by_cases h4:v>t
  .rw [decide_eq_true h4];have:(fQ .i64 v k !=0)=true:=by rw[bne_iff_ne];intro e;have:=(hs.1 e).1;omega
   rw[this];exact⟨true,rfl,rfl⟩
  rw[decide_eq_false h4];simp only[cond_false];rw[hL];by_cases h5:∀j∈aG 8,(bt v j&&!bt k j)=false
  .have h0:fQ .i64 v k=0:=M8.ext (M8.acV ⟨by omega,by omega⟩) ⟨by decide,by decide⟩ fun j hj=>by rw[Gx (by omega),yk];exact h5 j (by simpa using hj)
   rw[if_pos h5,h0];exact⟨false,rfl,rfl⟩
  .have h0:(fQ .i64 v k !=0)=true:=by rw[bne_iff_ne];intro e;refine h5 fun j hj=>?_;have:=(hs.1 e).2 j (by simpa using hj);cases hb:bt v j with|false=>rfl|true=>rw[this hb];rfl
   rw[if_neg h5,h0];exact⟨true,rfl,rfl⟩
 have hb:∃p:Nat->Bool,∀i:Nat,i<4->nW m (i:Int)=some (bif p i then .inr (.inl false)else .inl (wr .i64 ((i:Int)+1)))/\qG m (i:Int)=some (bif p i then .inr (.inl false)else .inl (wr .i64 ((i:Int)+1))):=by refine⟨fun i=>if h:i<4 then jN (key i h)else false,fun i hi=>?_⟩;simp only[dif_pos hi];exact fZ (key i hi)
 obtain⟨p,hp⟩:=hb
 rw[wm (f:=nW m) (aG 4) p (by decide) (fun i hi=>by
  have hi:i<4:=by simpa using hi
  rw[uM hi];exact(hp i hi).1) rfl,wm (f:=qG m) (aG 4) p (by decide) (fun i hi=>by
  have hi:i<4:=by simpa using hi
  rw[uM hi];exact(hp i hi).2) rfl]
 split<;>rfl
end Go.Proofs.YtoekkpmeeclpeaaGreat.S
open Go.Ev Go
namespace Go.Proofs.YtoekkpmeeclpeaaGreat.S
theorem aaH(a:cz)(p:Int):uc a p=DO a p:=by
 obtain⟨k,f,v⟩:=a;simp only[uc,DO,cz.bP,cz.F,cz.V];by_cases h1:k=1
 .subst h1;have e:decide (f<4)=decide (f<=3):=by rw[decide_eq_decide];omega
  simp only[beq_self_eq_true,cond_true,e];by_cases h2:0<=f/\f<=3
  .obtain ⟨g,rfl⟩:=dR h2.1;obtain⟨t,t1,t2,_⟩:=Oa (f:=g) (by omega);rw[t1,t2]
  .have:(decide (f>=0)&&decide (f<=3))=false:=by rw[jG,decide_eq_false_iff_not,decide_eq_false_iff_not];omega
   rw[this];rfl
 .rw [bn h1];simp only[cond_false];by_cases h2:k=2
  .subst h2;rfl
  .rw [bn h2];simp only[cond_false,Bool.false_and];by_cases h3:k=3
   .subst h3;rw[bq rfl,cond_true];congr 1;rw[cF,decide_eq_true_eq,ax,beq_iff_eq,beq_iff_eq];simp only[Prod.mk.injEq,true_and]
   .rw [bn h3,cond_false];congr 1;rw[decide_eq_false_iff_not];intro e;exact h3 (congrArg Prod.fst e)
theorem Mq(a:cz)(p:Int):∃b,uc a p=some b:=by obtain⟨b,h,_⟩:=adG (a:=a) (p:=p);exact⟨b,h⟩
theorem anl{α:Type}[Inhabited α]{f:Int->Option (Sum Int (Sum Int Unit))}(l:List α)(p:α->Bool)(hb:l.length<9223372036854775808)
  (hstep:∀i:Nat,i<l.length->f (i:Int)=some (bif p (gt l i)then .inr (.inl (i:Int))else .inl (wr .i64 ((i:Int)+1)))) (hend:f (l.length:Int)=some (.inr (.inr ()))):
  (aJ f 0=some (.inr ())/\∀x∈l,p x=false)\/((∃i:Nat,aJ f 0=some (.inl (i:Int)))/\¬∀x∈l,p x=false):=by
 have h:=xO (f:=f) l (fun i x=>if p x then some (i:Int)else none) () hb (fun i hi=>by rw[hstep i hi];cases p (gt l i)<;>rfl) hend;cases hs:lE (fun i x=>if p x then some (i:Int)else none) l 0 with
 |none=>rw[hs]at h;refine .inl ⟨h,fun x hx=>?_⟩;obtain⟨j,hj,rfl⟩:=List.mem_iff_getElem.1 hx;have:=nP.1 hs j l[j] (List.getElem?_eq_getElem hj);cases hp:p l[j]with|false=>rfl|true=>rw[hp]at this;simp at this
 |some b=>
  rw[hs]at h;obtain⟨j,x,h1,h2,_⟩:=kw hs;cases hp:p x with
  |false=>rw[hp]at h2;simp at h2
  |true=>
   rw[hp]at h2;refine .inr ⟨⟨0+j,?_⟩,fun ha=>?_⟩
   .rw [h];have h2:((0+j:Nat):Int)=b:=by simpa using h2
    rw[<-h2]
   .rw [ha x (List.mem_of_getElem? h1)]at hp;exact nomatch hp
theorem WB{l:Sl cz}(hl:l.l.length<=16)(p:Int):yw l p=Ab l p:=by
 have hf:∃g:cz->Bool,∀a,uc a p=some (g a):=⟨fun a=>jN (Mq a p),fun a=>fZ (Mq a p)⟩
 obtain⟨g,hg⟩:=hf;unfold yw Ab dV ez;rw[decide_eq_true (show(l.l.length:Int)<=16 by omega)];simp only[cond_true];have h1:=anl (f:=dp l p) l.l (fun a=>!g a) (by omega) (fun i hi=>by simp only[dp,fT hi,cond_true,aY hi,aa,xj,hg];cases g (gt l.l i)<;>rfl) (by simp only[dp,ij,cond_false]);have h2:=wm (f:=uL l p) l.l (fun a=>!g a) (by omega) (fun i hi=>by simp only[uL,fT hi,cond_true,aY hi,aa,<-aaH,hg];cases g (gt l.l i)<;>rfl) (by simp only[uL,ij,cond_false]);rw[h2];rcases h1 with⟨h1,ha⟩|⟨⟨i,h1⟩,ha⟩
 .rw [h1,if_pos ha];rfl
 .rw [h1,if_neg ha];simp only[aa];rw[decide_eq_true (show(i:Int)>=0 by omega)];rfl
def anV(r:bR):Prop:=ady (bR.M r)/\(bR.Ct r).l.length<=16
theorem U0{r:bR}(h:anV r)(p:Int):qn r p=w_ r p:=by
 unfold qn w_;have e:decide (bR.KP r<65536)=decide (bR.KP r<=65535):=by rw[decide_eq_decide];omega
 rw[e,RR h.1,WB h.2]
theorem Jv(r:bR)(p:Int):∃b,qn r p=some b:=by obtain⟨b,h,_⟩:=Xn (r:=r) (p:=p);exact⟨b,h⟩
def WG(l:List aV):Prop:=Few l/\∀m∈l,ady (bR.M (aV.R m))
theorem ND{l:Sl aV}(h:WG l.l)(m:ac)(hm:ac.gW m=l):
  ((bQ l).bind fun r19=>some (!r19))=((aJ (qE m) 0).bind fun
   |.inl b12=>some b12
   |.inr _=>some true):=by
 have hf:∃g:bR->Bool,∀a,qn a 8=some (g a):=⟨fun a=>jN (Jv a 8),fun a=>fZ (Jv a 8)⟩
 obtain⟨g,hg⟩:=hf;have h20:=h.1.1;have hfit:∀q∈l.l,anV (aV.R q):=fun q hq=>⟨h.2 q hq,h.1.2 q hq⟩;unfold bQ cO;have h1:=anl (f:=b_ l) l.l (fun q=>!(decide (aV.bP q>=1)&&decide (aV.bP q<=5)&&g (aV.R q))) (by omega) (fun i hi=>by simp only[b_,fT hi,cond_true,aY hi,aa,pH,uN,gP,hg];cases decide (aV.bP (gt l.l i)>=1)<;>cases decide (aV.bP (gt l.l i)<=5)<;>cases g (aV.R (gt l.l i))<;>rfl) (by simp only[b_,ij,cond_false])
 have h2:=wm (f:=qE m) l.l (fun q=>!(decide (aV.bP q>=1)&&decide (aV.bP q<=5)&&g (aV.R q))) (by omega) (fun i hi=>by
  have hr:w_ (aV.R (gt l.l i)) 8=some (g (aV.R (gt l.l i))):=by rw[<-U0 (hfit _ (t7 hi))];exact hg _
  have e1:decide (aV.bP (gt l.l i)<1)=!decide (aV.bP (gt l.l i)>=1):=by rw[<-decide_not,decide_eq_decide];omega
  have e2:decide (aV.bP (gt l.l i)>5)=!decide (aV.bP (gt l.l i)<=5):=by rw[<-decide_not,decide_eq_decide];omega
  simp only[qE,hm,fT hi,cond_true,aY hi,aa,hr,e1,e2];cases decide (aV.bP (gt l.l i)>=1)<;>cases decide (aV.bP (gt l.l i)<=5)<;>cases g (aV.R (gt l.l i))<;>rfl) (by simp only[qE,hm,ij,cond_false])
 rw[h2];rcases h1 with⟨h1,ha⟩|⟨⟨i,h1⟩,ha⟩
 .rw [h1,if_pos ha];rfl
 .rw [h1,if_neg ha];simp only[aa];rw[decide_eq_true (show(i:Int)>=0 by omega)];rfl
theorem Q5{l:Sl cz}(hl:l.l.length<=1000):BE l l=some true/\B5 l l=some true:=by have h1:=wm (f:=fW l l) l.l (fun _=>false) (by omega) (fun i hi=>by simp only[fW,fT hi,cond_true,aY hi,aa,decide_true];rfl) (by simp only[fW,ij,cond_false]);have h2:=wm (f:=wG l l) l.l (fun _=>false) (by omega) (fun i hi=>by simp only[wG,fT hi,cond_true,aY hi,aa,decide_true];rfl) (by simp only[wG,ij,cond_false]);rw[if_pos fun _ _=>rfl]at h1 h2;unfold BE iH B5;rw[h1,h2];simp
theorem LK{m:aV}(hl:(bR.Ct (aV.R m)).l.length<=16):lR m m=some true/\B4 m m=some true:=by obtain⟨h1,h2⟩:=Q5 (l:=bR.Ct (aV.R m)) (by omega);unfold lR DI FH B4 EN;rw[h1,h2];simp
theorem Jo{l:Sl aV}(h20:l.l.length<=1000)(h:∀m∈l.l,(bR.Ct (aV.R m)).l.length<=16):aT l l=some true/\qF l l=some true:=by have h1:=wm (f:=bi l l) l.l (fun _=>false) (by omega) (fun i hi=>by simp only[bi,fT hi,cond_true,aY hi,aa,(LK (h _ (t7 hi))).1];rfl) (by simp only[bi,ij,cond_false]);have h2:=wm (f:=pG l l) l.l (fun _=>false) (by omega) (fun i hi=>by simp only[pG,fT hi,cond_true,aY hi,aa,(LK (h _ (t7 hi))).2];rfl) (by simp only[pG,ij,cond_false]);rw[if_pos fun _ _=>rfl]at h1 h2;unfold aT qF;rw[h1,h2];simp
theorem UT(l:Sl aV):aT Sl.nil l=some (decide (l.l.length=0))/\qF l Sl.nil=some (decide (l.l.length=0)):=by
 unfold aT qF;by_cases h:l.l.length=0
 .have h1:aJ (bi Sl.nil l) 0=some (.inr ()):=bW rfl;have h2:aJ (pG l Sl.nil) 0=some (.inr ()):=bW (by unfold pG;rw[h];rfl);rw[h1,h2,h];exact⟨rfl,rfl⟩
 .have e1:((((Sl.nil:Sl aV).l.length:Nat):Int) !=(l.l.length:Int))=true:=by rw[bne_iff_ne];show¬((0:Nat):Int)=_;omega
  have e2:((l.l.length:Int) !=(((Sl.nil:Sl aV).l.length:Nat):Int))=true:=by rw[bne_iff_ne];show¬_=((0:Nat):Int);omega
  rw[e1,e2,decide_eq_false h];exact⟨rfl,rfl⟩
end Go.Proofs.YtoekkpmeeclpeaaGreat.S
open Go.Ev Go
namespace Go.Proofs.YtoekkpmeeclpeaaGreat.S
def fe(a b:ac):Bool:=a.bP==b.bP&&a.Sw==b.Sw&&a.U==b.U&&a.Rd==b.Rd&&a.T1==b.T1&&a.T2==b.T2&&a.jb==b.jb&&a.Of==b.Of&&a.Code==b.Code
theorem ob{α:Type}(o:Option α):o.bind some=o:=by cases o<;>rfl
theorem akh(a b:ac):nh a b=bif fe a b then aT a.gW b.gW else some false:=by
 unfold nh;show(bif fe a b then _ else _:Option Bool).bind _=_;cases fe a b
 .rfl
 .show ((aT a.gW b.gW).bind some).bind some=_;rw[ob,ob];rfl
theorem ne_eq{a b:Int}:(b !=a)=!(a==b):=by rw[cF,bne_iff_ne,Bool.not_eq_true',beq_eq_false_iff_ne];exact⟨fun h e=>h e.symm,fun h e=>h e.symm⟩
theorem ZT{a b:Int}:(b==a)=(a==b):=by rw[cF,beq_iff_eq,beq_iff_eq];exact⟨Eq.symm,Eq.symm⟩
theorem adN(a b:ac):tB b a=bif fe a b then qF b.gW a.gW else some false:=by
 unfold tB fe;rw[ne_eq (a:=a.bP),ne_eq (a:=a.Sw),ne_eq (a:=a.U),ne_eq (a:=a.Rd),ne_eq (a:=a.T1),ne_eq (a:=a.T2),ZT (a:=a.jb),ZT (a:=a.Of),ZT (a:=a.Code)];cases(a.bP==b.bP)<;>try rfl
 cases(a.Sw==b.Sw)<;>try rfl
 cases(a.U==b.U)<;>try rfl
 cases(a.Rd==b.Rd)<;>try rfl
 cases(a.T1==b.T1)<;>try rfl
 cases(a.T2==b.T2)<;>try rfl
 cases(a.jb==b.jb)<;>try rfl
 cases(a.Of==b.Of)<;>try rfl
 cases(a.Code==b.Code)<;>try rfl
 show((qF b.gW a.gW).bind some).bind some=_;rw[ob,ob];rfl
def YW(k:Int)(m:ac):Bool:=
 (decide (m.T1>=0)&&decide (m.T1<=1125899906842624))&&(decide (m.T2>=-1125899906842624)&&decide (m.T2<=1125899906842624))&&(decide (m.jb>=0)&&decide (m.jb<=65535))&&(decide (m.Code>=0)&&decide (m.Code<=255))&&
 ((decide (k<3))||(decide (m.U>=1)&&decide (m.U<=65535)))&&(decide (k<3)||k==6||(decide (m.Rd>=bif(k==5||k==7||k==8)then-1 else 0)&&decide (m.Rd<=7)))&&(decide (k<7)||(decide (m.Of>=3)&&decide (m.Of<=6)))
theorem aqO{m:ac}(h:1<=m.bP/\m.bP<=8)(h0:(m.bP<3\/m.bP=6)->m.Rd=0):wE m=some (YW m.bP m):=by
 obtain⟨k,sw,u,rd,t1,t2,yZ,of,code,mods⟩:=m;simp only[ac.bP,ac.Rd]at h h0;unfold wE YW;simp only[ac.bP,ac.Rd,ac.T1,ac.T2,ac.jb,ac.Code,ac.U,ac.Of];have e:∀a b:Int,decide (a<b)=!decide (a>=b):=fun a b=>by rw[<-decide_not,decide_eq_decide];omega
 have e':∀a b:Int,decide (a>b)=!decide (a<=b):=fun a b=>by rw[<-decide_not,decide_eq_decide];omega
 rw[e t1,e' t1,e t2,e' t2,e yZ,e' yZ,e code,e' code,e u,e' u,e' rd,e rd 0];generalize decide (t1>=0)=a1;generalize decide (t1<=1125899906842624)=a2;generalize decide (t2>=-1125899906842624)=a3;generalize decide (t2<=1125899906842624)=a4;generalize decide (yZ>=0)=a5;generalize decide (yZ<=65535)=a6;generalize decide (code>=0)=a7;generalize decide (code<=255)=a8;generalize decide (u>=1)=a9;generalize decide (u<=65535)=a10;generalize decide (of>=3)=a11;generalize decide (of<=6)=a12
 have key:(bif !decide (rd>=0)then some ((decide (rd< -1)||decide (k<5))||k==6)else some false:Option Bool)=some (!(decide (k<3)||k==6||decide (rd>=bif(k==5||k==7||k==8)then-1 else 0))):=by
  by_cases hr:rd>=0
  .rw [decide_eq_true hr]
   have:decide (rd>=bif(k==5||k==7||k==8)then-1 else 0)=true:=by
    rw[decide_eq_true_eq];cases(k==5||k==7||k==8)
    .exact hr
    .show rd>=-1;omega
   rw[this,Bool.or_true];rfl
  .rw [decide_eq_false hr];have h3:¬(k<3\/k=6):=fun hk=>hr (by rw[h0 hk];exact Int.le_refl 0);have h36:k=3\/k=4\/k=5\/k=7\/k=8:=by omega
   show some _=some _;congr 1;rw[cF];rcases h36 with rfl|rfl|rfl|rfl|rfl<;>simp<;>omega
 have hk2:decide (k>2)=!decide (k<3):=by rw[<-decide_not,decide_eq_decide];omega
 have hk7:decide (rd<=7)=true\/decide (rd<=7)=false:=by cases decide (rd<=7)<;>simp
 rw[hk2,key];cases hk3:decide (k<3)with
 |true=>
  have h7:decide (k<7)=true:=by have:=of_decide_eq_true hk3;rw[decide_eq_true_eq];omega
  rw[h7];cases a1<;>cases a2<;>cases a3<;>cases a4<;>cases a5<;>cases a6<;>cases a7<;>cases a8<;>rfl
 |false=>
  generalize hq:decide (rd>=bif(k==5||k==7||k==8)then-1 else 0)=q;cases h6:(k==6)with
  |true=>
   have hr:rd=0:=h0 (.inr (eq_of_beq h6));have h7:decide (k<7)=true:=by have:=eq_of_beq h6;rw[decide_eq_true_eq];omega
   have h8:decide (rd<=7)=true:=by rw[hr];rfl
   rw[h7,h8];cases a1<;>cases a2<;>cases a3<;>cases a4<;>cases a5<;>cases a6<;>cases a7<;>cases a8<;>cases a9<;>cases a10<;>rfl
  |false=>
   generalize decide (k<7)=k7;generalize decide (rd<=7)=r7;cases a1<;>try rfl
   cases a2<;>try rfl
   cases a3<;>try rfl
   cases a4<;>try rfl
   cases a5<;>try rfl
   cases a6<;>try rfl
   cases a7<;>try rfl
   cases a8<;>try rfl
   cases a9<;>cases a10<;>cases q<;>cases k7<;>cases r7<;>cases a11<;>cases a12<;>rfl
theorem Sp{m:ac}(h:1<=m.bP/\m.bP<=8):∃q,qI m=some q/\CZ m=some q/\(q.gW=m.gW\/q.gW=Sl.nil)/\((m.bP<3\/m.bP=6)->q.Rd=0):=by
 obtain⟨k,sw,u,rd,t1,t2,yZ,of,code,mods⟩:=m;have h:1<=k/\k<=8:=h;have hk:k=1\/k=2\/k=3\/k=4\/k=5\/k=6\/k=7\/k=8:=by omega
 rcases hk with rfl|rfl|rfl|rfl|rfl|rfl|rfl|rfl
 .exact ⟨_,rfl,rfl,.inr rfl,fun _=>rfl⟩
 .exact ⟨_,rfl,rfl,.inr rfl,fun _=>rfl⟩
 .exact ⟨_,rfl,rfl,.inl rfl,fun e=>absurd e (by show¬((3:Int)<3\/(3:Int)=6);decide)⟩
 .exact ⟨_,rfl,rfl,.inr rfl,fun e=>absurd e (by show¬((4:Int)<3\/(4:Int)=6);decide)⟩
 .exact ⟨_,rfl,rfl,.inr rfl,fun e=>absurd e (by show¬((5:Int)<3\/(5:Int)=6);decide)⟩
 .exact ⟨_,rfl,rfl,.inr rfl,fun _=>rfl⟩
 .exact ⟨_,rfl,rfl,.inr rfl,fun e=>absurd e (by show¬((7:Int)<3\/(7:Int)=6);decide)⟩
 .exact ⟨_,rfl,rfl,.inr rfl,fun e=>absurd e (by show¬((8:Int)<3\/(8:Int)=6);decide)⟩
def JZ(k:Int):Option Int:=bif(k==1)then(some 1)else(bif(k==2)then(some 7)else(bif(k==3)then(some 152)else(bif(k==4)then(some 26)else(bif(k==5)then(some 24)else(bif(k==6)then(some 72)else(bif(k==7)then(some 60)else(bif(k==8)then(some 124)else(some 0))))))))
theorem TD{k:Int}(h:1<=k/\k<=8):∃m:Int,JZ k=some m/\(m==0)=false/\(pT .i64 m 8 !=0)=!decide (k<3)/\(pT .i64 m 16 !=0)=!(decide (k<3)||k==6)/\(pT .i64 m 32 !=0)=!decide (k<7):=by
 have hk:k=1\/k=2\/k=3\/k=4\/k=5\/k=6\/k=7\/k=8:=by omega
 rw[p_];rcases hk with rfl|rfl|rfl|rfl|rfl|rfl|rfl|rfl<;>exact⟨_,rfl,by decide,by decide,by decide,by decide⟩
theorem Ra{m:ac}(h:WG m.gW.l):ly m=z_ m:=by
 have hX:=ND h m rfl;have hfew:=h.1;obtain⟨k,sw,u,rd,t1,t2,yZ,of,code,mods⟩:=m;unfold ly z_;rw[hX];show(JZ k).bind _=_;simp only[ac.bP,ac.Sw,ac.gW,ac.T1,ac.T2,ac.jb,ac.U,ac.Rd,ac.Of,ac.Code,gP,aa];by_cases hk:1<=k/\k<=8
 rotate_left
 .have e:JZ k=some 0:=by unfold JZ;rw[bn (show k≠1 by omega),bn (show k≠2 by omega),bn (show k≠3 by omega),bn (show k≠4 by omega),bn (show k≠5 by omega),bn (show k≠6 by omega),bn (show k≠7 by omega),bn (show k≠8 by omega)];rfl
  have e2:(((decide (k<1)||decide (k>8))||decide (sw<0))||decide (sw>7))=true:=by simp only[cE,decide_eq_true_eq];omega
  rw[e,e2];rfl
 obtain⟨mk,m1,m2,m3,m4,m5⟩:=TD hk;rw[m1];simp only[aa,m2,m3,m4,m5,cond_false];by_cases hs:0<=sw/\sw<=7
 rotate_left
 .have e1:(decide (sw>=0)&&decide (sw<=7))=false:=by rw[jG,decide_eq_false_iff_not,decide_eq_false_iff_not];omega
  have e2:(((decide (k<1)||decide (k>8))||decide (sw<0))||decide (sw>7))=true:=by simp only[cE,decide_eq_true_eq];omega
  rw[e1,e2];rfl
 have e1:(decide (sw>=0)&&decide (sw<=7))=true:=by rw[ax,decide_eq_true_eq,decide_eq_true_eq];omega
 have e2:(((decide (k<1)||decide (k>8))||decide (sw<0))||decide (sw>7))=false:=by simp only[Bool.or_eq_false_iff,decide_eq_false_iff_not];omega
 rw[e1,e2];simp only[bX,cond_false];obtain⟨q,c1,c2,c3,c4⟩:=Sp (m:=(k,sw,u,rd,t1,t2,yZ,of,code,mods)) hk
 have hsame:∃s,nh q (k,sw,u,rd,t1,t2,yZ,of,code,mods)=some s/\tB (k,sw,u,rd,t1,t2,yZ,of,code,mods) q=some s/\(s=true->fe q (k,sw,u,rd,t1,t2,yZ,of,code,mods)=true):=by
  rw[akh,adN];cases hfe:fe q (k,sw,u,rd,t1,t2,yZ,of,code,mods)with
  |false=>exact⟨false,rfl,rfl,fun e=>nomatch e⟩
  |true=>
   simp only[cond_true];rcases c3 with e|e
   .obtain ⟨g1,g2⟩:=Jo (by have:=hfew.1;omega) hfew.2;rw[e];exact⟨true,g1,g2,fun _=>trivial⟩
   .obtain ⟨g1,g2⟩:=UT mods;rw[e];exact⟨_,g1,g2,fun _=>trivial⟩
 obtain⟨s,s1,s2,s3⟩:=hsame;rw[c1,c2];simp only[aa,s1,s2];cases s with
 |false=>rfl
 |true=>
  have hfe:=s3 rfl;have hrd:(k<3\/k=6)->rd=0:=fun hc=>by have h1:=c4 hc;unfold fe at hfe;simp only[ax,beq_iff_eq]at hfe;have h2:q.Rd=rd:=hfe.1.1.1.1.1.2;rw[<-h2,h1]
  rw[aqO (m:=(k,sw,u,rd,t1,t2,yZ,of,code,mods)) hk hrd];have h6:(bif((k==5||k==7)||k==8)then some (-1)else some 0:Option Int)=some (bif((k==5||k==7)||k==8)then-1 else 0):=by cases((k==5||k==7)||k==8)<;>rfl
  simp only[aa,bX,cond_false];rw[h6];simp only[aa];unfold YW;simp only[ac.Rd,ac.T1,ac.T2,ac.jb,ac.Code,ac.U,ac.Of];generalize(decide (t1>=0)&&decide (t1<=1125899906842624))=a1;generalize(decide (t2>=-1125899906842624)&&decide (t2<=1125899906842624))=a2;generalize(decide (yZ>=0)&&decide (yZ<=65535))=a3;generalize(decide (code>=0)&&decide (code<=255))=a4;generalize(decide (u>=1)&&decide (u<=65535))=a5;generalize(decide (rd>=bif((k==5||k==7)||k==8)then-1 else 0)&&decide (rd<=7))=a6;generalize(decide (of>=3)&&decide (of<=6))=a7;generalize decide (k<3)=k3;generalize decide (k<7)=k7;generalize(k==6)=k6;generalize decide ((mods.l.length:Int)>16)=L;cases a1<;>try rfl
  cases a2<;>try rfl
  cases a3<;>try rfl
  cases a4<;>cases a5<;>cases k3<;>cases k6<;>cases k7<;>cases a6<;>cases a7<;>cases L<;>rfl
theorem Rb{m:ac}(h:Few m.gW.l)(hr:ly m=some true):(0<=m.Sw/\m.Sw<8)/\(-1<=m.Rd/\m.Rd<=7\/m.bP<=2\/m.bP=6):=by
 obtain⟨b,hb,hsw⟩:=L6 h;rw[hr]at hb;cases hb;refine⟨hsw rfl,?_⟩;obtain⟨k,sw,u,rd,t1,t2,yZ,of,code,mods⟩:=m;show-1<=rd/\rd<=7\/k<=2\/k=6;unfold ly at hr;have hr:(JZ k).bind _=some true:=hr;simp only[ac.bP,ac.Sw,ac.gW,ac.T1,ac.T2,ac.jb,ac.U,ac.Rd,ac.Of,ac.Code,gP,aa]at hr;by_cases hk:1<=k/\k<=8
 rotate_left
 .have e:JZ k=some 0:=by unfold JZ;rw[bn (show k≠1 by omega),bn (show k≠2 by omega),bn (show k≠3 by omega),bn (show k≠4 by omega),bn (show k≠5 by omega),bn (show k≠6 by omega),bn (show k≠7 by omega),bn (show k≠8 by omega)];rfl
  rw[e]at hr;exact nomatch hr
 by_cases h36:k<=2\/k=6
 .exact .inr h36
 obtain⟨mk,m1,m2,m3,m4,m5⟩:=TD hk;rw[m1]at hr;simp only[aa,m2,m3,m4,m5,cond_false]at hr;have k3:decide (k<3)=false:=decide_eq_false (by omega);rw[k3,bn (show k≠6 by omega)]at hr;refine .inl ?_;have h6:(bif((k==5||k==7)||k==8)then some (-1)else some 0:Option Int)=some (bif((k==5||k==7)||k==8)then-1 else 0):=by cases((k==5||k==7)||k==8)<;>rfl
 rw[h6]at hr;by_cases hrd:-1<=rd/\rd<=7
 .exact hrd
 exfalso
 have e:(decide (rd>=bif((k==5||k==7)||k==8)then-1 else 0)&&decide (rd<=7))=false:=by
  rw[jG,decide_eq_false_iff_not,decide_eq_false_iff_not];cases((k==5||k==7)||k==8)
  .show ¬rd>=0\/_;omega
  .show ¬rd>=-1\/_;omega
 simp only[aa,e,Bool.or_false,Bool.not_false,cond_true]at hr;revert hr;generalize(bif !(decide (sw>=0)&&decide (sw<=7))then some true else(qI (k,sw,u,rd,t1,t2,yZ,of,code,mods)).bind fun r3=>(nh r3 (k,sw,u,rd,t1,t2,yZ,of,code,mods)).bind fun r4=>some (!r4):Option Bool)=A;intro hr;cases A with
 |none=>exact nomatch hr
 |some b=>cases b with|true=>exact nomatch hr|false=>simp only[aa,cond_false]at hr;revert hr;cases(decide (t1>=0)&&decide (t1<=1125899906842624))<;>cases(decide (t2>=-1125899906842624)&&decide (t2<=1125899906842624))<;>cases(decide (yZ>=0)&&decide (yZ<=65535))<;>cases(decide (u>=1)&&decide (u<=65535))<;>exact fun e=>nomatch e
end Go.Proofs.YtoekkpmeeclpeaaGreat.S
