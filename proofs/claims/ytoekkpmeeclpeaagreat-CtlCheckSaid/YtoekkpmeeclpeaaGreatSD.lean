/- Costs: what both lay. Conditions: a topology and weights that may be. -/
import Derived.Test.YtoekkpmeeclpeaaGreatSC
open Bool renaming true_and->eO
open List renaming all_eq_true->bg,ext_getElem->gQ,length_append->ap,length_filterMap_le->cZ,length_map->aD,length_range->cM,length_replicate->aY,map_congr_left->eP,map_map->gr,mem_map->br,range->bm,replicate->aj
open Nat renaming le_trans->bo
open Option renaming bind_some->ae
open Go.Ev Go Go.Fl Go.Ways
namespace Go.Proofs.YtoekkpmeeclpeaaGreat.S
theorem IE(c:Sl Nat):∀n,(fun s a m b=>bi n s a m b c)=p8 (fun x y=>dz x y c) n
 |0=>rfl
 |n+1=>by show(fun s a m b=>dZ (bi n) s a m b c)=CT (fun x y=>dz x y c) (p8 (fun x y=>dz x y c) n);rw[<-IE c n];rfl
theorem Q_(c:Sl Nat)(s:Sl Int)(a m b:Int):bi 8 s a m b c=p8 (fun x y=>dz x y c) 8 s a m b:=congrFun (congrFun (congrFun (congrFun (IE c 8) s) a) m) b
theorem Ps(n i:Int)(c:Sl Nat):ew n c i=uE (fun x y=>dz x y c) 8 n i:=by funext s;unfold ew uE;simp only[Q_]
theorem Pr(n:Int)(c:Sl Nat):eu n c=uD (fun x y=>dz x y c) 8 n:=by funext s;unfold eu uD;simp only[Q_,Ps]
theorem R7(s:Sl Int)(c:Sl Nat):cR s c=R8 (fun x y=>dz x y c) 8 s:=by unfold cR fh;rw[Pr];rfl
theorem J_{α:Type}[DecidableEq α]{lt:α->α->Bool}(hs:za lt){a b:List α}(h:hN lt a b):a.Perm b:=by rw[List.perm_iff_count];intro x;have e:∀l:List α,List.count x (l.filter (yW lt x))=List.count x l:=fun l=>List.count_filter (AX hs x);rw[<-e a,<-e b,h x]
def Yu(dQ:Nat->Nat)(a b:Int):Bool:=decide (dQ a.toNat<dQ b.toNat)
theorem Jb(dQ:Nat->Nat):za (Yu dQ):=⟨fun x=>decide_eq_false (by omega),fun x y z h1 h2=>by
 have h1:=of_decide_eq_true h1;have h2:=of_decide_eq_true h2;exact decide_eq_true (by omega),fun x y z h1 h2=>by
 have h1:=of_decide_eq_false h1;have h2:=of_decide_eq_false h2;exact decide_eq_false (by omega)⟩
theorem ET{a:Nat}(h:a<=oh):gZ a=9223372036854775808+a:=by have h:a<=D.infRung:=h;have h2:=h;rw[ru]at h2;exact tX (mm (qP h)) (by omega)
theorem PV{n:Nat}{dQ:Nat->Nat}(hb:∀i,i<n->dQ i<=oh):O8 (fun x y=>dz x y (Sl.mk (bv n dQ))) (Yu dQ) (fun x=>0<=x/\x<n):=fun x y hx hy=>by
 obtain⟨a,rfl⟩:∃a:Nat,x=a:=⟨x.toNat,by omega⟩
 obtain⟨b,rfl⟩:∃b:Nat,y=b:=⟨y.toNat,by omega⟩
 have ha:a<n:=by omega
 have hbn:b<n:=by omega
 have w1:=vR (qP (hb a ha));have w2:=vR (qP (hb b hbn));refine⟨Bp (gZ (dQ a)) (gZ (dQ b)),?_,?_⟩
 .show dz (a:Int) (b:Int) (Sl.mk (bv n dQ))=_;unfold dz;rw[ii,og (by rw[cJ];exact ha),ae,og (by rw[cJ];exact hbn),ae,gM ha,gM hbn,QI w1 w2];rfl
 .unfold Yu;rw[ET (hb a ha),ET (hb b hbn)];have e1:((a:Nat):Int).toNat=a:=by omega
  have e2:((b:Nat):Int).toNat=b:=by omega
  rw[e1,e2];rcases Nat.lt_trichotomy (dQ a) (dQ b)with h|h|h
  .rw [sq (by omega),decide_eq_true h];rfl
  .rw [zn (by omega),decide_eq_false (show¬dQ a<dQ b by omega)];rfl
  .rw [sv (by omega),decide_eq_false (show¬dQ a<dQ b by omega)];rfl
theorem Hw{t:ai}{L:List Nat}(h:KE t L=true):gi t/\L.length=t.aE.l.length/\(∀x∈L,nn x)/\L.map iu=L:=by unfold KE at h;simp only[Bool.and_eq_true,decide_eq_true_eq,beq_iff_eq]at h;have h3:∀x∈L,nn x:=fun x hx=>sN.1 (bg.1 h.2.2 x hx);refine⟨h.1,h.2.1,h3,?_⟩;have:L.map iu=L.map id:=eP fun x hx=>qq (mm (h3 x hx));rw[this,List.map_id]
section
variable{t:ai}{L:List Nat}(hV:gi t)(hL:L.length=t.aE.l.length)(hn:∀x∈L,nn x)
theorem mU(hV:gi t):t.ah=((t.ah.toNat:Nat):Int)/\1<=t.ah.toNat/\t.ah.toNat<=8:=by have:=hV.sw;omega
abbrev ed(L:List Nat)(x:aw):Nat×Nat:=(x.To.toNat,wt L x.hZ)
include hV hL hn in
theorem L6{gU:Nat}(ha:gU<t.ah.toNat){dQ:Nat->Nat}(hb:∀i,i<t.ah.toNat->dQ i<=oh){M:List Nat}(hM:gt M 0=gU)(hMl:0<M.length){r:Sl aw}(hr:r.l=eC t (gU:Int)):
  aP (lh (dM L) 0 (Sl.mk (dV M)) r) (0,Sl.mk (bv t.ah.toNat dQ))=some (Sl.mk (bv t.ah.toNat (p7 (hO t L) dQ gU ((eC t (gU:Int)).map (ed L)).reverse))):=by
 have hWl:(dM L).l=L:=rn L;have hlen8:r.l.length<=8:=by rw[hr];exact bo (cZ _ _) (by simp)
 have key:∀(R A:List aw),r.l=A++R->aP (lh (dM L) 0 (Sl.mk (dV M)) r) ((A.length:Int),Sl.mk (bv t.ah.toNat (p7 (hO t L) dQ gU (A.map (ed L)).reverse)))=some (Sl.mk (bv t.ah.toNat (p7 (hO t L) dQ gU (r.l.map (ed L)).reverse))):=by
  intro R;induction R with
  |nil=>
   intro A e;have e:r.l=A:=by rw[e,List.append_nil]
   refine(bt ?_).trans (by rw[e]);simp only[lh];rw[e,decide_eq_false (by omega),cond_false]
  |cons x R ih=>
   intro A e;have hi:A.length<r.l.length:=by rw[e];simp
   have hx:gt r.l A.length=x:=by rw[e];exact tt
   have hxm:x∈eC t (gU:Int):=by rw[<-hr,e];simp
   obtain⟨k1,k2,k3,k4,k5⟩:=mM hV hxm;have hto:x.To.toNat<t.ah.toNat:=by omega
   have hlk:x.hZ.toNat<L.length:=by omega
   have hall:∀q∈A,q∈eC t (gU:Int):=fun q hq=>by rw[<-hr,e];exact List.mem_append_left _ hq
   generalize hf:p7 (hO t L) dQ gU (A.map (ed L)).reverse=f;have fb:∀i,i<t.ah.toNat->f i<=oh:=fun i hi2=>by rw[<-hf];exact bo (sj _ i).1 (hb i hi2)
   have fat:f gU=dQ gU:=by
    rw[<-hf];rcases qI (E:=hO t L) (dQ:=dQ) (gU:=gU) (A.map (ed L)).reverse gU with h|⟨q,hq,h2,_⟩
    .exact h
    .obtain ⟨y,hy,rfl⟩:=br.1 (List.mem_reverse.1 hq);have:=mM hV (hall y hy);have h2:y.To.toNat=gU:=h2;omega
   refine(bX (a':=(((A++[x]).length:Int),Sl.mk (bv t.ah.toNat (p7 (hO t L) dQ gU ((A++[x]).map (ed L)).reverse)))) ?_).trans (ih (A++[x]) (by rw[e];simp));have i1:cC x.To (bv t.ah.toNat f).length=some x.To.toNat:=dO.2 ⟨by omega,by rw[cJ];exact hto⟩;have i2:cC x.hZ L.length=some x.hZ.toNat:=dO.2 ⟨by omega,hlk⟩;have i3:cC (gU:Int) (bv t.ah.toNat f).length=some gU:=og (by rw[cJ];exact ha);have g0:gt (dV M) 0=(gU:Int):=by rw[oP hMl,hM]
   simp only[lh];rw[decide_eq_true (by omega),cond_true,og hi,ae,hx,ii,i1,ae,hWl,i2,ae,ii,g0,i3,ae,gM ha,ER (hn _ (kQ hlk)) (fb gU ha),ae,ae,gM hto,P6 (fb _ hto) T1,mK hto,vn (by omega),ap];congr 4;refine fY fun j hj=>?_;rw[List.map_append,List.reverse_append];show(if j=x.To.toNat then _ else _)=if j=x.To.toNat then min (p7 (hO t L) dQ gU (A.map (ed L)).reverse j) (P (wt L x.hZ) (dQ gU))else p7 (hO t L) dQ gU (A.map (ed L)).reverse j;rw[hf];by_cases hc:j=x.To.toNat
   .rw [if_pos hc,if_pos hc,hc,fat];rfl
   .rw [if_neg hc,if_neg hc]
 rw[hr]at key;exact key _ [] rfl
theorem F8{n g:Nat}{E:Nat->List (Nat×Nat)}{cl op op':List Nat}{dQ:Nat->Nat}(h:LL n g E cl op dQ)(hp:op'.Perm op):LL n g E cl op' dQ:=⟨(hp.append_left cl).trans h.Hj,h.pT,h.g0,h.UP,h.sub,fun c hc o ho=>h.Rd c hc o (hp.mem_iff.1 ho),h.Eg⟩
include hV hL hn in
theorem JA{g:Nat}:∀(k:Nat)(op cl:List Nat)(dQ:Nat->Nat),op.length=k->LL t.ah.toNat g (hO t L) cl op dQ->
  ∃cl' out',aP (nC t (dM L)) (Sl.mk (dV op),Sl.mk (bv t.ah.toNat dQ))=some (Sl.mk (bv t.ah.toNat out'))/\LL t.ah.toNat g (hO t L) cl' [] out'
 |0,op,cl,dQ,hk,h=>by obtain rfl:op=[]:=List.length_eq_zero_iff.1 hk;refine⟨cl,dQ,bt ?_,h⟩;simp only[nC];rfl
 |k+1,op,cl,dQ,hk,h=>by
  have hmem:∀x∈op,x<t.ah.toNat:=fun x hx=>List.mem_range.1 (h.Hj.mem_iff.1 (List.mem_append_right _ hx));have hol:(dV op).length=k+1:=by rw[aD,hk]
  have hk8:k+1<=8:=by have:=h.Hj.length_eq;rw[ap,cM]at this;have:=mU hV;omega
  obtain⟨M,m1,m2,m3,m4⟩:=Mc (Jb dQ) (PV h.pT) (f:=8) (l:=dV op) (by omega) (by omega) (fun x hx=>by obtain⟨y,hy,rfl⟩:=br.1 hx;have:=hmem y hy;omega);have hperm:=J_ (Jb dQ) m4
  -- as numbers
  obtain⟨M',hM',hp'⟩:∃M':List Nat,M=dV M'/\M'.Perm op:=by
   refine⟨M.map Int.toNat,?_,?_⟩
   .rw [dV,gr];refine(List.map_id M).symm.trans (eP fun x hx=>?_);obtain⟨y,hy,rfl⟩:=br.1 (hperm.mem_iff.1 hx);show((y:Nat):Int)=((((y:Nat):Int).toNat:Nat):Int)
    omega
   .refine (hperm.map Int.toNat).trans ?_;rw[gr];refine List.Perm.of_eq ((eP fun x _=>?_).trans (List.map_id op));show((x:Nat):Int).toNat=x;omega
  subst hM'
  match M',hp' with
  |[],hp'=>rw[<-hp'.length_eq]at hk;cases hk
  |gU::rest,hp'=>
   have h2:=F8 h hp'
   have hmin:∀o∈rest,dQ gU<=dQ o:=fun o ho=>by
    have h3:=(List.pairwise_cons.1 m3).1 (o:Int) (br.2 ⟨o,ho,rfl⟩);have h4:¬dQ ((o:Nat):Int).toNat<dQ ((gU:Nat):Int).toNat:=of_decide_eq_false h3;have e1:((o:Nat):Int).toNat=o:=by omega
    have e2:((gU:Nat):Int).toNat=gU:=by omega
    rw[e1,e2]at h4;omega
   have hat:gU<t.ah.toNat:=hmem gU (hp'.mem_iff.1 List.mem_cons_self);obtain⟨r,r1,r2⟩:=Aq hV (gU:Int);have h5:=h2.ld (w8 hV L) hmin (l:=((eC t (gU:Int)).map (ed L)).reverse) (fun e=>List.mem_reverse);have hrl:rest.length=k:=by have:=hp'.length_eq;rw[List.length_cons,hk]at this;omega
   obtain⟨cl',out',j1,j2⟩:=JA k rest _ _ hrl h5;refine⟨cl',out',(bX (a':=(Sl.mk (dV rest),Sl.mk (bv t.ah.toNat (p7 (hO t L) dQ gU ((eC t (gU:Int)).map (ed L)).reverse)))) ?_).trans j1,j2⟩;have htr:=L6 hV hL hn hat h.pT (M:=gU::rest) rfl (by simp) r2;simp only[nC];have z0:cC 0 (dV (gU::rest)).length=some 0:=og (n:=0) (by simp)
   have c1:nR (dV (gU::rest)) 1 ((dV (gU::rest)).length:Int)=some (dV rest):=by
    unfold nR;rw[if_pos ⟨by omega,by simp;omega,Int.le_refl _⟩];have e1:(1:Int).toNat=1:=rfl;have e2:(((dV (gU::rest)).length:Nat):Int).toNat=rest.length+1:=by simp
    rw[e1,e2];show some ((dV rest).take (rest.length+1-1))=_;rw[List.take_of_length_le (by simp)]
   have g0:gt (dV (gU::rest)) 0=(gU:Int):=rfl;rw[ii,decide_eq_true (by omega),cond_true,R7,m1,ae,x6 (by rw[m2]),ae];simp only[ii];rw[z0,ae,c1,ae,g0,r1,ae,htr,ae];rfl
include hV hL hn in
theorem H8{g:Nat}(hg:g<t.ah.toNat):∃cl dQ,lj t (dM L) (g:Int)=some (Sl.mk (bv t.ah.toNat dQ))/\LL t.ah.toNat g (hO t L) cl [] dQ:=by
 obtain⟨s1,s2,s3⟩:=mU hV;have hok:KE t L=true:=by unfold KE;rw[decide_eq_true hV,eO,hL,beq_self_eq_true,eO];exact bg.2 fun x hx=>sN.2 (hn x hx)
 have hr:=xM (t:=t) (L:=L) (fun x hx=>vR (hn x hx)) (by have:=hV.wS;omega);rw[(Hw hok).2.2.2,hok]at hr;unfold lj;have hinf:ub 1=some oh:=rfl;have hrep:=Mz (x:=oh) s2 s3;rw[<-s1]at hrep;have hm:D2 (0:Int) t.ah t.ah=some (aj t.ah.toNat 0):=by unfold D2;rw[if_pos (by omega)]
 have hguard:(((!true)||(decide ((g:Int)<0)))||(decide ((g:Int)>=(ai.ah t))))=false:=by rw[decide_eq_false (show¬(g:Int)<0 by omega),decide_eq_false (show¬(g:Int)>=t.ah by omega)];rfl
 have e1:aj t.ah.toNat oh=bv t.ah.toNat (fun _=>oh):=by refine gQ (by simp[bv]) fun j h1 h2=>by simp[bv]
 have hL1:aP (li (aj t.ah.toNat 0)) (0,Sl.mk (aj t.ah.toNat 0))=some (Sl.mk (dV (bm t.ah.toNat))):=by
  have:=Bs (f:=li (aj t.ah.toNat 0)) (fun i:Nat=>((i:Int),Sl.mk (bv t.ah.toNat fun j=>if j<i then(j:Int)else 0))) t.ah.toNat (b:=Sl.mk (dV (bm t.ah.toNat))) (fun i hi=>by
   simp only[li];rw[aY,decide_eq_true (by omega),cond_true,ii,og (by rw[cJ];exact hi),ae,mK hi,vn (by omega)];congr 4;refine fY fun j hj=>?_;by_cases h1:j=i
   .rw [if_pos h1,if_pos (by omega),h1]
   .by_cases h2:j<i
    .rw [if_neg h1,if_pos h2,if_pos (by omega)]
    .rw [if_neg h1,if_neg h2,if_neg (by omega)]) (by
   simp only[li];rw[aY,decide_eq_false (by omega),cond_false];congr 2;exact congrArg Sl.mk (fY (g:=fun j:Nat=>(j:Int)) fun j hj=>if_pos hj))
  have e0:(bv t.ah.toNat fun j=>if j<0 then((j:Nat):Int)else 0)=aj t.ah.toNat 0:=by refine gQ (by simp[bv]) fun j h1 h2=>by simp[bv]
  rw[e0]at this;exact this
 obtain⟨cl,dQ,d1,d2⟩:=JA hV hL hn (g:=g) t.ah.toNat (bm t.ah.toNat) [] _ (cM) (LL.yv hg);refine⟨cl,dQ,?_,d2⟩;rw[hr,ae,hguard,cond_false,hinf,ae,hrep,ae,ii,og (by rw[aY];exact hg),ae,hm,ae,hL1,ae,e1,mK hg,d1];rfl
include hV hL hn in
theorem Ki{b:Sl Int}(hb:b.l=dV L){c:Nat->Nat}(hc:∀i,i<t.ah.toNat->c i<=oh){i:Nat}{r:Sl bJ}(hr:r.l=eC t (i:Int)):
  aP (lC b (Sl.mk (dV (bv t.ah.toNat c))) r) (((c i:Nat):Int),0)=some ((wB (hO t L) c i:Nat):Int):=by
 have hlen8:r.l.length<=8:=by rw[hr];exact bo (cZ _ _) (by simp)
 have key:∀(R A:List aw)(z:Nat),r.l=A++R->aP (lC b (Sl.mk (dV (bv t.ah.toNat c))) r) ((z:Int),(A.length:Int))=some (((R.map (ed L)).foldl (fun b e=>min b (P e.2 (c e.1))) z:Nat):Int):=by
  intro R;induction R with
  |nil=>intro A z e;refine bt ?_;simp only[lC];rw[decide_eq_false (by rw[e];simp),cond_false];rfl
  |cons x R ih=>
   intro A z e;have hi:A.length<r.l.length:=by rw[e];simp
   have hx:gt r.l A.length=x:=by rw[e];exact tt
   have hxm:x∈eC t (i:Int):=by rw[<-hr,e];simp
   obtain⟨k1,k2,k3,k4,k5⟩:=mM hV hxm;have hto:x.To.toNat<t.ah.toNat:=by omega
   have hlk:x.hZ.toNat<L.length:=by omega
   have i2:cC (bJ.hZ x) b.l.length=some x.hZ.toNat:=dO.2 ⟨by show x.hZ=_;omega,by rw[hb,aD];exact hlk⟩;have i1:cC (bJ.To x) (dV (bv t.ah.toNat c)).length=some x.To.toNat:=dO.2 ⟨by show x.To=_;omega,by rw[aD,cJ];exact hto⟩;refine(bX (a':=(((min z (P (wt L x.hZ) (c x.To.toNat)):Nat):Int),((A++[x]).length:Int))) ?_).trans (ih (A++[x]) _ (by rw[e];simp));simp only[lC];rw[decide_eq_true (by omega),cond_true,og hi,ae];simp only[ae];rw[hx,i2,ae,ii,i1,ae,hb,oP hlk,oP (by rw[cJ];exact hto),gM hto,B8 (hn _ (kQ hlk)) (hc _ hto),ae]
   have e2:(bif decide (((P (ab (gt L x.hZ.toNat)) (c x.To.toNat):Nat):Int)<(z:Int))then some ((P (ab (gt L x.hZ.toNat)) (c x.To.toNat):Nat):Int)else some (z:Int):Option Int)=some (((min z (P (wt L x.hZ) (c x.To.toNat)):Nat):Int)):=by
    show(bif decide (((P (wt L x.hZ) (c x.To.toNat):Nat):Int)<(z:Int))then some ((P (wt L x.hZ) (c x.To.toNat):Nat):Int)else some (z:Int):Option Int)=_;generalize P (wt L x.hZ) (c x.To.toNat)=p;by_cases h:p<z
    .rw [decide_eq_true (by omega),Nat.min_eq_right (by omega)];rfl
    .rw [decide_eq_false (by omega),Nat.min_eq_left (by omega)];rfl
   rw[e2,ae,vn (by omega),ap];rfl
 have:=key r.l [] (c i) rfl;rw[hr]at this;exact this
include hV hL hn in
theorem F9{b:Sl Int}(hb:b.l=dV L)(h2:t.bc.l.length<=12){g:Nat}(hg:g<t.ah.toNat):lF t b (g:Int)=some (Sl.mk (dV (bv t.ah.toNat (B (hO t L) g t.ah.toNat)))):=by
 obtain⟨s1,s2,s3⟩:=mU hV;have hok:KE t L=true:=by unfold KE;rw[decide_eq_true hV,eO,hL,beq_self_eq_true,eO];exact bg.2 fun x hx=>sN.2 (hn x hx)
 have hlk:=hV.wS;have hr:=vO (t:=t) hb (by omega) (by omega) h2;rw[hok]at hr;have hguard:(((!true)||(decide ((g:Int)<0)))||(decide ((g:Int)>=(ai.ah t))))=false:=by rw[decide_eq_false (show¬(g:Int)<0 by omega),decide_eq_false (show¬(g:Int)>=t.ah by omega)];rfl
 have hne:∀{f:Nat->Nat},dV (bv t.ah.toNat f)≠[]:=fun h=>by have:=congrArg List.length h;rw[aD,cJ]at this;simp at this;omega
 have hL1:aP (lE t) (0,Sl.nil)=some (Sl.mk (dV (bv t.ah.toNat fun _=>oh))):=by
  have:=Bx (f:=lE t) (bm t.ah.toNat) (fun _=>((oh:Nat):Int)) (fun i s hi hs=>by
   rw[cM]at hi;simp only[lE];rw[decide_eq_true (show(i:Int)<t.ah by omega),cond_true,iP.2 ⟨rfl,by rw[ap];simp;omega⟩,ae,vn (by omega)];rfl) (fun s=>by
   simp only[lE,cM];rw[decide_eq_false (show¬((t.ah.toNat:Nat):Int)<t.ah by omega),cond_false])
  rw[this];have e:(bm t.ah.toNat).map (fun _=>((oh:Nat):Int))=dV (bv t.ah.toNat fun _=>oh):=by rw[dV,bv,gr];rfl
  rw[e,pG hne]
 have hround:∀c:Nat->Nat,(∀i,i<t.ah.toNat->c i<=oh)->aP (ly t b (Sl.mk (dV (bv t.ah.toNat c)))) (0,Sl.nil)=some (Sl.mk (dV (bv t.ah.toNat (wB (hO t L) c)))):=by
  intro c hc
  have:=Bx (f:=ly t b (Sl.mk (dV (bv t.ah.toNat c)))) (bm t.ah.toNat) (fun i=>((wB (hO t L) c i:Nat):Int)) (fun i s hi hs=>by
   rw[cM]at hi;obtain⟨r,r1,r2⟩:=xV hV (i:Int);have hgr:gt (bm t.ah.toNat) i=i:=by rw[ju (by rw[cM];exact hi)];simp
   simp only[ly];rw[decide_eq_true (show(i:Int)<t.ah by omega),cond_true,ii,og (by rw[aD,cJ];exact hi),ae,r1,ae,oP (by rw[cJ];exact hi),gM hi,Ki hV hL hn hb hc r2,ae,iP.2 ⟨rfl,by rw[ap];simp;omega⟩,ae,vn (by omega),hgr]) (fun s=>by
   simp only[ly,cM];rw[decide_eq_false (show¬((t.ah.toNat:Nat):Int)<t.ah by omega),cond_false])
  rw[this];have e:(bm t.ah.toNat).map (fun i=>((wB (hO t L) c i:Nat):Int))=dV (bv t.ah.toNat (wB (hO t L) c)):=by rw[dV,bv,gr];rfl
  rw[e,pG hne]
 have hL4:=Bs (f:=lx t b) (fun k:Nat=>((k:Int),Sl.mk (dV (bv t.ah.toNat (B (hO t L) g k))))) t.ah.toNat (b:=Sl.mk (dV (bv t.ah.toNat (B (hO t L) g t.ah.toNat)))) (fun k hk=>by
  simp only[lx];rw[decide_eq_true (show(k:Int)<t.ah by omega),cond_true,hround _ (fun i _=>Vw k i),ae,vn (by omega)];rfl) (by
  simp only[lx];rw[decide_eq_false (show¬((t.ah.toNat:Nat):Int)<t.ah by omega),cond_false])
 unfold lF;have hset:(dV (bv t.ah.toNat fun _=>oh)).set g 0=dV (bv t.ah.toNat (B (hO t L) g 0)):=by have:(0:Int)=((0:Nat):Int):=rfl;rw[dV,this,<-List.map_set,mK hg];rfl
 rw[hr,ae,hguard,cond_false,hL1,ae,ii,og (by rw[aD,cJ];exact hg),ae,hset];have e4:aP (lx t b) (0,Sl.mk (dV (bv t.ah.toNat (B (hO t L) g 0))))=some (Sl.mk (dV (bv t.ah.toNat (B (hO t L) g t.ah.toNat)))):=hL4;rw[e4];rfl
end
end Go.Proofs.YtoekkpmeeclpeaaGreat.S
