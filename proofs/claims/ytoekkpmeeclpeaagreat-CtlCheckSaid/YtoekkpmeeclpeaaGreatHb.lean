/- Whether all switches are reached: the program's and the document's. Conditions: a topology that may be. -/
import Derived.Test.YtoekkpmeeclpeaaGreatHa
open Int renaming lt_trichotomy->jC
open List renaming getElem?_eq_getElem->ao,getElem_of_mem->b_,map_append->fU,mem_of_getElem?->aF,range->bm,range_succ->mP
open Nat renaming zero_le->cY
open Option renaming bind_some->ae
open Option.some renaming inj->aa
open Go.Ev Go
namespace Go.Proofs.YtoekkpmeeclpeaaGreat.S
section
variable{t:ai}{u:Int}{d:List Int}
theorem oJ.yv(h:oJ t u d){s:Nat}(hs:u=s)(hl:s<d.length):gt d s=0:=by have:=h.Jg 0 s hl (hs▸.zero _);omega
theorem oJ.zero(h:oJ t u d){v:Nat}(hl:v<d.length)(h0:gt d v=0):u=v:=by have:=h.D_ v hl (by omega);rw[h0]at this;cases this;rfl
theorem oJ.next(h:oJ t u d){v w:Nat}(hv:v<d.length)(hw:w<d.length)(h0:0<=gt d v)(ha:JN t v w):0<=gt d w/\gt d w<=gt d v+1:=by have:=h.Jg ((gt d v).toNat+1) w hw (.ld (h.D_ v hv h0) ha);omega
end
theorem HO{t:ai}(hV:gi t){sw:Int}(h:0<=sw/\sw<t.ah):∃s:Sl Int,pV t sw=some s/\oJ t sw s.l:=
 let⟨d,h1,h2⟩:=KZ hV h
 ⟨.mk d,h1,h2⟩
def uh(n:Int)(s:Sl Int)(x y:Nat):Sl Int:=if gt s.l x=n/\gt s.l y=-1 then .mk (s.l.set y (n+1))else s
theorem FL{n:Int}{s:Sl Int}{x y:Nat}(hx:x<s.l.length)(hy:y<s.l.length)(hw:wr .i64 (n+1)=n+1):
  (((cC (x:Int) s.l.length).bind fun n22=>
   bif((gt s.l n22)==n)then((cC (y:Int) s.l.length).bind fun n23=>
   some ((gt s.l n23)==(-1)))else
   (some false):Option Bool).bind fun b24=>
   bif b24 then((cC (y:Int) s.l.length).bind fun n25=>
   some (Sl.mk (s.l.set n25 (wr .i64 (n+1)))))else
   (some s):Option (Sl Int))=some (uh n s x y):=by
 simp only[dA hx,dA hy,ae,hw,uh];by_cases h1:gt s.l x=n
 .by_cases h2:gt s.l y=-1
  .rw [if_pos ⟨h1,h2⟩,h1,h2];simp
  .rw [if_neg fun h=>h2 h.2,h1];have:(gt s.l y==-1)=false:=by simpa using h2
   simp[this]
 .rw [if_neg fun h=>h1 h.1];have:(gt s.l x==n)=false:=by simpa using h1
  simp[this]
def YT(d:List Int)(n:Nat)(l:List Int):Prop:=l.length=d.length/\∀v:Nat,v<d.length->(gt d v<=n->gt l v=gt d v)/\((n:Int)+1<gt d v->gt l v=-1)/\(gt d v=n+1->gt l v=-1\/gt l v=n+1)
theorem FM{t:ai}{u:Int}{d:List Int}(hD:oJ t u d){n:Nat}{s:Sl Int}(hM:YT d n s.l){x y:Nat}(hx:x<d.length)(hy:y<d.length)(ha:JN t x y):
  YT d n (uh n s x y).l/\(gt d x=n->gt d y=n+1->gt (uh n s x y).l y=n+1)/\∀v:Nat,0<=gt s.l v->gt (uh n s x y).l v=gt s.l v:=by
 have mx:=hM.2 x hx;have my:=hM.2 y hy;unfold uh;by_cases h:gt s.l x=n/\gt s.l y=-1
 .rw [if_pos h]
  have hdx:gt d x=n:=by
   have:=hD.lo x hx;rcases jC (gt d x) ((n:Int)+1)with h1|h1|h1
   .have:=mx.1 (by omega);omega
   .have:=mx.2.2 h1;omega
   .have:=mx.2.1 h1;omega
  have hn:=hD.next hx hy (by omega) ha
  have hdy:gt d y=n+1:=by
   rcases jC (gt d y) ((n:Int)+1)with h1|h1|h1
   .have:=my.1 (by omega);omega
   .exact h1
   .omega
  have hg:∀v:Nat,gt (s.l.set y ((n:Int)+1)) v=if y=v then(n:Int)+1 else gt s.l v:=fun v=>Du (by rw[hM.1];exact hy);simp only[p_];refine⟨⟨by rw[List.length_set];exact hM.1,fun v hv=>?_⟩,fun _ _=>by rw[hg,if_pos rfl],fun v hv=>?_⟩
  .rw [hg];split
   .rename_i e;subst e;exact⟨fun h=>by omega,fun h=>by omega,fun _=>.inr rfl⟩
   .exact hM.2 v hv
  .rw [hg,if_neg];rintro rfl;omega
 .rw [if_neg h];refine⟨hM,fun h1 h2=>?_,fun v _=>rfl⟩;have:=mx.1 (by omega);have:=my.2.2 h2;omega
def TZ(d:List Int)(n:Nat)(l:List Int):Prop:=l.length=d.length/\∀v:Nat,v<d.length->gt l v=if gt d v<=n then gt d v else-1
theorem Kj{t:ai}(hV:gi t){u:Int}{d:List Int}(hD:oJ t u d){n:Nat}(hn:n<100){s:Sl Int}(hR:TZ d n s.l):∃s',aP (mA t (n:Int)) (0,s)=some s'/\TZ d (n+1) s'.l:=by
 have e0:((0:Nat):Int)=0:=rfl;have hl:=hV.wS
 refine FQ (f:=mA t (n:Int)) (fun i(s:Sl Int)=>((i:Int),s)) t.aE.l.length
  (fun i s=>YT d n s.l/\∀l∈t.aE.l.take i,∀x y:Nat,((l.A=x/\l.B=y)\/(l.B=x/\l.A=y))->gt d x=n->gt d y=n+1->gt s.l y=n+1) (fun s=>TZ d (n+1) s.l) ?_ ?_ 0 s (cY _)
  ⟨⟨hR.1,fun v hv=>?_⟩,fun l hl=>by simp at hl⟩ (fun b q1 q2=>⟨b,by rw[e0]at q1;exact q1,q2⟩)
 .rintro i s hi ⟨hM,hp⟩;left;have hm:gt t.aE.l i∈t.aE.l:=by rw[ju hi];exact List.getElem_mem _
  obtain⟨hA,hB⟩:=Je hV hm;obtain⟨x,hx⟩:∃x:Nat,(gt t.aE.l i).A=(x:Int):=⟨(gt t.aE.l i).A.toNat,by omega⟩
  obtain⟨y,hy⟩:∃y:Nat,(gt t.aE.l i).B=(y:Int):=⟨(gt t.aE.l i).B.toNat,by omega⟩
  have hdl:=hD.len;have hxd:x<d.length:=by omega
  have hyd:y<d.length:=by omega
  have ha:JN t x y:=⟨_,hm,.inl ⟨hx,hy⟩⟩
  have hw:wr .i64 ((n:Int)+1)=(n:Int)+1:=tK (by omega) (by omega);obtain⟨m1,m2,m3⟩:=FM hD hM hxd hyd ha;obtain⟨k1,k2,k3⟩:=FM hD m1 hyd hxd ha.symm;have r1:=FL (n:=(n:Int)) (s:=s) (x:=x) (y:=y) (by rw[hM.1];exact hxd) (by rw[hM.1];exact hyd) hw;have r2:=FL (n:=(n:Int)) (s:=uh n s x y) (x:=y) (y:=x) (by rw[m1.1];exact hyd) (by rw[m1.1];exact hxd) hw;refine⟨uh n (uh n s x y) y x,by simp only[mA,nm hi,cond_true,dA hi,ae,hx,hy,r1,r2,u_ (show i<9223372036854775807 by omega)],k1,fun l hlm p q hpq h1 h2=>?_⟩;have et:t.aE.l.take (i+1)=t.aE.l.take i++[gt t.aE.l i]:=by rw[ju hi,List.take_append_getElem hi]
  rw[et]at hlm;rcases List.mem_append.1 hlm with hlm|hlm
  .have:=hp l hlm p q hpq h1 h2;have e1:=m3 q (by omega);have e2:=k3 q (by omega);omega
  .obtain rfl:=List.mem_singleton.1 hlm;rcases hpq with⟨h3,h4⟩|⟨h3,h4⟩
   .obtain rfl:x=p:=by omega
    obtain rfl:y=q:=by omega
    have:=m2 h1 h2;rw[k3 y (by omega)];exact this
   .obtain rfl:y=p:=by omega
    obtain rfl:x=q:=by omega
    exact k2 h1 h2
 .rintro s ⟨hM,hp⟩;rw[List.take_length]at hp;refine⟨s,by simp only[mA,qw,cond_false],hM.1,fun v hv=>?_⟩;have mv:=hM.2 v hv;have hlo:=hD.lo v hv;by_cases h1:gt d v<=n
  .rw [if_pos (by omega)];exact mv.1 h1
  .by_cases h2:gt d v=n+1
   .rw [if_pos (by omega),h2];have hwk:=hD.D_ v hv (by omega);have e:(gt d v).toNat=n+1:=by omega
    rw[e]at hwk;cases hwk with
    |@ld _ _ w _ hw ha=>
     have hwm:=ha.symm.xW hV;have hdl:=hD.len;obtain⟨x,rfl⟩:∃x:Nat,w=(x:Int):=⟨w.toNat,by omega⟩
     have hxd:x<d.length:=by omega
     have h3:=hD.Jg n x hxd hw;have h4:=hD.next hxd hv h3.1 ha;obtain⟨l,hlm,hl2⟩:=ha;exact hp l hlm x v hl2 (by omega) h2
   .rw [if_neg (by omega)];exact mv.2.1 (by omega)
 .have:=hR.2 v hv;have hlo:=hD.lo v hv;refine⟨fun h=>by rw[this,if_pos h],fun h=>by rw[this,if_neg (by omega)],fun h=>.inl (by rw[this,if_neg (by omega)])⟩
theorem MB{t:ai}(hV:gi t){u:Int}{d:List Int}(hD:oJ t u d):∃s,sI t u=some s/\s.l=d:=by
 have e0:((0:Nat):Int)=0:=rfl;have hS:=hV.sw;have hlen:=hD.len
 have h1:∃s:Sl Int,aP (kK t u) (0,Sl.nil)=some s/\s.l=(bm d.length).map (fun j:Nat=>if(j:Int)=u then(0:Int)else-1):=by
  refine FQ (f:=kK t u) (fun i(s:Sl Int)=>((i:Int),s)) d.length (fun i s=>s.l=(bm i).map (fun j:Nat=>if(j:Int)=u then(0:Int)else-1)) (fun s=>s.l=(bm d.length).map (fun j:Nat=>if(j:Int)=u then(0:Int)else-1)) ?_ ?_ 0 .nil (cY _) rfl (fun b q1 q2=>⟨b,by rw[e0]at q1;exact q1,q2⟩)
  .intro i s hi hs;left;have hd:decide ((i:Int)<t.ah)=true:=decide_eq_true (by omega);have hcap:∀z:Int,kc (s.l++[z])=some (s.l++[z]):=fun z=>u4 (by rw[hs];simp;omega);by_cases hc:(i:Int)=u
   .have hb:((i:Int)==u)=true:=by simpa using hc
    refine⟨.mk (s.l++[0]),by simp only[kK,hd,cond_true,hb,hcap,ae,u_ (show i<9223372036854775807 by omega)],?_⟩;rw[p_,hs,mP,fU];simp[hc]
   .have hb:((i:Int)==u)=false:=by simpa using hc
    refine⟨.mk (s.l++[-1]),by simp only[kK,hd,cond_true,hb,cond_false,hcap,ae,u_ (show i<9223372036854775807 by omega)],?_⟩;rw[p_,hs,mP,fU];simp[hc]
  .intro s hs;have hd:decide ((d.length:Int)<t.ah)=false:=decide_eq_false (by omega);exact⟨s,by simp only[kK,hd,cond_false],hs⟩
 obtain⟨s0,h1,hs0⟩:=h1
 have hR0:TZ d 0 s0.l:=by
  refine⟨by rw[hs0];simp,fun v hv=>?_⟩;have hg:gt s0.l v=if(v:Int)=u then 0 else-1:=by rw[hs0,ju (by simpa using hv)];simp
  have hlo:=hD.lo v hv;rw[hg];by_cases hc:(v:Int)=u
  .rw [if_pos hc,hD.yv hc.symm hv];rfl
  .rw [if_neg hc];have:gt d v≠0:=fun h=>hc (hD.zero hv h).symm;split<;>omega
 have h2:∃s:Sl Int,aP (mz t) (0,s0)=some s/\TZ d d.length s.l:=by
  refine FQ (f:=mz t) (fun i(s:Sl Int)=>((i:Int),s)) d.length (fun i s=>TZ d i s.l) (fun s=>TZ d d.length s.l) ?_ ?_ 0 s0 (cY _) hR0 (fun b q1 q2=>⟨b,by rw[e0]at q1;exact q1,q2⟩)
  .intro i s hi hR;left;have hd:decide ((i:Int)<t.ah)=true:=decide_eq_true (by omega);obtain⟨s',k1,k2⟩:=Kj hV hD (n:=i) (by omega) hR;exact⟨s',by simp only[mz,hd,cond_true,k1,ae,u_ (show i<9223372036854775807 by omega)],k2⟩
  .intro s hR;have hd:decide ((d.length:Int)<t.ah)=false:=decide_eq_false (by omega);exact⟨s,by simp only[mz,hd,cond_false],hR⟩
 obtain⟨s,h2,hR⟩:=h2;refine⟨s,by simp only[sI,h1,ae,h2],?_⟩;refine List.ext_getElem hR.1 fun v h3 h4=>?_;have:=hR.2 v h4;have hlo:=hD.lo v h4;rw[if_pos (by omega),ju h3,ju h4]at this;exact this
theorem sh{t:ai}(hV:gi t):∃s:Sl Int,pV t 0=some s/\oJ t 0 s.l/\oq t=some (decide (∀x∈s.l,0<=x)):=by
 have hS:=hV.sw;obtain⟨s,h1,h2⟩:=HO hV (sw:=0) ⟨by omega,by omega⟩;have hlen:=h2.len
 have h3:=tU (f:=dK s (-1)) s.l (fun i x=>if x=-1 then some (i:Int)else none) () (by omega) (fun i hi=>by
  simp only[dK,nm hi,cond_true,dA hi,ae];by_cases hc:gt s.l i=-1
  .rw [if_pos hc,hc];rfl
  .have:((-1:Int)==gt s.l i)=false:=by simpa using fun h=>hc h.symm
   rw[if_neg hc,this];rfl) (by simp only[dK,qw,cond_false])
 refine⟨s,h1,h2,?_⟩;simp only[oq,h1,ae,dL,jo,h3]
 have hall:(∀x∈s.l,0<=x)<->j9 (fun i x=>if x=(-1:Int)then some (i:Int)else none) s.l 0=none:=by
  rw[ou];constructor
  .intro h j x hj;have:=h x (aF hj);rw[if_neg (by omega)]
  .intro h x hx;obtain⟨j,hj,rfl⟩:=b_ hx;have h4:=h j s.l[j] (ao hj);have h5:=(h2.lo j hj).1;rw[ju hj]at h5;split at h4
   .simp at h4
   .omega
 cases hc:j9 (fun i x=>if x=(-1:Int)then some (i:Int)else none) s.l 0 with
 |none=>rw[decide_eq_true (hall.2 hc)];rfl
 |some q=>
  obtain⟨j,x,_,h5,_⟩:=jP hc
  have hq:q=(j:Int):=by
   simp only[Nat.zero_add]at h5;split at h5
   .simpa using h5.symm
   .simp at h5
  rw[decide_eq_false (fun h=>by rw[hall.1 h]at hc;simp at hc)];simp only[hq,ae];have:decide ((j:Int)>=0)=true:=decide_eq_true (by omega);rw[this];rfl
theorem D8{t:ai}(hV:gi t):oV t=oq t:=by
 obtain⟨s,h1,h2,h3⟩:=sh hV;obtain⟨r,h4,h5⟩:=MB hV h2;have hS:=hV.sw;have hlen:=h2.len;rw[h3];unfold oV;rw[h4];simp only[ae]
 have hq:=tU (f:=nD r) r.l (fun _ x=>if x<0 then some false else none) () (by rw[h5];omega) (fun i hi=>by
  simp only[nD,nm hi,cond_true,dA hi,ae];by_cases hc:gt r.l i<0
  .rw [if_pos hc,decide_eq_true hc];rfl
  .rw [if_neg hc,decide_eq_false hc];rfl) (by simp only[nD,qw,cond_false])
 rw[hq,h5];cases hc:j9 (fun _ x=>if x<(0:Int)then some false else none) s.l 0 with
 |none=>
  rw[decide_eq_true]
  .rfl
  .intro x hx;obtain⟨j,hj,rfl⟩:=b_ hx;have:=ou.1 hc j s.l[j] (ao hj);split at this
   .cases this
   .omega
 |some q=>
  obtain⟨j,x,hj,h6,_⟩:=jP hc;split at h6
  .rename_i hx;obtain rfl:=aa h6;rw[decide_eq_false]
   .rfl
   .intro h;have:=h x (aF hj);omega
  .cases h6
end Go.Proofs.YtoekkpmeeclpeaaGreat.S
