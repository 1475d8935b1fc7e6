/- AgentTimes: no round is done ahead of its time, or when it is dead. Conditions: as stated. -/
import Derived.Test.YtjjajcecekocdaaGreatRF
open List renaming length_set->eg,mem_cons->aN,replicate->aA
open Option renaming bind_some->ah
open Option.some renaming inj->aa
open Go.Ev Go
namespace Go.Proofs.YtjjajcecekocdaaGreat.A
theorem Mv{now:Int}{a a':Ag}{L:List aZ}(h:wy now a L a'):∀k v,bV a'.cq k=some v->now<v:=by induction h with|It h=>exact h|Jw _ _ _ _ _ ih=>exact ih|AE _ _ _ _ _ _ ih=>exact ih
theorem Bm{now:Int}{a a':Ag}{L:List aZ}(hs:∀k v,bV a.cq k=some v->now<v)(h:wy now a L a'):L=[]/\a'=a:=by cases h with|It _=>exact⟨rfl,rfl⟩|Jw h1 h2 _ _ _=>have:=hs _ _ h1;omega|AE h1 h2 _ _ _ _=>have:=hs _ _ h1;omega
theorem EF{now:Int}{a a':Ag}{L:List aZ}(h:wy now a L a'):a'.sw=a.sw/\a'.aD=a.aD/\a'.up=a.up/\a'.cz=a.cz/\a'.u=a.u/\a'.fz=a.fz:=by induction h with|It h=>exact⟨rfl,rfl,rfl,rfl,rfl,rfl⟩|Jw _ _ _ _ _ ih=>exact ih|AE _ _ _ _ _ _ ih=>exact ih
theorem Z_{now:Int}{a a':Ag}{L:List aZ}(h:wy now a L a'):MI a.cq->(∀x∈L,∃v,bV a.cq x.2=some v/\v<=now)/\(∀k v,bV a'.cq k=some v->bV a.cq k=some v):=by
 induction h with
 |It h=>exact fun _=>⟨fun x hx=>(by simp at hx),fun k v hk=>hk⟩
 |@Jw a a' rd xM l w L h1 h2 _ _ _ ih=>
  intro hM;obtain⟨i1,i2⟩:=ih (Cw hM rd)
  have hsub:∀k v,bV (jF a.cq rd) k=some v->bV a.cq k=some v:=fun k v hk=>by
   rw[kx hM]at hk;split at hk
   .cases hk
   .exact hk
  refine⟨fun x hx=>?_,fun k v hk=>hsub k v (i2 k v hk)⟩;rcases aN.1 hx with rfl|hx
  .exact ⟨xM,h1,h2⟩
  .obtain ⟨v,j1,j2⟩:=i1 x hx;exact⟨v,hsub _ v j1,j2⟩
 |@AE a a' rd xM l w q L h1 h2 _ _ _ _ ih=>
  intro hM;obtain⟨i1,i2⟩:=ih (Cw hM rd)
  have hsub:∀k v,bV (jF a.cq rd) k=some v->bV a.cq k=some v:=fun k v hk=>by
   rw[kx hM]at hk;split at hk
   .cases hk
   .exact hk
  refine⟨fun x hx=>?_,fun k v hk=>hsub k v (i2 k v hk)⟩;rcases aN.1 hx with rfl|hx
  .exact ⟨xM,h1,h2⟩
  .obtain ⟨v,j1,j2⟩:=i1 x hx;exact⟨v,hsub _ v j1,j2⟩
structure Tk(a:Ag)(ar:List Bool)(xM:List Int)(de:List Bool):Prop where
 l1:ar.length=8
 l2:xM.length=8
 l3:de.length=8
 t:∀k v,bV a.cq k=some v->gt ar k.toNat=true/\gt xM k.toNat=v
 d:∀k:Nat,k<8->gt de k=true->(bV a.fz (k:Int)).isSome
abbrev fB:List Bool:=aA 8 false
abbrev fI:List Int:=aA 8 0
theorem aaj{k:Nat}:gt fB k=false:=by
 by_cases h:k<8
 .rw [gX (by simpa using h)];simp
 .unfold gt;rw[List.getD_eq_getElem?_getD,List.getElem?_eq_none (by simp;omega)];rfl
def Fl(ar:List Bool)(xM:List Int)(de:List Bool)(now:Int)(L:List aZ):Prop:=∀x∈L,(0<=x.2/\x.2<=7)/\(x.1=1->gt ar x.2.toNat=true/\gt xM x.2.toNat<=now/\gt de x.2.toNat=false)
theorem Z0{s:Sl aZ}{ar:Sl Bool}{xM:Sl Int}{de:Sl Bool}{now:Int}(hn:s.l.length<9223372036854775808)(h1:ar.l.length=8)(h2:xM.l.length=8)(h3:de.l.length=8)(h:Fl ar.l xM.l de.l now s.l):
  ZK s ar xM de now=some true:=by
 unfold ZK;rw[x9 (f:=ZL s ar xM de now) s.l.length hn (fun _=>True) () (fun i hi=>?_) (by simp only[ZL];rw[decide_eq_false (by omega),cond_false]),iC fun _ _=>trivial]
 .rfl
 .obtain ⟨⟨k1,k2⟩,k3⟩:=h _ (gy hi);rw[iC trivial,cond_true];simp only[ZL];rw[decide_eq_true (by omega),cond_true,cB hi];simp only[ah];generalize gt s.l i=x at k1 k2 k3;have hix:∀n,n=8->eX x.2 n=some x.2.toNat:=fun n hn=>jr.2 ⟨by omega,by omega⟩;rw[show decide (aZ.Rd x<0)=false from decide_eq_false (by show¬x.2<0;omega),show decide (aZ.Rd x>7)=false from decide_eq_false (by show¬x.2>7;omega)];simp only[Bool.or_self,cond_false];by_cases hx:x.1=1
  .obtain ⟨m1,m2,m3⟩:=k3 hx;rw[show(aZ.bh x==1)=true by simpa using hx,cond_true,hix _ h1];simp only[ah];rw[m1];simp only[Bool.not_true,cond_false];rw[hix _ h2];simp only[ah];rw[decide_eq_false (by omega),cond_false,hix _ h3];simp only[ah];rw[m3];rfl
  .rw [show(aZ.bh x==1)=false by simpa using hx,cond_false];rfl
theorem Tk.fl{a:Ag}(h:AI a){ar:List Bool}{xM:List Int}{de:List Bool}(ht:Tk a ar xM de){now:Int}{L:List aZ}(hL:∀x∈L,∃v,bV a.cq x.2=some v/\v<=now):Fl ar xM de now L:=fun x hx=>by obtain⟨v,h1,h2⟩:=hL x hx;have hr:=h.A.N9 x.2 (nf.1 ⟨v,h1⟩);obtain⟨t1,t2⟩:=ht.t _ _ h1;refine⟨by omega,fun _=>⟨t1,by omega,?_⟩⟩;cases hd:gt de x.2.toNat with|false=>rfl|true=>have:=ht.d _ (by omega) hd;rw[show((x.2.toNat:Nat):Int)=x.2 by omega]at this;obtain⟨y,hy⟩:=Option.isSome_iff_exists.1 this;obtain⟨l,hl⟩:=h.sa _ _ h1;rw[h.da _ _ hy]at hl;cases hl
theorem Tk.sub{a a':Ag}{ar:List Bool}{xM:List Int}{de:List Bool}(ht:Tk a ar xM de)(h1:∀k v,bV a'.cq k=some v->bV a.cq k=some v)(h2:∀k:Int,(bV a.fz k).isSome->(bV a'.fz k).isSome):Tk a' ar xM de:=⟨ht.l1,ht.l2,ht.l3,fun k v hk=>ht.t k v (h1 k v hk),fun k h8 hk=>h2 _ (ht.d k h8 hk)⟩
def kp{α:Type}(a:Ag)(u:Int)(x y:α):α:=if a.u<u then y else x
theorem aak{a:Ag}{ar:List Bool}{xM:List Int}{de:List Bool}(ht:Tk a ar xM de)(u:Int):Tk (a.lh u) (kp a u ar fB) (kp a u xM fI) (kp a u de fB):=by
 unfold Ag.lh kp;split
 .exact ⟨by simp,by simp,by simp,fun k v hk=>(by cases hk),fun k _ hk=>(by rw[aaj]at hk;cases hk)⟩
 .exact ht
structure Rc(a':Ag)(m x:ad)(ok:Bool)(ar:List Bool)(xM:List Int)(de:List Bool):Prop where
 no:¬(ok=true/\ad.bh x=7/\ad.Rd x<=7)->Tk a' ar xM de
 ZH:(ok=true/\ad.bh x=7/\ad.Rd x<=7)->∀(ar2:List Bool)(at2:List Int),((ad.Of x=4/\0<=ad.Rd x/\ad.Rd x∈mj a'.cq)->ar2=ar.set (ad.Rd x).toNat true/\at2=xM.set (ad.Rd x).toNat (ad.T2 m))->
  (¬(ad.Of x=4/\0<=ad.Rd x/\ad.Rd x∈mj a'.cq)->ar2=ar/\at2=xM)->∀de2:List Bool,de2.length=8->(ad.Of x≠5->de2=de)->(ad.Of x=5->∀i:Nat,i<8->gt de2 i=true->gt de i=true\/ad.Rd x=-1\/ad.Rd x=i)->Tk a' ar2 at2 de2
theorem Rc.of{a':Ag}{m x:ad}{ok:Bool}{ar:List Bool}{xM:List Int}{de:List Bool}(h:Tk a' ar xM de)(h1:ok=true->ad.bh x=7->ad.Of x≠4/\ad.Of x≠5):Rc a' m x ok ar xM de:=⟨fun _=>h,fun hy ar2 at2 _ e2 de2 _ e3 _=>by obtain⟨k1,k2⟩:=h1 hy.1 hy.2.1;obtain⟨rfl,rfl⟩:=e2 fun e=>k1 e.1;rw[e3 k2];exact h⟩
theorem E3(a':Ag)(m:ad)(e:Int):ad.bh (Ad a' m e)=(if e=0 then 7 else 8):=by unfold Ad;split<;>rfl
theorem CO(a':Ag)(m:ad)(e:Int):ad.Of (Ad a' m e)=ad.bh m:=by unfold Ad;split<;>rfl
theorem Nj(a':Ag)(m:ad)(e:Int):ad.Rd (Ad a' m e)=ad.Rd m:=by unfold Ad;split<;>rfl
theorem HV{α:Type}[Inhabited α]{l:List α}{k j:Nat}{x:α}(hk:k<l.length):gt (l.set k x) j=if k=j then x else gt l j:=sG hk
theorem aam{a0 a':Ag}{ar:List Bool}{xM:List Int}{de:List Bool}(ht:Tk a0 ar xM de){r T:Int}(hr:0<=r/\r<=7)(hM:MI a'.cq)(hd:a'.fz=a0.fz)
  (h:∀k v,bV a'.cq k=some v->(k=r/\v=T)\/(k≠r/\bV a0.cq k=some v)):Tk a' (ar.set r.toNat true) (xM.set r.toNat T) de:=by
 refine⟨by rw[eg];exact ht.l1,by rw[eg];exact ht.l2,ht.l3,fun k v hk=>?_,fun k h8 hk=>hd▸ht.d k h8 hk⟩;have hk8:=hM.N9 k (nf.1 ⟨v,hk⟩);rw[HV (by rw[ht.l1];omega),HV (by rw[ht.l2];omega)];rcases h k v hk with⟨rfl,rfl⟩|⟨h1,h2⟩
 .rw [if_pos rfl,if_pos rfl];exact⟨rfl,rfl⟩
 .rw [if_neg (by omega),if_neg (by omega)];exact ht.t k v h2
theorem aat{a:Ag}(h:AI a){now:Int}{m:ad}(hm:RP m){L:List aZ}{e:Int}{a':Ag}(hd:QI a now m L e a'){ar:List Bool}{xM:List Int}{de:List Bool}(ht:Tk a ar xM de):
  (a'.u=a.u\/(a.u<ad.U m/\a'.u=ad.U m))/\
  Rc a' m (Ad a' m e) true (bif a'.u==a.u then ar else fB) (bif a'.u==a.u then xM else fI) (bif a'.u==a.u then de else fB)/\∀x∈L,(0<=x.2/\x.2<=7)/\x.1=2:=by
 have hup:=aak ht (ad.U m);have hu0:(a.lh (ad.U m)).u=if a.u<ad.U m then ad.U m else a.u:=by unfold Ag.lh;split<;>rfl
 have hor:(a.lh (ad.U m)).u=a.u\/(a.u<ad.U m/\(a.lh (ad.U m)).u=ad.U m):=by
  rw[hu0];split
  .rename_i h;exact .inr ⟨h,rfl⟩
  .exact .inl rfl
 have hkp:∀{α:Type}(x y:α),kp a (ad.U m) x y=(bif(a.lh (ad.U m)).u==a.u then x else y):=fun x y=>by
  rw[hu0];unfold kp;by_cases hlt:a.u<ad.U m
  .rw [if_pos hlt,if_pos hlt,show(ad.U m==a.u)=false by rw[beq_eq_false_iff_ne];omega];rfl
  .rw [if_neg hlt,if_neg hlt,show(a.u==a.u)=true by simp];rfl
 simp only[hkp]at hup;cases hd with
 |old ho=>refine⟨.inl rfl,?_,fun x hx=>by simp at hx⟩;rw[show(a.u==a.u)=true by simp];exact .of ht fun _ hk=>by rw[E3]at hk;simp at hk
 |Qa ho hk=>
  have hsame:(gE (a.lh (ad.U m)) m).2.u=(a.lh (ad.U m)).u/\(gE (a.lh (ad.U m)) m).2.cq=(a.lh (ad.U m)).cq/\(gE (a.lh (ad.U m)) m).2.fz=(a.lh (ad.U m)).fz:=by
   unfold gE;split
   .exact ⟨rfl,rfl,rfl⟩
   split
   .exact ⟨rfl,rfl,rfl⟩
   split
   .exact ⟨rfl,rfl,rfl⟩
   split<;>exact⟨rfl,rfl,rfl⟩
  rw[hsame.1];refine⟨hor,.of (hup.sub (fun k v hk=>hsame.2.1▸hk) (fun k hk=>hsame.2.2▸hk)) fun _ _=>by rw[CO,hk];decide,fun x hx=>by simp at hx⟩
 |Zm ho hk=>
  have hrd:=hm.rd (.inr hk);obtain⟨_,hI2⟩:=SV (h.lh (u:=ad.U m) (by have:=hm.u (by omega);omega)) (now:=now) hm hrd;have hI:=h.lh (u:=ad.U m) (by have:=hm.u (by omega);omega);generalize a.lh (ad.U m)=a0 at*
  have hsame:(x5 a0 now m).2.u=a0.u/\(x5 a0 now m).2.fz=a0.fz:=by
   unfold x5;split
   .exact ⟨rfl,rfl⟩
   split
   .exact ⟨rfl,rfl⟩
   split
   .exact ⟨rfl,rfl⟩
   split
   .exact ⟨rfl,rfl⟩
   split<;>exact⟨rfl,rfl⟩
  have hcase:(x5 a0 now m).2.cq=a0.cq/\((x5 a0 now m).1=0->∀v,bV a0.cq (ad.Rd m)=some v->v=ad.T2 m)\/(x5 a0 now m).2.cq=gW a0.cq (ad.Rd m) (ad.T2 m)/\(x5 a0 now m).1=0:=by
   unfold x5;split
   .exact .inl ⟨rfl,fun e=>by simp at e⟩
   split
   .rename_i hD;refine .inl ⟨rfl,fun _ v hv=>?_⟩;obtain⟨d,hd1,hd2⟩:=hD;obtain⟨l,hl⟩:=hI.sa _ _ hv;rw[<-hd2,(hI.dr d hd1).2]at hl;cases hl
   split
   .exact .inl ⟨rfl,fun e=>by simp at e⟩
   split
   .rename_i v hv;refine .inl ⟨rfl,fun e v' hv'=>?_⟩;rw[hv]at hv';obtain rfl:=aa hv';by_cases e2:v=ad.T2 m
    .exact e2
    .simp [e2]at e
   split
   .exact .inl ⟨rfl,fun e=>by simp at e⟩
   .exact .inr ⟨rfl,rfl⟩
  rw[hsame.1];refine⟨hor,?_,fun x hx=>by simp at hx⟩;generalize(bif a0.u==a.u then ar else fB)=ar1 at hup;generalize(bif a0.u==a.u then xM else fI)=at1 at hup;generalize(bif a0.u==a.u then de else fB)=de1 at hup;by_cases he:(x5 a0 now m).1=0
  .refine ⟨fun hn=>absurd ⟨rfl,by rw[E3,if_pos he],by rw[Nj];exact hrd.2⟩ hn,fun _ ar2 at2 e1 e2 de2 _ e3 _=>?_⟩;rw[e3 (by rw[CO,hk];decide)];rw[CO,Nj]at e1 e2
   have hfind:∀k v,bV (x5 a0 now m).2.cq k=some v->(k=ad.Rd m/\v=ad.T2 m)\/(k≠ad.Rd m/\bV a0.cq k=some v):=fun k v hkv=>by
    rcases hcase with⟨c1,c2⟩|⟨c1,_⟩
    .rw [c1]at hkv;by_cases hkr:k=ad.Rd m
     .exact .inl ⟨hkr,c2 he v (hkr▸hkv)⟩
     .exact .inr ⟨hkr,hkv⟩
    .rw [c1,lA]at hkv;split at hkv
     .rename_i hkr;exact .inl ⟨hkr,(aa hkv).symm⟩
     .rename_i hkr;exact .inr ⟨hkr,hkv⟩
   by_cases hin:ad.Rd m∈mj (x5 a0 now m).2.cq
   .obtain ⟨rfl,rfl⟩:=e1 ⟨hk,hrd.1,hin⟩;exact aam hup hrd hI2.A hsame.2 hfind
   .obtain ⟨rfl,rfl⟩:=e2 fun e=>hin e.2.2;refine hup.sub (fun k v hkv=>?_) fun k hkd=>hsame.2▸hkd;rcases hfind k v hkv with⟨c1,_⟩|⟨_,c2⟩
    .exact absurd (c1▸nf.1 ⟨v,hkv⟩) hin
    .exact c2
  .refine .of (hup.sub (fun k v hkv=>?_) fun k hkd=>hsame.2▸hkd) fun _ hk7=>by rw[E3,if_neg he]at hk7;simp at hk7
   rcases hcase with⟨c1,_⟩|⟨_,c2⟩
   .exact c1▸hkv
   .exact absurd c2 he
 |To ho hk hU=>
  have hrd:=hm.Zx hk;have hI:=h.lh (u:=ad.U m) (by have:=hm.u (by omega);omega);generalize a.lh (ad.U m)=a0 at*;cases hU with
  |all h0 hd htb hs ha hall e1 e2 e3 e4 e5 hL=>
   rw[e5];refine⟨hor,⟨fun hn=>absurd ⟨rfl,by rw[E3];rfl,by rw[Nj];omega⟩ hn,fun _ ar2 at2 _ f2 de2 f3 _ _=>?_⟩,fun x hx=>?_⟩
   .obtain ⟨rfl,rfl⟩:=f2 fun e=>by rw[CO,hk]at e;exact absurd e.1 (by decide)
    refine⟨hup.l1,hup.l2,f3,fun k v hkv=>?_,fun k h8 _=>hall k (by omega) (by omega)⟩;rw[ha]at hkv;cases hkv
   .rw [hL]at hx;obtain⟨d,hd1,rfl⟩:=List.mem_map.1 hx;have:=(hI.dr d (List.mem_reverse.1 hd1)).1;exact⟨by show 0<=d.1/\d.1<=7;omega,rfl⟩
  |no h0 hd hD hx=>exact⟨hor,.of hup fun _ hk7=>by rw[E3]at hk7;simp at hk7,fun x hx=>by simp at hx⟩
  |@RM x d w h0 hd hx hl=>
   refine⟨hor,⟨fun hn=>absurd ⟨rfl,by rw[E3];rfl,by rw[Nj];omega⟩ hn,fun _ ar2 at2 _ f2 de2 f3 _ f5=>?_⟩,fun y hy=>?_⟩
   .obtain ⟨rfl,rfl⟩:=f2 fun e=>by rw[CO,hk]at e;exact absurd e.1 (by decide)
    refine⟨hup.l1,hup.l2,f3,fun k v hkv=>?_,fun k h8 hk1=>?_⟩
    .have hkv:bV (jF a0.cq (ad.Rd m)) k=some v:=hkv;rw[kx hI.A]at hkv;split at hkv
     .cases hkv
     .exact hup.t k v hkv
    .show (bV (gW a0.fz (ad.Rd m) a0.u) k).isSome;rw[lA];split
     .rfl
     .rename_i hne;rcases f5 (by rw[CO,hk]) k h8 hk1 with g|g|g
      .exact hup.d k h8 g
      .rw [Nj]at g;omega
      .rw [Nj]at g;exact absurd g.symm hne
   .obtain rfl:=List.mem_singleton.1 hy;exact⟨by show 0<=ad.Rd m/\ad.Rd m<=7;omega,rfl⟩
  |@oA w h0 hD=>
   refine⟨hor,⟨fun hn=>absurd ⟨rfl,by rw[E3];rfl,by rw[Nj];omega⟩ hn,fun _ ar2 at2 _ f2 de2 f3 _ f5=>?_⟩,fun y hy=>by simp at hy⟩;obtain⟨rfl,rfl⟩:=f2 fun e=>by rw[CO,hk]at e;exact absurd e.1 (by decide)
   refine⟨hup.l1,hup.l2,f3,fun k v hkv=>?_,fun k h8 hk1=>?_⟩
   .have hkv:bV (jF a0.cq (ad.Rd m)) k=some v:=hkv;rw[kx hI.A]at hkv;split at hkv
    .cases hkv
    .exact hup.t k v hkv
   .show (bV (gW a0.fz (ad.Rd m) a0.u) k).isSome;rw[lA];split
    .rfl
    .rename_i hne;rcases f5 (by rw[CO,hk]) k h8 hk1 with g|g|g
     .exact hup.d k h8 g
     .rw [Nj]at g;omega
     .rw [Nj]at g;exact absurd g.symm hne
 |MV ho hk he=>exact⟨hor,.of hup fun _ _=>by rw[CO,hk];decide,fun x hx=>by simp at hx⟩
end Go.Proofs.YtjjajcecekocdaaGreat.A
