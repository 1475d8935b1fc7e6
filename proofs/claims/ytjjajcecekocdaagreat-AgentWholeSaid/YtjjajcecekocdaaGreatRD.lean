/- What an agent does with a message. Conditions: as stated. -/
import Derived.Test.YtjjajcecekocdaaGreatRP
open Bool renaming false_eq_true->aH,false_or->j6
open Option renaming bind_some->ah,getD_some->bF,isSome_some->jt
open Option.some renaming inj->aa
open Go.Ev Go
open Go.Ev.HeapM (Hp)
noncomputable section
namespace Go.Proofs.YtjjajcecekocdaaGreat.A
def Dn(a:Ag)(rd:Int):Prop:=∃d∈a.done.l,d.1=rd
theorem LO{a:Ag}(h:AI a)(rd:Int):kA a.sw a.aD a.up a.cz a.u a.bU a.bm a.cq a.fT a.done a.fz rd=some (tt (Dn a rd),a.t):=by
 have hn:=h.zO;unfold kA c8 dp;rw[Cg (l:=a.done.l) (f:=ci a.done rd) (by omega) (fun d=>d.1==rd) () (fun i hi=>?_) (by simp only[ci];rw[decide_eq_false (by omega),cond_false])]
 .have e:decide ((fi a.done.l fun d=>d.1==rd)>=0)=tt (Dn a rd):=by rw[HY];exact cJ ⟨fun⟨d,h1,h2⟩=>⟨d,h1,by simpa using h2⟩,fun⟨d,h1,h2⟩=>⟨d,h1,by simpa using h2⟩⟩
  rw[<-e];unfold fi;cases a.done.l.findIdx? (fun d=>d.1==rd)<;>rfl
 .simp only[ci];rw[decide_eq_true (by omega),cond_true,cB hi];simp only[ah,oH];show(bif(gt a.done.l i).1==rd then _ else _)=_;cases((gt a.done.l i).1==rd)<;>rfl
theorem D9{a:Ag}(h:AI a)(rd:Int):jL a.sw a.aD a.up a.cz a.u a.bU a.bm a.cq a.fT a.done a.fz rd=
  some (if(bV a.fz rd).isSome then 16 else 0,(bV a.fz rd).isSome||tt (Dn a rd),a.t):=by
 unfold jL;rw[rF];cases(bV a.fz rd).isSome with|true=>rfl|false=>rw[cond_false,LO h];rfl
open Classical in
def gE(a:Ag)(m:ad):Int×Ag:=
 if(bV a.fz (ad.Rd m)).isSome then(16,a)else if Dn a (ad.Rd m)then(0,a)else
 match bV a.bm (ad.Rd m)with|some l=>(if l.l.map qJ=(ad.gi m).l.map qJ then 0 else 8,a)|none=>if(md a.bU a.aD (ad.gi m).l).2.2=0 then(0,{a with bm:=gW a.bm (ad.Rd m) (ad.gi m)})else((md a.bU a.aD (ad.gi m).l).2.2,a)
theorem JW{t:Sl ai}(hn:t.l.length<=2147483648):gq t=some t:=by unfold gq;cases t with|nil=>rfl|mk l=>rw[List.nil_append,show(Sl.mk l).fF=false from rfl,cond_false,ZJ hn];cases l<;>rfl
theorem KA{a:Ag}(h:AI a){m:ad}(hl:(ad.gi m).l.length<=16)(hf:∀x∈(ad.gi m).l,rX x):
  lq a.sw a.aD a.up a.cz a.u a.bU a.bm a.cq a.fT a.done a.fz m=some ((gE a m).1,(gE a m).2.t):=by
 unfold lq gE;rw[D9 h];simp only[ah];cases hd:(bV a.fz (ad.Rd m)).isSome with
 |true=>simp
 |false=>
  simp only[j6,aH,if_false];by_cases hD:Dn a (ad.Rd m)
  .rw [iC hD,cond_true,if_pos hD]
  .rw [eI hD,cond_false,if_neg hD,rF];cases hs:bV a.bm (ad.Rd m)with
   |some l=>
    obtain⟨h1,h2⟩:=h.sm _ _ hs;simp only[jt,cond_true];rw[rG,hs,bF,B7 l _ (by omega) fun x hx=>(h2 x hx).2];simp only[ah];by_cases he:l.l.map qJ=(ad.gi m).l.map qJ
    .rw [iC he,if_pos he];rfl
    .rw [eI he,if_neg he];rfl
   |none=>
    simp only[Option.isSome_none,cond_false];obtain⟨b,hb1,hb2⟩:=Qh hl fun x hx=>(hf x hx).2;rw[hb1];simp only[ah];rw[EQ hb2 hl h.tl h.T hf];simp only[ah];by_cases he:(md a.bU a.aD (ad.gi m).l).2.2=0
    .rw [he,if_pos rfl,show((0:Int) !=0)=false from rfl,cond_false,JW (by omega)];rfl
    .rw [if_neg he,show((md a.bU a.aD (ad.gi m).l).2.2 !=0)=true by simpa using he,cond_true]
theorem Df{a:Ag}(h:AI a){m:ad}(hl:(ad.gi m).l.length<=16)(hf:∀x∈(ad.gi m).l,rX x)(hr:0<=ad.Rd m/\ad.Rd m<=7):AI (gE a m).2:=by
 unfold gE;split
 .exact h
 rename_i hd;have hdn:bV a.fz (ad.Rd m)=none:=by cases e:bV a.fz (ad.Rd m)<;>simp[e]at hd|-
 split
 .exact h
 rename_i hD;split
 .exact h
 rename_i hs;split
 .exact {
   rm:=h.rm,T:=h.T,S:=BI h.S hr.1 (by omega) _,A:=h.A,D:=h.D
   sa:=fun k v hk=>by
    show∃l,bV (gW a.bm _ _) k=some l;rw[lA];split
    .exact ⟨_,rfl⟩
    .exact h.sa k v hk
   tm:=h.tm,H:=h.H,W:=h.W
   sm:=fun k l hk=>by
    have hk:bV (gW a.bm (ad.Rd m) (ad.gi m)) k=some l:=hk;rw[lA]at hk;split at hk
    .obtain rfl:=aa hk;exact⟨hl,hf⟩
    .exact h.sm k l hk
   dr:=fun d hd=>⟨(h.dr d hd).1,by show bV (gW a.bm _ _) d.1=none;rw[lA,if_neg fun e=>hD ⟨d,hd,e⟩];exact(h.dr d hd).2⟩
   dd:=h.dd,db:=h.db
   da:=fun k x hk=>by show bV (gW a.bm _ _) k=none;rw[lA,if_neg fun e=>by rw[e,hdn]at hk;cases hk];exact h.da k x hk
   lf:=h.lf,uu:=h.uu}
 .exact h
open Classical in
def x5(a:Ag)(now:Int)(m:ad):Int×Ag:=
 if(bV a.fz (ad.Rd m)).isSome then(16,a)else if Dn a (ad.Rd m)then(0,a)else
 if bV a.bm (ad.Rd m)=none then(7,a)else
 match bV a.cq (ad.Rd m)with|some v=>(if v=ad.T2 m then 0 else 8,a)|none=>if now>=ad.T2 m then(15,a)else(0,{a with cq:=gW a.cq (ad.Rd m) (ad.T2 m),fT:=(iP a.fT (ad.T2 m*8+ad.Rd m)).getD .nil})
theorem SV{a:Ag}(h:AI a){now:Int}{m:ad}(hm:RP m)(hr:0<=ad.Rd m/\ad.Rd m<=7):
  mN a.sw a.aD a.up a.cz a.u a.bU a.bm a.cq a.fT a.done a.fz now m=some ((x5 a now m).1,(x5 a now m).2.t)/\AI (x5 a now m).2:=by
 have ht:=hm.t2;unfold mN x5;rw[D9 h];simp only[ah];cases hd:(bV a.fz (ad.Rd m)).isSome with
 |true=>exact⟨by simp,by simpa using h⟩
 |false=>
  simp only[j6,aH,if_false];by_cases hD:Dn a (ad.Rd m)
  .rw [iC hD,cond_true,if_pos hD];exact⟨rfl,h⟩
  .rw [eI hD,cond_false,if_neg hD,rF];cases hs:bV a.bm (ad.Rd m)with
   |none=>rw[if_pos rfl];exact⟨rfl,h⟩
   |some l=>
    rw[if_neg (by simp),rF];simp only[jt,Bool.not_true,cond_false];rw[rG];cases hv:bV a.cq (ad.Rd m)with
    |some v=>
     simp only[jt,Bool.true_and,bF,cond_true];by_cases e:v=ad.T2 m
     .rw [if_pos e,show(v !=ad.T2 m)=false by simpa using e];exact⟨rfl,h⟩
     .rw [if_neg e,show(v !=ad.T2 m)=true by simpa using e];exact⟨rfl,h⟩
    |none=>
     simp only[Option.isSome_none,Bool.false_and,cond_false];by_cases hN:now>=ad.T2 m
     .rw [if_pos hN,decide_eq_true hN];exact⟨rfl,h⟩
     .rw [if_neg hN,decide_eq_false hN,cond_false,xQ (n:=ad.T2 m*8) (by omega) (by omega),xQ (by omega) (by omega)];have hlen:a.fT.l.length<=8:=by rw[h.W.length_eq,List.length_map];exact we h.A
      obtain⟨l',e1,e2,e3⟩:=Oi (s:=a.fT) (x:=ad.T2 m*8+ad.Rd m) h.H (by omega);rw[e1];refine⟨rfl,?_⟩
      exact{
       rm:=h.rm,T:=h.T,S:=h.S,A:=BI h.A hr.1 (by omega) _,D:=h.D
       sa:=fun k v hk=>by
        have hk:bV (gW a.cq (ad.Rd m) (ad.T2 m)) k=some v:=hk;rw[lA]at hk;split at hk
        .rename_i e;rw[e];exact⟨l,hs⟩
        .exact h.sa k v hk
       tm:=fun k v hk=>by
        have hk:bV (gW a.cq (ad.Rd m) (ad.T2 m)) k=some v:=hk;rw[lA]at hk;split at hk
        .obtain rfl:=aa hk;exact ht
        .exact h.tm k v hk
       H:=e3
       W:=by show l'.Perm (qs (gW a.cq (ad.Rd m) (ad.T2 m)));rw[Q7 hv];exact(e2.trans (h.W.cons _)).trans (List.perm_append_singleton _ _).symm
       sm:=h.sm,dr:=h.dr,dd:=h.dd,db:=h.db,da:=h.da,lf:=h.lf,uu:=h.uu}
abbrev Ag.Al(a:Ag):Ag:={a with bm:=Mp.none,cq:=Mp.none,fT:=.nil}
theorem AI.Al{a:Ag}(h:AI a):AI a.Al where
 rm:=h.rm
 T:=h.T
 S:=.none
 A:=.none
 D:=h.D
 sa:=fun k v hk=>by cases hk
 tm:=fun k v hk=>by cases hk
 H:=fun j _ hj=>by simp[Sl.l]at hj
 W:=List.Perm.refl _
 sm:=fun k l hk=>by cases hk
 dr:=fun d hd=>⟨(h.dr d hd).1,rfl⟩
 dd:=h.dd
 db:=h.db
 da:=fun k x _=>rfl
 lf:=h.lf
 uu:=h.uu
def Is(a:Ag):Sl ae:=(a.done.l.head?.map (·.2)).getD a.bU
abbrev Ag.Nv(a:Ag)(t:Sl ae)(d:List aB):Ag:={a with bU:=t,done:=a.done.to d}
theorem QW{α:Type}{s:Sl α}{r:List α}(h:s.l≠[]\/r=[]):(s.to r).l=r:=by
 cases s with
 |nil=>rcases h with h|h
       .exact absurd rfl h
       .rw [h];rfl
 |mk l=>rfl
theorem H8{a:Ag}(h:AI a){d:List aB}{x:aB}(hd:a.done.l=d++[x]):
  kC a.sw a.aD a.up a.cz a.u a.bU a.bm a.cq a.fT a.done a.fz=some ((2,x.1),(a.Nv x.2 d).t)/\AI (a.Nv x.2 d)/\(a.Nv x.2 d).done.l=d:=by
 have hlen:a.done.l.length=d.length+1:=by rw[hd];simp
 have h8:=h.zO;have hto:(a.done.to d).l=d:=QW (.inl (by rw[hd];simp));have hw:wr .i64 ((a.done.l.length:Int)-1)=(d.length:Int):=by rw[xQ (by omega) (by omega)];omega
 have hg:gt a.done.l d.length=x:=by rw[gX (by omega)];simp[hd]
 refine⟨?_,?_,hto⟩
 .unfold kC;rw[hw,cB (show d.length<a.done.l.length by omega)];simp only[ah];rw[wj (show d.length<=a.done.l.length by omega),hg,show a.done.l.take d.length=d by rw[hd];simp];rfl
 .have hsub:∀y∈d,y∈a.done.l:=fun y hy=>by rw[hd];exact List.mem_append_left _ hy
  exact{
   rm:=h.rm,T:=h.db x (by rw[hd];simp),S:=h.S,A:=h.A,D:=h.D,sa:=h.sa,tm:=h.tm,H:=h.H,W:=h.W,sm:=h.sm
   dr:=fun y hy=>by have hy:y∈(a.done.to d).l:=hy;rw[hto]at hy;exact h.dr y (hsub y hy)
   dd:=by show((a.done.to d).l.map (·.1)).Nodup;rw[hto];have:=h.dd;rw[hd,List.map_append,List.nodup_append]at this;exact this.1
   db:=fun y hy=>by have hy:y∈(a.done.to d).l:=hy;rw[hto]at hy;exact h.db y (hsub y hy)
   da:=h.da,lf:=h.lf,uu:=h.uu}
theorem Fo:∀(n:Nat)(a:Ag)(s:Sl aZ),a.done.l.length=n->AI a->s.l.length+n<=1000->
  ∃(s':Sl aZ)(a':Ag),bw iW (dst a s)=some (dst a' s')/\AI a'/\a'.done.l=[]/\a'.bU=Is a/\s'.l=s.l++(a.done.l.reverse.map fun d=>((2,d.1):aZ))/\
   a'.sw=a.sw/\a'.aD=a.aD/\a'.up=a.up/\a'.cz=a.cz/\a'.u=a.u/\a'.bm=a.bm/\a'.cq=a.cq/\a'.fT=a.fT/\a'.fz=a.fz/\(a.done.l=[]->s'=s):=by
 intro n;induction n with
 |zero=>
  intro a s hn h hs;have he:a.done.l=[]:=List.eq_nil_of_length_eq_zero hn;refine⟨s,a,ku ?_,h,he,?_,?_,rfl,rfl,rfl,rfl,rfl,rfl,rfl,rfl,rfl,fun _=>rfl⟩
  .simp only[iW];rw[decide_eq_false (by omega),cond_false]
  .unfold Is;rw[he];rfl
  .rw [he];simp
 |succ n ih=>
  intro a s hn h hs
  obtain⟨d,x,hd⟩:∃d x,a.done.l=d++[x]:=by
   rcases List.eq_nil_or_concat a.done.l with e|⟨d,x,e⟩
   .rw [e]at hn;cases hn
   .exact ⟨d,x,by rw[e,List.concat_eq_append]⟩
  obtain⟨b1,b2,b3⟩:=H8 h hd;have hdl:(a.Nv x.2 d).done.l.length=n:=by rw[b3];have:=hn;rw[hd,List.length_append,List.length_singleton]at this;omega
  obtain⟨s',a',i1,i2,i3,i4,i5,i6,i7,i8,i9,i10,i11,i12,i13,i14,_⟩:=ih (a.Nv x.2 d) (.mk (s.l++[(2,x.1)])) hdl b2 (by simp;omega);refine⟨s',a',(oC ?_).trans i1,i2,i3,?_,?_,i6,i7,i8,i9,i10,i11,i12,i13,i14,fun e=>by rw[e]at hn;cases hn⟩
  .simp only[iW];rw[decide_eq_true (by omega),cond_true,b1];simp only[ah];rw[ZJ (by simp;omega)];rfl
  .rw [i4];unfold Is;rw[b3,hd];cases d<;>rfl
  .rw [i5,b3,hd];simp
theorem Fm(a:Ag)(hu:MI a.fz):∃d:Mp Int Int,bw gT (0,a.sw,a.aD,a.up,a.cz,a.u,a.bU,a.bm,a.cq,a.done,a.fz,a.fT)=
   some (a.sw,a.aD,a.up,a.cz,a.u,a.bU,a.bm,a.cq,a.done,d,a.fT)/\MI d/\(∀k,0<=k->k<8->(bV d k).isSome)/\(∀k,(bV a.fz k).isSome->(bV d k).isSome):=by
 obtain⟨r,h1,h2⟩:=tg (f:=gT) (fun i(d:Mp Int Int)=>((i:Int),a.sw,a.aD,a.up,a.cz,a.u,a.bU,a.bm,a.cq,a.done,d,a.fT)) 8
  (fun i d=>MI d/\(∀k:Int,0<=k->k<i->(bV d k).isSome)/\(∀k,(bV a.fz k).isSome->(bV d k).isSome))
  (fun r=>∃d,r=(a.sw,a.aD,a.up,a.cz,a.u,a.bU,a.bm,a.cq,a.done,d,a.fT)/\MI d/\(∀k:Int,0<=k->k<8->(bV d k).isSome)/\(∀k,(bV a.fz k).isSome->(bV d k).isSome))
  (fun i d hi hI=>.inl ⟨gW d (i:Int) a.u,by
   simp only[gT]
   rw[decide_eq_true (by omega),cond_true,u9 (by omega)],BI hI.1 (by omega) (by omega) _,fun k h0 hk=>by
    rw[lA];split
    .rfl
    .exact hI.2.1 k h0 (by omega),fun k hk=>by
    rw[lA];split
    .rfl
    .exact hI.2.2 k hk⟩)
  (fun d hI=>⟨_,by simp only[gT];rw[decide_eq_false (by omega),cond_false],d,rfl,hI.1,fun k h0 hk=>hI.2.1 k h0 (by omega),hI.2.2⟩) 0 a.fz (by omega) ⟨hu,fun k h0 hk=>by omega,fun k hk=>hk⟩
 obtain⟨d,rfl,h3⟩:=h2;exact⟨d,h1,h3⟩
end Go.Proofs.YtjjajcecekocdaaGreat.A
