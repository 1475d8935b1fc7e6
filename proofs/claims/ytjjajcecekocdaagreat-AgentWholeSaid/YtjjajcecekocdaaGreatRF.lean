/- An agent: made, played with, looked at. Conditions: as stated. -/
import Derived.Test.YtjjajcecekocdaaGreatRE
open Bool renaming not_false->fh,not_true->dC
open Classical renaming not_not->jS
open Int renaming le_refl->jR
open Nat renaming le_succ_of_le->nX,zero_le->fM
open Option renaming bind_some->ah
open Go.Ev Go
open Go.Ev.HeapM (Hp)
namespace Go.Proofs.YtjjajcecekocdaaGreat.A
theorem Fh(v:Arr 4 Int)(F V:Int):∃w,qG v F V=some w:=by
 unfold qG wT;simp only[ah];by_cases h:0<=F/\F<4/\0<=V
 .obtain ⟨g,rfl⟩:=Int.eq_ofNat_of_zero_le h.1;rw[show(((decide ((g:Int)>=0))&&(decide ((g:Int)<4)))&&(decide (V>=0)))=true by simp;omega,cond_true,yJ (show g<4 by omega)];simp only[ah];cases decide (V<=top g)with|true=>rw[cond_true,cB (show g<4 by omega)];exact⟨_,rfl⟩|false=>exact⟨_,rfl⟩
 .rw [show(((decide (F>=0))&&(decide (F<4)))&&(decide (V>=0)))=false by simp;omega];exact⟨_,rfl⟩
theorem Kb(l:Sl aT)(p:Arr 4 Int)(hn:l.l.length<=1000):∃s,yv l p=some s:=by
 obtain⟨r,h1,_⟩:=tg (f:=qi l p) (fun i(s:Arr 4 Int×Sl jK)=>((i:Int),s.1,s.2)) l.l.length (fun i s=>s.2.l.length<=i) (fun _=>True) (fun i s hi hI=>by
  simp only[qi];rw[decide_eq_true (by omega),cond_true,cB hi,u9 (by omega)];simp only[ah];cases(aT.bh (gt l.l i)==3)with
  |true=>exact .inl ⟨(p,s.2),rfl,nX hI⟩
  |false=>
   simp only[cond_false];cases(aT.bh (gt l.l i)==1)with
   |true=>obtain⟨w,hw⟩:=Fh s.1 (aT.F (gt l.l i)) (aT.V (gt l.l i));simp only[cond_true];rw[hw];exact .inl ⟨(w,s.2),rfl,nX hI⟩
   |false=>simp only[cond_false];cases(aT.bh (gt l.l i)==2)with|true=>simp only[cond_true];rw[ZJ (by simp;omega)];exact .inl ⟨(s.1,_),rfl,by simp;omega⟩|false=>exact .inl ⟨(s.1,s.2),rfl,nX hI⟩) (fun s _=>by
  simp only[qi];rw[decide_eq_false (by omega),cond_false];exact⟨_,rfl,trivial⟩) 0 (p,Sl.nil) (fM _) (Nat.le_refl _)
 unfold yv;have h1:bw (qi l p) ((0:Int),p,Sl.nil)=some r:=h1;rw[h1];exact⟨_,rfl⟩
theorem IC{t:Sl ae}{aD:Int}(hr:t.l.length<=1000000)(hT:ug t.l 8 aD)(port:Int)(p:Arr 4 Int):∃s,uk t port p=some s:=by
 unfold uk vg;rw[L5 (s:=t) (c:=port) (d:=p) (by omega) (fun x=>(oB (ae.M x) port p).getD false) (fun x _=>by obtain⟨b,hb⟩:=Jn (ae.M x) port p;unfold py;rw[hb];rfl)];simp only[ah];rcases qb t.l (fun x=>(oB (ae.M x) port p).getD false)with⟨h,_⟩|⟨k,h,hk,_,_⟩
 .rw [h];exact⟨_,rfl⟩
 .rw [h,decide_eq_false (by omega),cond_false,cB hk];simp only[ah];have:=(hT.r _ (gy hk)).a.1;obtain⟨s,hs⟩:=Kb (ae.iK (gt t.l k)) p (by omega);rw[hs];exact⟨_,rfl⟩
def V4(now:Int)(a:Ag)(L:List aZ)(a':Ag):Prop:=(a.up=true/\wy now a L a')\/(a.up=false/\L=[]/\a'=a)
theorem Cu{a:Ag}(h:AI a)(now:Int):∃(s:Sl aZ)(a':Ag),fg a.sw a.aD a.up a.cz a.u a.bU a.bm a.cq a.fT a.done a.fz now=some (s,a'.t)/\AI a'/\V4 now a s.l a'/\s.l.length<=8:=by cases hu:a.up with|true=>obtain⟨s,a',h1,h2,h3,h4,_⟩:=Mw h hu now;exact⟨s,a',hu▸h1,h3,.inl ⟨hu,h2⟩,h4⟩|false=>exact⟨Sl.nil,a,hu▸My hu now,h,.inr ⟨hu,rfl,rfl⟩,by decide⟩
theorem N0{a:Ag}(h:AI a)(now port:Int)(p:Arr 4 Int):∃(x:Sl jK)(s:Sl aZ)(a':Ag),mb a.sw a.aD a.up a.cz a.u a.bU a.bm a.cq a.fT a.done a.fz now port p=some (x,s,a'.t)/\AI a'/\V4 now a s.l a'/\s.l.length<=8:=by unfold mb fL;simp only[ah];cases hu:a.up with|false=>simp only[fh,cond_true];exact⟨Sl.nil,Sl.nil,a,by simp only[Ag.t,hu],h,.inr ⟨hu,rfl,rfl⟩,by decide⟩|true=>simp only[dC,cond_false];obtain⟨s,a',h1,h2,h3,h4⟩:=Cu h now;rw[hu]at h1;rw[h1];simp only[ah];obtain⟨x,hx⟩:=IC h2.tl h2.T port p;rw[hx];exact⟨x,s,a',rfl,h2,h3,h4⟩
abbrev Ag.VP(a:Ag):Ag:={a.Al with up:=false,cz:=(if 65535<a.cz+1 then 65535 else a.cz+1)}
theorem AI.VP{a:Ag}(h:AI a):AI a.VP where
 rm:=h.Al.rm
 T:=h.Al.T
 S:=h.Al.S
 A:=h.Al.A
 D:=h.Al.D
 sa:=h.Al.sa
 tm:=h.Al.tm
 H:=h.Al.H
 W:=h.Al.W
 sm:=h.Al.sm
 dr:=h.Al.dr
 dd:=h.Al.dd
 db:=h.Al.db
 da:=h.Al.da
 lf:=by have:=h.lf;show 0<=(if 65535<a.cz+1 then(65535:Int)else a.cz+1)/\(if 65535<a.cz+1 then(65535:Int)else a.cz+1)<=65535;split<;>omega
 uu:=h.Al.uu
theorem AI.Hb{a:Ag}(h:AI a):AI {a with up:=true}where
 rm:=h.rm
 T:=h.T
 S:=h.S
 A:=h.A
 D:=h.D
 sa:=h.sa
 tm:=h.tm
 H:=h.H
 W:=h.W
 sm:=h.sm
 dr:=h.dr
 dd:=h.dd
 db:=h.db
 da:=h.da
 lf:=h.lf
 uu:=h.uu
theorem MK{a:Ag}(h:AI a):lu a.sw a.aD a.up a.cz a.u a.bU a.bm a.cq a.fT a.done a.fz=some (if a.up=true then a.VP else a).t:=by have hl:=h.lf;unfold lu fL;simp only[ah];cases hu:a.up with|false=>simp only[fh,cond_true,Bool.false_eq_true,if_false,Ag.t,hu]|true=>simp only[dC,cond_false,if_true,fA,nL,ah];rw[xQ (n:=a.cz+1) (by omega) (by omega)]
structure DF(d:aE):Prop where
 n:(ad.gi (aE.M d)).l.length<9223372036854775808
 m:∀x∈(ad.gi (aE.M d)).l,rX x
inductive S_(a:Ag)(d:aE):ad->Bool->List aZ->Ag->Prop
 |Vu {x:ad} {ok:Bool} {L:List aZ} {a':Ag} (hk:0<=aE.bh d/\aE.bh d<=5) (h:VX a (aE.Kc d) (aE.M d) x ok L a'):S_ a d x ok L a'
 |Ph {L:List aZ} {a':Ag} (hk:¬(0<=aE.bh d/\aE.bh d<=5)) (h:V4 (aE.Kc d) a L a'):S_ a d tP false L a'
 |Qy (hk:¬(0<=aE.bh d/\aE.bh d<=5)):S_ a d tP false [] (if a.up=true then a.VP else a)
 |Hb (hk:¬(0<=aE.bh d/\aE.bh d<=5)):S_ a d tP false [] {a with up:=true}
 |no (hk:¬(0<=aE.bh d/\aE.bh d<=5)):S_ a d tP false [] a
theorem Vp(k:Int):(bif(k==0)then(some (k==0))else(bif(k==1)then(some (k==1))else(bif(k==2)then(some (k==2))else(bif(k==3)then(some (k==3))else(bif(k==4)then(some (k==4))else(some (k==5)))))):Option Bool)=some (tt (0<=k/\k<=5)):=by
 by_cases h:0<=k/\k<=5
 .rw [iC h];have:k=0\/k=1\/k=2\/k=3\/k=4\/k=5:=by omega
  rcases this with rfl|rfl|rfl|rfl|rfl|rfl<;>rfl
 .rw [eI h];have e:∀n:Int,0<=n->n<=5->(k==n)=false:=fun n h1 h2=>by rw[beq_eq_false_iff_ne];omega
  rw[e 0 (by omega) (by omega),e 1 (by omega) (by omega),e 2 (by omega) (by omega),e 3 (by omega) (by omega),e 4 (by omega) (by omega),e 5 (by omega) (by omega)];rfl
theorem Om{a:Ag}(h:AI a){d:aE}(hd:DF d):∃(x:ad)(ok:Bool)(s:Sl aZ)(a':Ag),
  sE a.sw a.aD a.up a.cz a.u a.bU a.bm a.cq a.fT a.done a.fz d=some (x,ok,s,a'.t)/\AI a'/\S_ a d x ok s.l a'/\s.l.length<=16:=by
 unfold sE;rw[Vp];simp only[ah];by_cases hk:0<=aE.bh d/\aE.bh d<=5
 .rw [iC hk,cond_true];obtain⟨x,ok,s,a',h1,h2,h3,h4⟩:=O0 h (aE.Kc d) hd.n hd.m;rw[h1];exact⟨x,ok,s,a',rfl,h2,.Vu hk h3,h4⟩
 rw[eI hk,cond_false];cases(aE.bh d==6)with
 |true=>obtain⟨s,a',h1,h2,h3,h4⟩:=Cu h (aE.Kc d);rw[cond_true,h1];exact⟨tP,false,s,a',rfl,h2,.Ph hk h3,by omega⟩
 |false=>
  rw[cond_false];cases(aE.bh d==7)with
  |true=>obtain⟨x,s,a',h1,h2,h3,h4⟩:=N0 h (aE.Kc d) (aE.dk d) (aE.P d);rw[cond_true,h1];exact⟨tP,false,s,a',rfl,h2,.Ph hk h3,by omega⟩
  |false=>
   rw[cond_false];cases(aE.bh d==8)with
   |true=>rw[cond_true,MK h];exact⟨tP,false,Sl.nil,_,rfl,by split;exact h.VP;exact h,.Qy hk,by decide⟩
   |false=>rw[cond_false];cases(aE.bh d==9)with|true=>exact⟨tP,false,Sl.nil,{a with up:=true},rfl,h.Hb,.Hb hk,by decide⟩|false=>exact⟨tP,false,Sl.nil,a,rfl,h,.no hk,by decide⟩
theorem Bs{t:Sl ae}(hn:t.l.length<=2147483648):eO t=some t:=by unfold eO;cases t with|nil=>rfl|mk l=>rw[List.nil_append,show(Sl.mk l).fF=false from rfl,cond_false,ZJ hn];cases l<;>rfl
abbrev Ag.Yz(sw:Int)(t:Sl ae)(aD:Int):Ag:=⟨sw,aD,true,0,0,t,Mp.none,Mp.none,.nil,.nil,Mp.none⟩
theorem Rz(sw:Int)(t:Sl ae)(aD:Int)(hn:t.l.length<9223372036854775808)(hf:∀x∈t.l,CU x):
  rV sw t aD=some (.inl 2)\/(rV sw t aD=some (.inr (sw,aD,true,0,0,t,Mp.none,Mp.none,Sl.nil,Sl.nil,Mp.none,0))/\AI (Ag.Yz sw t aD)/\0<=sw/\sw<8):=by
 unfold rV;by_cases hb:sw<0\/sw>=8\/aD<0\/aD>64
 .left;rw[show((((decide (sw<0))||(decide (sw>=8)))||(decide (aD<0)))||(decide (aD>64)))=true by simp;omega];rfl
 .rw [show((((decide (sw<0))||(decide (sw>=8)))||(decide (aD<0)))||(decide (aD>64)))=false by simp;omega,cond_false,xz t 8 aD hn hf];simp only[ah];by_cases hT:ug t.l 8 aD
  .right;have hl:=hT.n;rw[iC hT];simp only[dC,cond_false];rw[Bs (by omega)];refine⟨rfl,?_,by omega,by omega⟩;exact{rm:=⟨by show 0<=aD;omega,by show aD<=64;omega⟩,T:=hT,S:=.none,A:=.none,D:=.none,sa:=fun k v hk=>(by cases hk),tm:=fun k v hk=>(by cases hk),H:=fun j _ hj=>(by simp[Sl.l]at hj),W:=List.Perm.refl _,sm:=fun k l hk=>(by cases hk),dr:=fun d hd=>(by simp[Sl.l]at hd),dd:=List.nodup_nil,db:=fun d hd=>(by simp[Sl.l]at hd),da:=fun k x hk=>rfl,lf:=⟨jR 0,(by decide:(0:Int)<=65535)⟩,uu:=⟨jR 0,(by decide:(0:Int)<=65535)⟩}
  .left;rw[eI hT];rfl
theorem Dh(t:Sl ae)(l:Sl aE)(ht:t.l.length<9223372036854775808)(hl:∀d∈l.l,(ad.gi (aE.M d)).l.length<9223372036854775808):∃b,oT t l=some b:=by
 unfold oT
 obtain⟨r,h1,_⟩:=tg (f:=lG t) (fun i(_:Unit)=>((i:Nat):Int)) t.l.length (fun _ _=>True) (fun _=>True) (fun i s hi _=>by
  simp only[lG];rw[decide_eq_true (by omega),cond_true,cB hi,u9 (by omega)];simp only[ah];cases decide ((((ae.iK (gt t.l i)).l).length:Int)>16)with|true=>exact .inr ⟨_,rfl,trivial⟩|false=>exact .inl ⟨(),rfl,trivial⟩) (fun s _=>by
  simp only[lG];rw[decide_eq_false (by omega),cond_false];exact⟨_,rfl,trivial⟩) 0 () (fM _) trivial
 have h1:bw (lG t) (0:Int)=some r:=h1;rw[h1];cases r with
 |inl b=>exact⟨b,rfl⟩
 |inr _=>
  simp only[ah]
  obtain⟨r,h2,_⟩:=tg (f:=lE l) (fun i(_:Unit)=>((i:Nat):Int)) (min l.l.length 60) (fun _ _=>True) (fun _=>True) (fun i s hi _=>by
   have hi1:i<l.l.length:=by omega
   simp only[lE];rw[decide_eq_true (by omega),decide_eq_true (by omega),Bool.and_self,cond_true,cB hi1,u9 (by omega)];simp only[ah];cases decide ((((ad.gi (aE.M (gt l.l i))).l).length:Int)>20)with
   |true=>exact .inr ⟨_,rfl,trivial⟩
   |false=>
    simp only[cond_false];have hm:=hl _ (gy hi1)
    obtain⟨r,h3,_⟩:=tg (f:=lF l (i:Int)) (fun j(_:Unit)=>((j:Nat):Int)) (ad.gi (aE.M (gt l.l i))).l.length (fun _ _=>True) (fun _=>True) (fun j s hj _=>by
     simp only[lF];rw[cB hi1];simp only[ah];rw[decide_eq_true (by omega),cond_true,cB hj,u9 (by omega)];simp only[ah];cases decide ((((ae.iK (ai.R (gt ((ad.gi (aE.M (gt l.l i))).l) j))).l).length:Int)>16)with|true=>exact .inr ⟨_,rfl,trivial⟩|false=>exact .inl ⟨(),rfl,trivial⟩) (fun s _=>by
     simp only[lF];rw[cB hi1];simp only[ah];rw[decide_eq_false (by omega),cond_false];exact⟨_,rfl,trivial⟩) 0 () (fM _) trivial
    have h3:bw (lF l (i:Int)) (0:Int)=some r:=h3;rw[h3];cases r with|inl b=>exact .inr ⟨_,rfl,trivial⟩|inr _=>exact .inl ⟨(),rfl,trivial⟩) (fun s _=>by
   simp only[lE];rw[show(decide (((min l.l.length 60:Nat):Int)<(l.l.length:Int))&&decide (((min l.l.length 60:Nat):Int)<60))=false by simp;omega,cond_false];exact⟨_,rfl,trivial⟩) 0 () (fM _) trivial
  have h2:bw (lE l) (0:Int)=some r:=h2;rw[h2];cases r<;>exact⟨_,rfl⟩
theorem si{a:Ag}(h:AI a):gf a.sw a.aD a.up a.cz a.u a.bU a.bm a.cq a.fT a.done a.fz=some (a.bU,a.t):=by unfold gf;rw[Bs (by have:=h.tl;omega)];rfl
theorem Fs(a:Ag):jZ a.sw a.aD a.up a.cz a.u a.bU a.bm a.cq a.fT a.done a.fz=some (a.u,a.t):=rfl
theorem Bo{a:Ag}(h:AI a):∃s:Sl Int,kD a.sw a.aD a.up a.cz a.u a.bU a.bm a.cq a.fT a.done a.fz=some (s,a.t)/\s.l=a.done.l.map (·.1):=by
 have h8:=h.zO
 obtain⟨s,h1,h2⟩:=tg (f:=iX a.done) (fun i(s:Sl Int)=>(((i:Nat):Int),s)) a.done.l.length (fun i s=>s.l=(a.done.l.take i).map (·.1)) (fun s=>s.l=a.done.l.map (·.1)) (fun i s hi hI=>by
  simp only[iX];rw[decide_eq_true (by omega),cond_true,cB hi,u9 (by omega)];simp only[ah];rw[ZJ (by rw[List.length_append,hI];simp;omega)];refine .inl ⟨_,rfl,?_⟩;show s.l++[aB.rd (gt a.done.l i)]=_;rw[lS hi,hI];simp) (fun s hI=>by
  simp only[iX];rw[decide_eq_false (by omega),cond_false];exact⟨_,rfl,by rw[hI,List.take_length]⟩) 0 Sl.nil (fM _) rfl
 unfold kD;have h1:bw (iX a.done) ((0:Int),Sl.nil)=some s:=h1;rw[h1];exact⟨s,rfl,h2⟩
theorem R4(l:Sl Int)(x:Int)(hn:l.l.length<9223372036854775807):rK l x=some (tt (x∈l.l)):=by
 unfold rK
 rcases HX (f:=nI l x) l.l.length (by omega) (fun i=>gt l.l i≠x) (fun _=>true) () (fun i hi hp=>by
  simp only[nI];rw[decide_eq_true (by omega),cond_true,cB hi];simp only[ah];rw[show(gt l.l i==x)=false by rw[beq_eq_false_iff_ne];exact hp];rfl) (fun i hi hp=>by
  simp only[nI];rw[decide_eq_true (by omega),cond_true,cB hi];simp only[ah];rw[show(gt l.l i==x)=true by rw[beq_iff_eq];exact jS.1 hp];rfl) (by
  simp only[nI];rw[decide_eq_false (by omega),cond_false])with⟨h,e⟩|⟨k,hk,hp,_,e⟩
 .rw [e,eI]
  .rfl
  .intro hx;obtain⟨j,hj,rfl⟩:=List.mem_iff_getElem.1 hx;exact h j hj (gX hj)
 .rw [e,iC]
  .rfl
  .have:=jS.1 hp;exact this▸gy hk
end Go.Proofs.YtjjajcecekocdaaGreat.A
