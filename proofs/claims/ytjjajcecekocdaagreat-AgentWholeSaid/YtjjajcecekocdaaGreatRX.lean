/- AgentWhole: what the law keeps. Conditions: as stated. -/
import Derived.Test.YtjjajcecekocdaaGreatRT
open Bool renaming and_eq_true->ak
open Option.some renaming inj->aa
open Go.Ev Go
namespace Go.Proofs.YtjjajcecekocdaaGreat.A
theorem Lp{ports aD:Int}{t t':List ae}{l l':List ai}(ht:t.map nm=t'.map nm)(h:l.map qJ=l'.map qJ):
  (kr t ports aD t l 0).1.map nm=(kr t' ports aD t' l' 0).1.map nm/\(kr t ports aD t l 0).2=(kr t' ports aD t' l' 0).2:=by
 have h1:=HF (ports:=ports) (aD:=aD) l t t 0;have h2:=HF (ports:=ports) (aD:=aD) l' t' t' 0;rw[ht,h,h2]at h1;exact⟨(congrArg Prod.fst h1).symm,(congrArg Prod.snd h1).symm⟩
def BE(aD:Int)(M:List (Sl ai)):List ae->List aB->List ae->Prop
 |t,[],w=>w.map nm=t.map nm
 |t,d::r,w=>d.2.l.map nm=t.map nm/\(kr t 8 aD t (gt M d.1.toNat).l 0).2.2=0/\BE aD M (kr t 8 aD t (gt M d.1.toNat).l 0).1 r w
theorem BE.VR{aD:Int}{M:List (Sl ai)}{x:aB}{w:List ae}:∀{d:List aB}{t:List ae},BE aD M t (d++[x]) w->BE aD M t d x.2.l
 |[],_,h=>h.1
 |_::_,_,h=>⟨h.1,h.2.1,BE.VR h.2.2⟩
theorem BE.AE{aD:Int}{M:List (Sl ai)}{rd:Int}{a q:Sl ae}{l:List ai}(hl:l.map qJ=(gt M rd.toNat).l.map qJ)(he:(kr a.l 8 aD a.l l 0).2.2=0)(hq:q.l=(kr a.l 8 aD a.l l 0).1):
  ∀{d:List aB}{t:List ae},BE aD M t d a.l->BE aD M t (d++[((rd,a):aB)]) q.l
 |[],t,h=>by
  obtain⟨h1,h2⟩:=Lp (ports:=8) (aD:=aD) (show a.l.map nm=t.map nm from h) hl;refine⟨h,?_,?_⟩
  .show (kr t 8 aD t (gt M rd.toNat).l 0).2.2=0;rw[<-h2];exact he
  .show q.l.map nm=(kr t 8 aD t (gt M rd.toNat).l 0).1.map nm;rw[<-h1,hq]
 |_::_,_,h=>⟨h.1,h.2.1,BE.AE hl he hq h.2.2⟩
theorem BE.first{aD:Int}{M:List (Sl ai)}{t w:List ae}{d:List aB}(h:BE aD M t d w){a:Ag}(hd:a.done.l=d)(hw:a.bU.l=w):(Is a).l.map nm=t.map nm:=by unfold Is;rw[hd];cases d with|nil=>rw[show((([]:List aB).head?.map (·.2)).getD a.bU)=a.bU from rfl,hw];exact h|cons x d=>exact h.1
theorem BE.set{aD:Int}{M:List (Sl ai)}{w:List ae}{k:Nat}{s:Sl ai}(hk:k<M.length):∀{d:List aB}{t:List ae},(∀x∈d,x.1.toNat≠k)->BE aD M t d w->BE aD (M.set k s) t d w
 |[],_,_,h=>h
 |x::r,t,hx,h=>by
  have e:gt (M.set k s) x.1.toNat=gt M x.1.toNat:=by rw[HV hk,if_neg (fun e=>hx x (List.mem_cons_self ..) e.symm)]
  refine⟨h.1,?_,?_⟩
  .rw [e];exact h.2.1
  .rw [e];exact BE.set hk (fun y hy=>hx y (List.mem_cons_of_mem _ hy)) h.2.2
structure Wk(aD:Int)(a:Ag)(aJ:List ae)(M:List (Sl ai)):Prop where
 rm:a.aD=aD
 bT:ug aJ 8 aD
 m8:M.length=8
 mf:∀s∈M,s.l.length<=16/\∀x∈s.l,rX x
 st:∀k l,bV a.bm k=some l->l.l.map qJ=(gt M k.toNat).l.map qJ
 ch:BE aD M aJ a.done.l a.bU.l
theorem Wk.ez{aD:Int}{a a':Ag}{aJ:List ae}{M:List (Sl ai)}(h:Wk aD a aJ M)(h1:a'.aD=a.aD)(h2:a'.bU=a.bU)(h3:a'.done=a.done)(h4:∀k l,bV a'.bm k=some l->bV a.bm k=some l):Wk aD a' aJ M:=⟨h1.trans h.rm,h.bT,h.m8,h.mf,fun k l hk=>h.st k l (h4 k l hk),by rw[h2,h3];exact h.ch⟩
theorem Sr{aD now:Int}{a a':Ag}{L:List aZ}(h:wy now a L a'):MI a.bm->∀{aJ:List ae}{M:List (Sl ai)},Wk aD a aJ M->Wk aD a' aJ M:=by
 induction h with
 |It _=>exact fun _ _ _ h=>h
 |@Jw a a' rd xM l w L h1 h2 h3 he hr ih=>
  intro hM aJ M hW;refine ih (Cw hM rd) (hW.ez rfl rfl rfl fun k l hk=>?_);rw[kx hM]at hk;split at hk
  .cases hk
  .exact hk
 |@AE a a' rd xM l w q L h1 h2 h3 he hq hr ih=>
  intro hM aJ M hW;refine ih (Cw hM rd) ⟨hW.rm,hW.bT,hW.m8,hW.mf,fun k l hk=>?_,?_⟩
  .have hk:bV (jF a.bm rd) k=some l:=hk;rw[kx hM]at hk;split at hk
   .cases hk
   .exact hW.st k l hk
  .have he:(kr a.bU.l 8 a.aD a.bU.l l.l 0).2.2=0:=he;have hq:q.l=(kr a.bU.l 8 a.aD a.bU.l l.l 0).1:=hq;rw[hW.rm]at he hq;exact hW.ch.AE (hW.st rd l h3) he hq
theorem Mu{aD now:Int}{a a':Ag}{L:List aZ}(h:V4 now a L a')(hM:MI a.bm){aJ:List ae}{M:List (Sl ai)}(hW:Wk aD a aJ M):Wk aD a' aJ M:=by
 rcases h with⟨_,h⟩|⟨_,_,rfl⟩
 .exact Sr h hM hW
 .exact hW
theorem P8(a:Ag)(u:Int):(a.lh u).u=if a.u<u then u else a.u:=by unfold Ag.lh;split<;>rfl
theorem QP{aD:Int}{a:Ag}(h:AI a){aJ:List ae}{M:List (Sl ai)}(hW:Wk aD a aJ M)(u:Int):Wk aD (a.lh u) (bif(a.lh u).u==a.u then aJ else a.bU.l) M:=by
 rw[P8];unfold Ag.lh;by_cases hu:a.u<u
 .rw [if_pos hu,if_pos hu,show(u==a.u)=false by rw[beq_eq_false_iff_ne];omega];exact⟨hW.rm,hW.rm▸h.T,hW.m8,hW.mf,fun k l hk=>(by cases hk),rfl⟩
 .rw [if_neg hu,if_neg hu,beq_self_eq_true];exact hW
def xS(a a':Ag):List Int:=bif a'.u==a.u then a.done.l.map (·.1)else[]
theorem K4(a:Ag)(u:Int):xS a (a.lh u)=(a.lh u).done.l.map (·.1):=by
 unfold xS;rw[P8];unfold Ag.lh;by_cases hu:a.u<u
 .rw [if_pos hu,if_pos hu,show(u==a.u)=false by rw[beq_eq_false_iff_ne];omega];rfl
 .rw [if_neg hu,if_neg hu,beq_self_eq_true];rfl
theorem Ss{a:Ag}{rd:Int}:Dn a rd<->rd∈a.done.l.map (·.1):=by unfold Dn;rw[List.mem_map]
theorem KG{aD:Int}{a:Ag}{aJ:List ae}{M:List (Sl ai)}(hW:Wk aD a aJ M)(h:AI a){rd:Int}(hr:0<=rd/\rd<=7){s:Sl ai}(hs:s.l.length<=16/\∀x∈s.l,rX x)(hd:¬Dn a rd)
  {a':Ag} (e1:a'.aD=a.aD) (e2:a'.bU=a.bU) (e3:a'.done=a.done) (eU:∀k l,bV a'.bm k=some l->0<=k->(k=rd/\l.l.map qJ=s.l.map qJ)\/(k≠rd/\bV a.bm k=some l)) (hM:MI a'.bm):Wk aD a' aJ (M.set rd.toNat s)where
 rm:=e1.trans hW.rm
 bT:=hW.bT
 m8:=by rw[List.length_set];exact hW.m8
 mf:=fun x hx=>by
  rcases List.mem_or_eq_of_mem_set hx with hx|rfl
  .exact hW.mf x hx
  .exact hs
 st:=fun k l hk=>by
  have hk0:=hM.N9 k (nf.1 ⟨l,hk⟩);have h8:=hW.m8;rw[HV (by omega)];rcases eU k l hk hk0.1 with⟨rfl,g⟩|⟨g1,g2⟩
  .rw [if_pos rfl];exact g
  .rw [if_neg (by omega)];exact hW.st k l g2
 ch:=by rw[e2,e3];refine BE.set (by rw[hW.m8];omega) (fun x hx e=>hd ⟨x,hx,?_⟩) hW.ch;have:=(h.dr x hx).1;omega
theorem Kz{aD:Int}{a:Ag}(h:AI a){aJ:List ae}{M:List (Sl ai)}(hW:Wk aD a aJ M){m:ad}(hr:0<=ad.Rd m/\ad.Rd m<=7)(hl:(ad.gi m).l.length<=16)(hf:∀x∈(ad.gi m).l,rX x):
  ((gE a m).1=0/\¬Dn a (ad.Rd m)->Wk aD (gE a m).2 aJ (M.set (ad.Rd m).toNat (ad.gi m)))/\
  (¬((gE a m).1=0/\¬Dn a (ad.Rd m))->Wk aD (gE a m).2 aJ M):=by
 have hI:=Df h hl hf hr;by_cases hd:(bV a.fz (ad.Rd m)).isSome
 .have e:gE a m=(16,a):=by unfold gE;rw[if_pos hd]
  rw[e];exact⟨fun hc=>absurd hc.1 (show¬(16:Int)=0 by decide),fun _=>hW⟩
 by_cases hD:Dn a (ad.Rd m)
 .have e:gE a m=(0,a):=by unfold gE;rw[if_neg hd,if_pos hD]
  rw[e];exact⟨fun hc=>absurd hD hc.2,fun _=>hW⟩
 cases hs:bV a.bm (ad.Rd m)with
 |some l=>
  have e:(gE a m).2=a/\((gE a m).1=0->l.l.map qJ=(ad.gi m).l.map qJ):=by
   unfold gE;rw[if_neg hd,if_neg hD,hs];refine⟨rfl,fun h=>?_⟩;simp only at h;split at h
   .assumption
   .exact absurd h (by decide)
  rw[e.1];refine⟨fun hc=>?_,fun _=>hW⟩;have he:=e.2 hc.1;refine KG hW h hr ⟨hl,hf⟩ hD rfl rfl rfl (fun k l' hk _=>?_) h.S;by_cases hk2:k=ad.Rd m
  .left;refine⟨hk2,?_⟩;have hk:bV a.bm k=some l':=hk;rw[hk2,hs]at hk;obtain rfl:=aa hk;exact he
  .exact .inr ⟨hk2,hk⟩
 |none=>
  by_cases he:(md a.bU a.aD (ad.gi m).l).2.2=0
  .have e:gE a m=(0,{a with bm:=gW a.bm (ad.Rd m) (ad.gi m)}):=by unfold gE;rw[if_neg hd,if_neg hD,hs];simp only;rw[if_pos he]
   rw[e]at hI|-;refine⟨fun _=>KG hW h hr ⟨hl,hf⟩ hD rfl rfl rfl (fun k l' hk _=>?_) hI.S,fun hc=>absurd ⟨rfl,hD⟩ hc⟩;have hk:bV (gW a.bm (ad.Rd m) (ad.gi m)) k=some l':=hk;rw[lA]at hk;split at hk
   .rename_i e2;obtain rfl:=aa hk;exact .inl ⟨e2,rfl⟩
   .rename_i e2;exact .inr ⟨e2,hk⟩
  .have e:gE a m=((md a.bU a.aD (ad.gi m).l).2.2,a):=by unfold gE;rw[if_neg hd,if_neg hD,hs];simp only;rw[if_neg he]
   rw[e];exact⟨fun hc=>absurd hc.1 he,fun _=>hW⟩
theorem Nb(a:Ag)(now:Int)(m:ad):(x5 a now m).2.u=a.u/\(x5 a now m).2.aD=a.aD/\(x5 a now m).2.bU=a.bU/\(x5 a now m).2.done=a.done/\(x5 a now m).2.bm=a.bm:=by
 unfold x5;split
 .exact ⟨rfl,rfl,rfl,rfl,rfl⟩
 split
 .exact ⟨rfl,rfl,rfl,rfl,rfl⟩
 split
 .exact ⟨rfl,rfl,rfl,rfl,rfl⟩
 split
 .exact ⟨rfl,rfl,rfl,rfl,rfl⟩
 split<;>exact⟨rfl,rfl,rfl,rfl,rfl⟩
theorem NT(a:Ag)(m:ad):(gE a m).2.u=a.u:=by
 unfold gE;split
 .rfl
 split
 .rfl
 split
 .rfl
 split<;>rfl
theorem QR{aD:Int}{a:Ag}(h:AI a){aJ:List ae}{M:List (Sl ai)}(hW:Wk aD a aJ M){rd:Int}{L:List aZ}{e:Int}{a':Ag}(hu:E4 a rd L e a'):Wk aD a' aJ M/\a'.u=a.u:=by
 cases hu with
 |all h0 hd ht hs ha hk e1 e2 e3 e4 e5 hL=>refine⟨⟨e2.trans hW.rm,hW.bT,hW.m8,hW.mf,fun k l hk=>(by rw[hs]at hk;cases hk),?_⟩,e5⟩;rw[hd,ht];exact hW.ch.first rfl rfl
 |no h0 hd hD hx=>exact⟨hW,rfl⟩
 |@RM x d w h0 hd hx hl=>
  refine⟨⟨hW.rm,hW.bT,hW.m8,hW.mf,fun k l hk=>?_,?_⟩,rfl⟩
  .have hk:bV (jF a.bm rd) k=some l:=hk;rw[kx h.S]at hk;split at hk
   .cases hk
   .exact hW.st k l hk
  .show BE aD M aJ (a.Nv x.2 d).done.l x.2.l;rw[hl];have:=hW.ch;rw[hd]at this;exact this.VR
 |@oA w h0 hD=>
  refine⟨hW.ez rfl rfl rfl fun k l hk=>?_,rfl⟩;have hk:bV (jF a.bm rd) k=some l:=hk;rw[kx h.S]at hk;split at hk
  .cases hk
  .exact hk
def Af(xS:List Int)(ok:Bool)(x:ad):Prop:=ok=true/\ad.bh x=7/\ad.Of x=3/\ad.Rd x∉xS/\0<=ad.Rd x/\ad.Rd x<8
def S7(aD:Int)(a a':Ag)(aJ:List ae)(M:List (Sl ai))(m x:ad)(ok:Bool):Prop:=
 (Af (xS a a') ok x->Wk aD a' (bif a'.u==a.u then aJ else a.bU.l) (M.set (ad.Rd x).toNat (ad.gi m)))/\
 (¬Af (xS a a') ok x->Wk aD a' (bif a'.u==a.u then aJ else a.bU.l) M)
theorem S7.of{aD:Int}{a a':Ag}{aJ:List ae}{M:List (Sl ai)}{m x:ad}{ok:Bool}(h:Wk aD a' (bif a'.u==a.u then aJ else a.bU.l) M)(hn:ok=true->ad.bh x=7->ad.Of x≠3):S7 aD a a' aJ M m x ok:=⟨fun hk=>absurd hk.2.2.1 (hn hk.1 hk.2.1),fun _=>h⟩
theorem S7.self{aD:Int}{a a':Ag}{aJ:List ae}{M:List (Sl ai)}{m x:ad}{ok:Bool}(h:Wk aD a' aJ M)(hu:a'.u=a.u)(hn:ok=true->ad.bh x=7->ad.Of x≠3):S7 aD a a' aJ M m x ok:=.of (by rw[hu,beq_self_eq_true];exact h) hn
theorem VE{aD:Int}{a:Ag}(h:AI a){now:Int}{m:ad}(hm:RP m)(hf:∀x∈(ad.gi m).l,rX x){L:List aZ}{e:Int}{a':Ag}(hd:QI a now m L e a'){aJ:List ae}{M:List (Sl ai)}(hW:Wk aD a aJ M):
  S7 aD a a' aJ M m (Ad a' m e) true:=by
 have hup:=QP h hW (ad.U m);cases hd with
 |old ho=>exact .self hW rfl fun _ hk=>by rw[E3]at hk;simp at hk
 |Qa ho hk=>
  have hrd:=hm.rd (.inl hk);have hI:=h.lh (u:=ad.U m) (by have:=hm.u (by omega);omega);obtain⟨s1,s2⟩:=Kz hI hup hrd hm.n hf;have hu:=NT (a.lh (ad.U m)) m;have hp:xS a (gE (a.lh (ad.U m)) m).2=(a.lh (ad.U m)).done.l.map (·.1):=by rw[<-K4];unfold xS;rw[hu]
  have hiff:Af (xS a (gE (a.lh (ad.U m)) m).2) true (Ad (gE (a.lh (ad.U m)) m).2 m (gE (a.lh (ad.U m)) m).1)<->(gE (a.lh (ad.U m)) m).1=0/\¬Dn (a.lh (ad.U m)) (ad.Rd m):=by
   unfold Af;rw[hp,E3,CO,Nj,Ss];constructor
   .rintro ⟨_,k1,_,k2,_⟩;refine⟨?_,k2⟩;by_cases he:(gE (a.lh (ad.U m)) m).1=0
    .exact he
    .rw [if_neg he]at k1;exact absurd k1 (by decide)
   .rintro ⟨k1,k2⟩;exact⟨rfl,by rw[if_pos k1],hk,k2,by omega,by omega⟩
  unfold S7;rw[hu,Nj];exact⟨fun hk=>s1 (hiff.1 hk),fun hk=>s2 fun h=>hk (hiff.2 h)⟩
 |Zm ho hk=>
  obtain⟨e1,e2,e3,e4,e5⟩:=Nb (a.lh (ad.U m)) now m;refine .of ?_ fun _ _=>by rw[CO,hk];decide
  rw[e1];exact hup.ez e2 e3 e4 fun k l hk=>e5▸hk
 |To ho hk hU=>
  have hI:=h.lh (u:=ad.U m) (by have:=hm.u (by omega);omega);obtain⟨u1,u2⟩:=QR hI hup hU;refine .of ?_ fun _ _=>by rw[CO,hk];decide
  rw[u2];exact u1
 |MV ho hk he=>exact .of hup fun _ _=>by rw[CO,hk];decide
theorem Ol{aD:Int}{a:Ag}(h:AI a){d:aE}(hdf:DF d){x:ad}{ok:Bool}{L:List aZ}{a':Ag}(hp:S_ a d x ok L a')(hs:0<=aE.bh d/\aE.bh d<=5->a.up=true->∀k v,bV a.cq k=some v->aE.Kc d<v)
  {aJ:List ae} {M:List (Sl ai)} (hW:Wk aD a aJ M):S7 aD a a' aJ M (aE.M d) x ok:=by
 cases hp with
 |Vu hk hh=>
  cases hh with
  |off ho=>exact .self hW rfl fun e=>by cases e
  |@QX L a' ho hr hk1 hd=>
   unfold mo at ho;have hup:a.up=true:=by simp only[ak]at ho;exact ho.1
   obtain⟨rfl,rfl⟩:=Bm (hs hk hup) hd;exact .self hW rfl fun _ e=>by revert e;show(2:Int)=7->_;intro e;exact absurd e (by decide)
  |@JJ L1 L2 a1 a' e ho hr hk1 hd h1 hm=>
   unfold mo at ho;have hup:a.up=true:=by simp only[ak]at ho;exact ho.1
   obtain⟨rfl,rfl⟩:=Bm (hs hk hup) hd;exact VE h hr hdf.m hm hW
 |Ph hk hd=>
  refine .self (Mu hd h.S hW) ?_ fun e=>by cases e
  rcases hd with⟨_,hd⟩|⟨_,_,rfl⟩
  .exact (EF hd).2.2.2.2.1
  .rfl
 |Qy hk=>
  split
  .exact .self ⟨hW.rm,hW.bT,hW.m8,hW.mf,fun k l hk=>(by cases hk),hW.ch⟩ rfl fun e=>by cases e
  .exact .self hW rfl fun e=>by cases e
 |Hb hk=>exact .self (hW.ez rfl rfl rfl fun k l hk=>hk) rfl fun e=>by cases e
 |no hk=>exact .self hW rfl fun e=>by cases e
end Go.Proofs.YtjjajcecekocdaaGreat.A
