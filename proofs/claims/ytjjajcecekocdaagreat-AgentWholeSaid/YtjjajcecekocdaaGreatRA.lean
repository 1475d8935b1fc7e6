/- An agent: what holds of it; Due. Conditions: as stated. -/
import Derived.Test.YtjjajcecekocdaaGreatRO
open Bool renaming not_false->fh,not_true->dC
open List renaming filter_cons->eQ,filter_eq_self->gU,length_map->aM,map_cons->aq,mem_append->ao,mem_map->bB,mem_singleton->au
open Option renaming bind_some->ah,getD_some->bF,map_eq_none_iff->nU
open Go.Ev Go
open Go.Ev.HeapM (Hp)
noncomputable section
namespace Go.Proofs.YtjjajcecekocdaaGreat.A
structure Ag where
 sw:Int
 aD:Int
 up:Bool
 cz:Int
 u:Int
 bU:Sl ae
 bm:Mp Int (Sl ai)
 cq:Mp Int Int
 fT:Sl Int
 done:Sl aB
 fz:Mp Int Int
abbrev ZG:Type:=Int×Int×Bool×Int×Int×Sl ae×Mp Int (Sl ai)×Mp Int Int×Sl Int×Sl aB×Mp Int Int
abbrev Ag.t(a:Ag):ZG:=(a.sw,a.aD,a.up,a.cz,a.u,a.bU,a.bm,a.cq,a.fT,a.done,a.fz)
abbrev qs(m:Mp Int Int):List Int:=m.es.map fun e=>e.2.1*8+e.1
theorem KT{m:Mp Int Int}(h:MI m){k v:Int}(hf:bV m k=some v):(qs m).Perm ((v*8+k)::qs (jF m k)):=by
 have hnd:=h.RN;unfold qs;rw[(Cv m h k).1];unfold bV at hf;unfold mj at hnd;generalize m.es=l at hf hnd;induction l with
 |nil=>simp at hf
 |cons x l ih=>
  rw[aq,List.nodup_cons]at hnd;rw[List.find?_cons]at hf;by_cases hk:k=x.1
  .rw [decide_eq_true hk]at hf;have hv:x.2.1=v:=by simpa using hf
   rw[aq,eQ,decide_eq_true hk,hv,<-hk];simp only[dC,Bool.false_eq_true,if_false];rw[gU.2 fun y hy=>?_];have:k≠y.1:=fun e=>hnd.1 (bB.2 ⟨y,hy,by rw[<-e,hk]⟩);simp[this]
  .rw [decide_eq_false hk]at hf;rw[aq,eQ,decide_eq_false hk];simp only[fh,if_true,aq];exact((ih hf hnd.2).cons _).trans (List.Perm.swap _ _ _)
theorem Q7{m:Mp Int Int}{k v:Int}(hf:bV m k=none):qs (gW m k v)=qs m++[v*8+k]:=by
 have hn:f_ k m.es 0=none:=by have:=pY (k:=k) m.es 0;unfold bV at hf;rw[nU]at hf;rw[hf,nU]at this;exact this
 unfold qs gW;rw[hn];simp
theorem Pp{m:Mp Int Int}(h:MI m){k v:Int}(hf:bV m k=some v):(jF m k).es.length+1=m.es.length:=by have:=(KT h hf).length_eq;simp at this;omega
structure AI(a:Ag):Prop where
 rm:0<=a.aD/\a.aD<=64
 T:ug a.bU.l 8 a.aD
 S:MI a.bm
 A:MI a.cq
 D:MI a.fz
 sa:∀k v,bV a.cq k=some v->∃l,bV a.bm k=some l
 tm:∀k v,bV a.cq k=some v->-1125899906842624<=v/\v<=1125899906842624
 H:Hp Gc a.fT.l
 W:a.fT.l.Perm (qs a.cq)
 sm:∀k l,bV a.bm k=some l->l.l.length<=16/\∀m∈l.l,rX m
 dr:∀d∈a.done.l,(0<=d.1/\d.1<8)/\bV a.bm d.1=none
 dd:(a.done.l.map (·.1)).Nodup
 db:∀d∈a.done.l,ug d.2.l 8 a.aD
 da:∀k x,bV a.fz k=some x->bV a.bm k=none
 lf:0<=a.cz/\a.cz<=65535
 uu:0<=a.u/\a.u<=65535
theorem AI.tl{a:Ag}(h:AI a):a.bU.l.length<=1000000:=by have:=h.T.n;have:=h.rm;omega
theorem AI.zO{a:Ag}(h:AI a):a.done.l.length<=8:=by
 have h1:((a.done.l.map (·.1)).map Int.toNat).Nodup:=by rw[List.nodup_iff_pairwise_ne,List.pairwise_map];refine List.Pairwise.imp_of_mem (fun{x y}hx hy hxy=>?_) h.dd;obtain⟨d,hd,rfl⟩:=bB.1 hx;obtain⟨e,he,rfl⟩:=bB.1 hy;have h1:=(h.dr d hd).1;have h2:=(h.dr e he).1;omega
 have:=(pig 8 _ h1 fun k hk=>by obtain⟨x,hx,rfl⟩:=bB.1 hk;obtain⟨d,hd,rfl⟩:=bB.1 hx;have:=(h.dr d hd).1;omega).1;simpa using this
abbrev Ag.AG(a:Ag)(rd:Int)(w:Sl Int):Ag:={a with bm:=jF a.bm rd,cq:=jF a.cq rd,fT:=w}
theorem AI.AG{a:Ag}(h:AI a){rd:Int}{w:Sl Int}(hH:Hp Gc w.l)(hW:w.l.Perm (qs (jF a.cq rd))):AI (a.AG rd w)where
 rm:=h.rm
 T:=h.T
 S:=Cw h.S rd
 A:=Cw h.A rd
 D:=h.D
 sa:=fun k v hk=>by
  rw[kx h.A]at hk;split at hk
  .cases hk
  .rename_i hne;obtain⟨l,hl⟩:=h.sa k v hk;exact⟨l,by show bV (jF a.bm rd) k=_;rw[kx h.S,if_neg hne,hl]⟩
 tm:=fun k v hk=>by
  rw[kx h.A]at hk;split at hk
  .cases hk
  .exact h.tm k v hk
 H:=hH
 W:=hW
 sm:=fun k l hk=>by
  have hk:bV (jF a.bm rd) k=some l:=hk;rw[kx h.S]at hk;split at hk
  .cases hk
  .exact h.sm k l hk
 dr:=fun d hd=>⟨(h.dr d hd).1,by
  show bV (jF a.bm rd) d.1=none;rw[kx h.S];split
  .rfl
  .exact (h.dr d hd).2⟩
 dd:=h.dd
 db:=h.db
 da:=fun k x hk=>by
  show bV (jF a.bm rd) k=none;rw[kx h.S];split
  .rfl
  .exact h.da k x hk
 lf:=h.lf
 uu:=h.uu
theorem AI.AE{a:Ag}(h:AI a){rd:Int}(hr:0<=rd/\rd<8)(hs:bV a.bm rd=none)(hn:rd∉a.done.l.map (·.1)){q:Sl ae}(hq:ug q.l 8 a.aD):
  AI {a with bU:=q,done:=.mk (a.done.l++[(rd,a.bU)])}where
 rm:=h.rm
 T:=hq
 S:=h.S
 A:=h.A
 D:=h.D
 sa:=h.sa
 tm:=h.tm
 H:=h.H
 W:=h.W
 sm:=h.sm
 dr:=fun d hd=>by
  rcases ao.1 hd with hd|hd
  .exact h.dr d hd
  .obtain rfl:=au.1 hd;exact⟨hr,hs⟩
 dd:=by
  show((a.done.l++[(rd,a.bU)]).map (·.1)).Nodup;rw[List.map_append,List.nodup_append];refine⟨h.dd,by simp,fun x hx y hy e=>hn ?_⟩;obtain rfl:y=rd:=by simpa using hy
  exact e▸hx
 db:=fun d hd=>by
  rcases ao.1 hd with hd|hd
  .exact h.db d hd
  .obtain rfl:=au.1 hd;exact h.T
 da:=h.da
 lf:=h.lf
 uu:=h.uu
inductive wy(now:Int):Ag->List aZ->Ag->Prop
 |It {a:Ag} (h:∀k v,bV a.cq k=some v->now<v):wy now a [] a
 |Jw {a a':Ag} {rd xM:Int} {l:Sl ai} {w:Sl Int} {L:List aZ} (h1:bV a.cq rd=some xM) (h2:xM<=now) (h3:bV a.bm rd=some l)
   (he:(md a.bU a.aD l.l).2.2≠0) (hr:wy now (a.AG rd w) L a'):wy now a ((3,rd)::L) a'
 |AE {a a':Ag} {rd xM:Int} {l:Sl ai} {w:Sl Int} {q:Sl ae} {L:List aZ} (h1:bV a.cq rd=some xM) (h2:xM<=now) (h3:bV a.bm rd=some l)
   (he:(md a.bU a.aD l.l).2.2=0) (hq:q.l=(md a.bU a.aD l.l).1) (hr:wy now {a.AG rd w with bU:=q,done:=.mk (a.done.l++[(rd,a.bU)])} L a'):wy now a ((1,rd)::L) a'
theorem EG{a:Ag}(h:AI a){rd v:Int}(hf:bV a.cq rd=some v):
  ∃w,fV a.sw a.aD a.up a.cz a.u a.bU a.bm a.cq a.fT a.done a.fz rd=some (a.AG rd w).t/\AI (a.AG rd w):=by
 have hb:=h.tm rd v hf;have hrd:0<=rd/\rd<8:=h.A.N9 rd (nf.1 ⟨v,hf⟩);have hp:=KT h.A hf;have hx:v*8+rd∈a.fT.l:=h.W.mem_iff.2 (hp.mem_iff.2 (List.mem_cons_self ..));have hlen:a.fT.l.length<=8:=by rw[h.W.length_eq,aM];exact we h.A
 obtain⟨l',e1,e2,e3⟩:=yu (s:=a.fT) (x:=v*8+rd) h.H hx (by omega);refine⟨.mk l',?_,h.AG e3 ((e2.trans (h.W.trans hp)).cons_inv)⟩;unfold fV;rw[rF,hf,rG,hf];simp only[Option.isSome_some,cond_true,bF];rw[xQ (n:=v*8) (by omega) (by omega),xQ (by omega) (by omega),e1];rfl
theorem JG{a:Ag}(h:AI a){rd:Int}(hf:bV a.cq rd=none):
  fV a.sw a.aD a.up a.cz a.u a.bU a.bm a.cq a.fT a.done a.fz rd=some (a.AG rd a.fT).t/\AI (a.AG rd a.fT):=by
 refine⟨?_,h.AG h.H ?_⟩
 .unfold fV;rw[rF,hf];rfl
 .have:(jF a.cq rd).es=a.cq.es:=by rw[(Cv a.cq h.A rd).1];refine gU.2 fun e he=>?_;have:rd≠e.1:=fun e2=>sD.1 hf (bB.2 ⟨e,he,e2.symm⟩);simp[this]
  unfold qs;rw[this];exact h.W
abbrev dst(a:Ag)(s:Sl aZ):Int×Int×Bool×Int×Int×Sl ae×Sl aZ×Mp Int (Sl ai)×Mp Int Int×Sl aB×Mp Int Int×Sl Int:=(a.sw,a.aD,a.up,a.cz,a.u,a.bU,s,a.bm,a.cq,a.done,a.fz,a.fT)
theorem Mx(now:Int):∀(n:Nat)(a:Ag)(s:Sl aZ),a.cq.es.length=n->AI a->s.l.length+n<=1000->
  ∃(s':Sl aZ)(L:List aZ)(a':Ag),bw (gz now) (dst a s)=some (s',a'.sw,a'.aD,a'.up,a'.cz,a'.u,a'.bU,a'.bm,a'.cq,a'.done,a'.fz,a'.fT)/\
   s'.l=s.l++L/\(L=[]->s'=s)/\wy now a L a'/\AI a'/\L.length<=n:=by
 intro n;induction n with
 |zero=>
  intro a s hn h hs;have hes:a.cq.es=[]:=List.eq_nil_of_length_eq_zero hn;have hw:a.fT.l=[]:=by have:=h.W;unfold qs at this;rw[hes]at this;simpa using this
  refine⟨s,[],a,ku ?_,by simp,fun _=>rfl,.It fun k v hk=>?_,h,Nat.le_refl _⟩
  .simp only[gz];rw[K2 hw];rfl
  .unfold bV at hk;rw[hes]at hk;simp at hk
 |succ n ih=>
  intro a s hn h hs;have hlen:a.fT.l.length=n+1:=by rw[h.W.length_eq,aM,hn]
  have hx:gt a.fT.l 0∈qs a.cq:=h.W.mem_iff.1 (gy (by omega));obtain⟨e,he,hxe⟩:=bB.1 hx;obtain⟨k,v,b⟩:=e;have hf:bV a.cq k=some v:=Mt h.A he;have hk:0<=k/\k<8:=h.A.N9 k (nf.1 ⟨v,hf⟩);have hv:=h.tm k v hf;have hxe:v*8+k=gt a.fT.l 0:=hxe;have hrd:oe .i64 (gt a.fT.l 0) 7=k:=by rw[<-hxe,YX (by omega) (by omega)];omega
  have hmin:=K3 h.H;by_cases hnow:v<=now
  case neg=>
   refine⟨s,[],a,ku ?_,by simp,fun _=>rfl,.It fun k' v' hk'=>?_,h,by simp⟩
   .simp only[gz];rw[Hr (by omega)];simp only[ah];rw[hrd,rG,hf,bF,decide_eq_true (by omega)];rfl
   .obtain ⟨b',hb'⟩:=Jc hk';have h1:=hmin (v'*8+k') (h.W.mem_iff.2 (bB.2 ⟨_,hb',rfl⟩));have h2:=h.A.N9 k' (nf.1 ⟨v',hk'⟩);omega
  case pos=>
   obtain⟨l,hl⟩:=h.sa k v hf;obtain⟨hl16,hlm⟩:=h.sm k l hl;obtain⟨bb,hb1,hb2⟩:=Qh hl16 fun m hm=>(hlm m hm).2;obtain⟨q,b',hc1,hc2⟩:=JR hb2 hl16 (t:=a.bU) (aD:=a.aD) h.tl h.T hlm;obtain⟨w,hd1,hd2⟩:=EG h hf;have hdl:(a.AG k w).cq.es.length=n:=by have:=Pp h.A hf;show(jF a.cq k).es.length=n;omega
   have hbody:∀r,(bif(md a.bU a.aD l.l).2.2 !=0 then((ld (s.l++[((3,k):aZ)])).bind fun l58=>some (Sum.inl (dst (a.AG k w) (.mk l58))))else
     ((ld (a.done.l++[((k,a.bU):aB)])).bind fun l59=>(ld (s.l++[((1,k):aZ)])).bind fun l60=>some (Sum.inl (dst {a.AG k w with bU:=q,done:=.mk l59} (.mk l60)))))=r->gz now (dst a s)=r:=fun r hr=>by
    simp only[gz];rw[Hr (by omega)];simp only[ah];rw[hrd,rG,hf,bF,decide_eq_false (by omega)];simp only[dC,Bool.or_self,cond_false];rw[rG,hl,bF,hb1];simp only[ah];rw[hc1];simp only[ah];rw[hd1];exact hr
   by_cases hE:(md a.bU a.aD l.l).2.2=0
   case neg=>obtain⟨s',L,a',i1,i2,i3,i4,i5,i6⟩:=ih (a.AG k w) (.mk (s.l++[(3,k)])) hdl hd2 (by simp;omega);refine⟨s',(3,k)::L,a',(oC (hbody _ ?_)).trans i1,by rw[i2];simp,(fun e=>by cases e),.Jw hf hnow hl hE i4,i5,by simp;omega⟩;rw[show((md a.bU a.aD l.l).2.2 !=0)=true by simpa using hE,cond_true,ZJ (by simp;omega)];rfl
   case pos=>
    have hkd:k∉a.done.l.map (·.1):=fun hm=>by obtain⟨d,hd,rfl⟩:=bB.1 hm;rw[(h.dr d hd).2]at hl;cases hl
    have hns:bV (a.AG k w).bm k=none:=by show bV (jF a.bm k) k=none;rw[kx h.S,if_pos rfl]
    have hI2:=hd2.AE (rd:=k) hk hns hkd (q:=q) (by rw[hc2];exact Vo h.T);obtain⟨s',L,a',i1,i2,i3,i4,i5,i6⟩:=ih {a.AG k w with bU:=q,done:=.mk (a.done.l++[(k,a.bU)])} (.mk (s.l++[(1,k)])) hdl hI2 (by simp;omega);refine⟨s',(1,k)::L,a',(oC (hbody _ ?_)).trans i1,by rw[i2];simp,(fun e=>by cases e),.AE hf hnow hl hE hc2 i4,i5,by simp;omega⟩;have h8:=h.zO;rw[show((md a.bU a.aD l.l).2.2 !=0)=false by simpa using hE,cond_false,ZJ (by simp;omega)];simp only[ah];rw[ZJ (by simp;omega)];rfl
abbrev Ph(a:Ag)(now:Int):=fg a.sw a.aD a.up a.cz a.u a.bU a.bm a.cq a.fT a.done a.fz now
theorem My{a:Ag}(hu:a.up=false)(now:Int):Ph a now=some (Sl.nil,a.t):=by unfold Ph fg fL;simp only[ah,hu,fh,cond_true,Ag.t]
theorem Mw{a:Ag}(h:AI a)(hu:a.up=true)(now:Int):∃(s:Sl aZ)(a':Ag),Ph a now=some (s,a'.t)/\wy now a s.l a'/\AI a'/\s.l.length<=8/\(s.l=[]->s=Sl.nil):=by
 obtain⟨s',L,a',i1,i2,i3,i4,i5,i6⟩:=Mx now _ a Sl.nil rfl h (by have:=we h.A;show(0:Nat)+_<=_;omega);have e:s'.l=L:=by rw[i2];rfl
 refine⟨s',a',?_,e▸i4,i5,by rw[e];have:=we h.A;omega,fun h0=>i3 (by rw[<-e,h0])⟩;have i1:bw (gz now) (a.sw,a.aD,a.up,a.cz,a.u,a.bU,Sl.nil,a.bm,a.cq,a.done,a.fz,a.fT)=_:=i1;unfold Ph fg fL;simp only[ah];rw[show(!a.up)=false by rw[hu];rfl,cond_false,i1];rfl
end Go.Proofs.YtjjajcecekocdaaGreat.A
