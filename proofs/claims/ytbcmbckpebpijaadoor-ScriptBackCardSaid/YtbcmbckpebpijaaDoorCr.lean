/- A line, read: by the program. Conditions: as stated. -/
import Derived.Test.YtbcmbckpebpijaaDoorCw
open List renaming append_nil->aW,cons_append->aJ,drop_eq_getElem_cons->cI,drop_of_length_le->dR,drop_zero->bW,getElem?_eq_getElem->ai,getElem?_eq_some_iff->ah,length_drop->bR,length_take->dp,mem_cons->aD,mem_singleton->am,nil_append->aY
open Nat renaming le_refl->ak
open Option renaming bind_some->af
open Option.some renaming inj->aa
open Go.Ev Go
noncomputable section
namespace Go.Proofs.YtbcmbckpebpijaaDoor.C
theorem wy:∀{a b:List UInt8}{c:UInt8},c∉a->Lib.indexByte (a++c::b) c=(a.length:Int)
 |[],b,c,_=>by rw[aY,Lib.indexByte];simp
 |x::a,b,c,h=>by rw[aD,not_or]at h;have ih:=wy (b:=b) h.2;rw[aJ,Lib.indexByte,ih,if_neg (by simp;exact fun e=>h.1 e.symm),if_neg (by rw[beq_iff_eq];omega)];simp
theorem AR:∀{a:List UInt8}{c:UInt8},c∉a->Lib.indexByte a c=-1
 |[],c,_=>rfl
 |x::a,c,h=>by rw[aD,not_or]at h;have ih:=AR h.2;rw[Lib.indexByte,ih,if_neg (by simp;exact fun e=>h.1 e.symm)];rfl
theorem zi:∀(l:List UInt8)(c:UInt8),c∉l\/∃a b,l=a++c::b/\c∉a
 |[],c=>.inl (by simp)
 |x::l,c=>by
  by_cases h:x=c
  .exact .inr ⟨[],l,by rw[h];rfl,by simp⟩
  .rcases zi l c with h1|⟨a,b,rfl,h2⟩
   .exact .inl (by rw[aD,not_or];exact⟨fun e=>h e.symm,h1⟩)
   .exact .inr ⟨x::a,b,rfl,by rw[aD,not_or];exact⟨fun e=>h e.symm,h2⟩⟩
theorem vp{l:List UInt8}{a b:Nat}:(B l).extract a b=B ((l.drop a).take (b-a)):=by apply ByteArray.ext;simp[ByteArray.data_extract]
theorem pZ{a:List UInt8}{c:UInt8}(h:c∉a):eO (B a) c=[B a]:=by unfold eO;exact Lib.splitB_miss _ _ _ _ (by rw[ot,nA,AR h])
theorem oK{a b:List UInt8}{c:UInt8}(h:c∉a):eO (B (a++c::b)) c=B a::eO (B b) c:=by
 unfold eO;have hc:(B (a++c::b)).data.toList.count c=(B b).data.toList.count c+1:=by rw[nA,nA,List.count_append,List.count_cons_self,List.count_eq_zero.2 h];omega
 rw[hc];show(if Lib.indexB (B (a++c::b)) ⟨#[c]⟩==-1 then _ else(B (a++c::b)).extract 0 ((Lib.indexB (B (a++c::b)) ⟨#[c]⟩).toNat+0)::Lib.splitB ⟨#[c]⟩ 0 ((B b).data.toList.count c) ((B (a++c::b)).extract ((Lib.indexB (B (a++c::b)) ⟨#[c]⟩).toNat+(⟨#[c]⟩:ByteArray).size) (B (a++c::b)).size))=_;rw[ot,nA,wy h,if_neg (by rw[beq_iff_eq];omega),show((a.length:Int)).toNat=a.length from rfl,vp,vp,show(⟨#[c]⟩:ByteArray).size=1 from rfl,eR];congr 2
 .simp
 .congr 1;rw[List.drop_append,List.length_append];simp;rw[dR (by omega),aY,List.take_of_length_le (by omega)]
theorem CM(s:ByteArray)(c:UInt8):(eO s c).length=s.data.toList.count c+1:=Lib.splitB_all ⟨#[c]⟩ (ak 1) 0 _ s (Lib.count_one _ _)
theorem rl(c:UInt8):∀(k:Nat)(l:List UInt8),∀p∈Lib.splitB ⟨#[c]⟩ 0 k (B l),p.size<=l.length
 |0,l,p,hp=>by obtain rfl:=am.1 hp;rw[eR];exact ak _
 |k+1,l,p,hp=>by
  unfold Lib.splitB at hp;split at hp
  .obtain rfl:=am.1 hp;rw[eR];exact ak _
  .rw [vp,vp]at hp;rcases aD.1 hp with rfl|hp
   .rw [eR,dp,bR];omega
   .have:=rl c k _ p hp;rw[dp,bR]at this;omega
def kH:Nat->List UInt8->Int
 |0,_=>0
 |n+1,w=>if o7 ((n+1:Nat):Int)=w then((n+1:Nat):Int)else kH n w
theorem qQ:∀(n:Nat)(w:List UInt8),kH n w=0\/(1<=kH n w/\kH n w<=n)
 |0,_=>.inl rfl
 |n+1,w=>by
  unfold kH;split
  .right;omega
  .rcases qQ n w with h|h
   .exact .inl h
   .right;omega
theorem B_{k:Int}(h:1<=k/\k<=11):kH 11 (o7 k)=k:=by rcases tD h with rfl|rfl|rfl|rfl|rfl|rfl|rfl|rfl|rfl|rfl|rfl<;>rfl
theorem xp{k:Int}(h:1<=k/\k<=11):∀c∈o7 k,c.toNat≠32/\c.toNat≠10/\c.toNat≠35:=by rcases tD h with rfl|rfl|rfl|rfl|rfl|rfl|rfl|rfl|rfl|rfl|rfl<;>decide
theorem sg{k:Int}(h:1<=k/\k<=11):o7 k≠[]:=by rcases tD h with rfl|rfl|rfl|rfl|rfl|rfl|rfl|rfl|rfl|rfl|rfl<;>decide
theorem ER{w:List UInt8}{r:List ByteArray}(hr:r[0]?=some (B w)):dP (iv (.mk r)) (1,(⟨0,0,0⟩:az))=some ((kH 11 w,0,0):az):=by
 have hlen:0<r.length:=(ah.1 hr).1;have hg:gt r 0=B w:=by rw[yV hlen];exact(ah.1 hr).2
 obtain⟨b,h1,h2⟩:=AY (f:=iv (.mk r)) (fun i(_:Unit)=>(((i+1:Nat):Int),((kH i w,0,0):az))) 11 (fun _ _=>True) (fun b=>b=((kH 11 w,0,0):az)) (fun i s hi _=>by
  refine .inl ⟨(),?_,trivial⟩;simp only[iv];rw[decide_eq_true (by omega),cond_true,Ct (by omega)];simp only[af];rw[show nh 0 (Sl.mk r).l.length=some 0 from oq hlen];simp only[af];rw[show gt (Sl.mk r).l 0=B w from hg,xk,rS (by omega)];have e:kH (i+1) w=if o7 ((i+1:Nat):Int)=w then((i+1:Nat):Int)else kH i w:=rfl;rw[e];by_cases h:o7 ((i+1:Nat):Int)=w
  .rw [decide_eq_true h,if_pos h];rfl
  .rw [decide_eq_false h,if_neg h];rfl) (fun s _=>by
  simp only[iv];exact⟨_,rfl,rfl⟩) 0 () (by omega) trivial
 rw[<-h2];exact h1
theorem Br{p:ByteArray}(h:p.size<=100000):vL p=some (nF p):=by unfold vL;rw[if_pos (by omega)]
def vZ(x:S3):List UInt8->List ByteArray->S3
 |c::h,p::r=>vZ (if c=73 then(x.1,nF p,x.2.2)else(x.1,x.2.1,nF p)) h r
 |_,_=>x
theorem xY{h:List UInt8}(hl:h.length<=100):∀(d j:Nat)(r:List ByteArray)(x:S3),j+d=h.length->r.length=h.length+1->(∀p∈r,p.size<=100000)->
  dP (iu (.mk r) (B h)) ((j:Int),x)=some (vZ x (h.drop j) (r.drop (j+1)))
 |0,j,r,x,hj,hr,hp=>by rw[eF (b:=x) (by simp only[iu];rw[decide_eq_false (by rw[eR];omega),cond_false]),dR (by omega)];cases r.drop (j+1)<;>rfl
 |d+1,j,r,x,hj,hr,hp=>by
  have hjl:j<h.length:=by omega
  have hjr:j+1<r.length:=by omega
  have hh:h[j]?=some h[j]:=ai hjl;rw[cI hjl,cI hjr];have ha:=Br (hp r[j+1] (List.getElem_mem _));refine(gf (a':=(((j+1:Nat):Int),if h[j]=73 then((x.1,nF r[j+1],x.2.2):az)else(x.1,x.2.1,nF r[j+1]))) ?_).trans (xY hl d (j+1) r _ (by omega) hr hp);simp only[iu];rw[decide_eq_true (by rw[eR];omega),cond_true,rS (by omega),show nh ((j+1:Nat):Int) (Sl.mk r).l.length=some (j+1)from oq hjr];simp only[af];rw[show gt (Sl.mk r).l (j+1)=r[j+1]from yV hjr,ha];simp only[af];rw[zy hh];simp only[af];by_cases hc:h[j]=73
  .rw [if_pos hc,hc];rfl
  .rw [if_neg hc,show((h[j].toNat:Int)==73)=false by rw[beq_eq_false_iff_ne];intro e;exact hc (UInt8.toNat_inj.1 (by rw[show(73:UInt8).toNat=73 from rfl];omega))];rfl
structure Rd(l:List UInt8)(x:S3)(ok:Bool):Prop where
 y:ok=true->gG x/\f_ x=l
 n:∀s,gG s->f_ s=l->ok=true/\x=s
theorem FT(k:Int):(ml k).length<=2:=by unfold ml;cases hI k<;>cases hN k<;>decide
theorem Cb(n:Int)(c:UInt8)(h:c.toNat<45):c∉Lib.itoa n:=fun hc=>by have:=FI n c hc;omega
theorem AK{s:S3}(h:gG s):eO (B (f_ s)) 32=B (o7 s.1)::((bif hI s.1 then[B (Lib.itoa s.2.1)]else[])++(bif hN s.1 then[B (Lib.itoa s.2.2)]else[])):=by
 have hw:(32:UInt8)∉o7 s.1:=fun hc=>(xp h.1 _ hc).1 rfl;have hi:=Cb s.2.1 32 (by decide);have hn:=Cb s.2.2 32 (by decide);unfold f_;cases hI s.1<;>cases hN s.1
 .simp only[cond_false,aW];exact pZ hw
 .simp only[cond_false,cond_true,aY];rw[oK hw,pZ hn]
 .simp only[cond_false,cond_true,aW];rw[oK hw,pZ hi]
 .simp only[cond_true,aJ,aY];rw[oK hw,oK hi,pZ hn]
theorem uc{n:Int}(h0:-1000000000<=n)(h1:n<=1000000000):nF (B (Lib.itoa n))=n:=by unfold nF;rw[nA,D3 (by omega) (by omega)]
theorem BO(l:List UInt8)(hl:l.length<=100000):∃x ok,kp (B l)=some (x,ok)/\Rd l x ok:=by
 have hlen:=CM (B l) 32;have hsm:∀p∈eO (B l) 32,p.size<=100000:=fun p hp=>Nat.le_trans (rl 32 _ l p hp) hl;obtain⟨w,hw⟩:∃w,(eO (B l) 32)[0]?=some (B w):=by rw[ai (by omega)];exact⟨_,congrArg some (GW _).symm⟩
 have hsp:sE (B l) (⟨#[32]⟩:ByteArray)=some (.mk (eO (B l) 32)):=by show(if(B l).size<4294967281 then _ else _)=_;rw[if_pos (by rw[eR];omega)]
 -- what there is where the line is one's
 have hone:∀s,gG s->f_ s=l->kH 11 w=s.1/\(eO (B l) 32).length=(ml s.1).length+1/\vZ (s.1,0,0) (ml s.1) ((eO (B l) 32).drop 1)=s:=fun s hs e=>by
  have hs2:=AK hs;rw[e]at hs2;rw[hs2]at hw|-;have hw2:B (o7 s.1)=B w:=aa hw;have hw3:o7 s.1=w:=by have:=congrArg (fun b:ByteArray=>b.data.toList) hw2;simpa using this
  obtain⟨h1,h2,h3,h4,h5⟩:=hs;have a1:=uc (n:=s.2.1) (by omega) (by omega);have a2:=uc (n:=s.2.2) (by omega) (by omega);refine⟨by rw[<-hw3];exact B_ h1,?_,?_⟩
  .unfold ml;cases hI s.1<;>cases hN s.1<;>rfl
  .obtain ⟨k,i,n⟩:=s;unfold ml;simp only at h4 h5 a1 a2|-;cases hi:hI k<;>cases hn:hN k<;>rw[hi]at h4<;>rw[hn]at h5<;>simp only[cond_true,cond_false,aY,aW,aJ,List.drop_succ_cons,bW,vZ,a1,a2]<;>simp<;>simp at h4 h5<;>omega
 unfold kp;rw[hsp];simp only[af];rw[ER hw];simp only[af];rcases qQ 11 w with hk|hk
 .--no kind
  rw[show az.j3 ((kH 11 w,0,0):az)=0 from hk,vR (by omega)];refine⟨_,false,rfl,fun e=>(by cases e),fun s hs e=>?_⟩;have:=(hone s hs e).1;have:=hs.1;omega
 rw[show az.j3 ((kH 11 w,0,0):az)=kH 11 w from rfl,rT ⟨hk.1,hk.2⟩];simp only[af];have h2l:=FT (kH 11 w);rw[eR,rS (by omega)];by_cases hq:(eO (B l) 32).length=(ml (kH 11 w)).length+1
 case neg=>rw[show((kH 11 w==0)||(((Sl.mk (eO (B l) 32)).l.length:Int) !=(((ml (kH 11 w)).length+1:Nat):Int)))=true by rw[Bool.or_eq_true];right;rw[bne_iff_ne];show((eO (B l) 32).length:Int)≠_;omega];refine⟨_,false,rfl,fun e=>(by cases e),fun s hs e=>?_⟩;obtain⟨e1,e2,_⟩:=hone s hs e;rw[e1]at hq;exact absurd e2 hq
 rw[show((kH 11 w==0)||(((Sl.mk (eO (B l) 32)).l.length:Int) !=(((ml (kH 11 w)).length+1:Nat):Int)))=false by rw[Bool.or_eq_false_iff];refine⟨by rw[beq_eq_false_iff_ne];omega,?_⟩;rw[bne_eq_false_iff_eq];show((eO (B l) 32).length:Int)=_;rw[hq],cond_false];have h2:=xY (h:=ml (kH 11 w)) (by omega) (ml (kH 11 w)).length 0 (eO (B l) 32) ((kH 11 w,0,0):az) (by omega) hq hsm;rw[bW]at h2;have h2:dP (iu (.mk (eO (B l) 32)) (B (ml (kH 11 w)))) ((0:Int),((kH 11 w,0,0):az))=some (vZ (kH 11 w,0,0) (ml (kH 11 w)) ((eO (B l) 32).drop 1)):=h2;rw[h2];simp only[af];have hfin:∀s,gG s->f_ s=l->vZ (kH 11 w,0,0) (ml (kH 11 w)) ((eO (B l) 32).drop 1)=s:=fun s hs e=>by obtain⟨e1,_,e3⟩:=hone s hs e;rw[e1];exact e3
 generalize vZ (kH 11 w,0,0) (ml (kH 11 w)) ((eO (B l) 32).drop 1)=x at hfin;rw[tj x];simp only[af];by_cases hx:gG x
 .rw [decide_eq_true hx,cond_true,rZ hx];simp only[af];rw[xk];refine⟨x,_,rfl,fun e=>⟨hx,of_decide_eq_true e⟩,fun s hs e=>?_⟩;obtain rfl:=hfin s hs e;exact⟨decide_eq_true e,rfl⟩
 .rw [decide_eq_false hx,cond_false];refine⟨x,false,rfl,fun e=>(by cases e),fun s hs e=>?_⟩;obtain rfl:=hfin s hs e;exact absurd hs hx
end Go.Proofs.YtbcmbckpebpijaaDoor.C
