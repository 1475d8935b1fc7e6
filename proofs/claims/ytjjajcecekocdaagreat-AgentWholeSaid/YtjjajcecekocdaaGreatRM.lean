/- Maps of few keys: what they have, what is put, what goes. Conditions: as stated. -/
import Derived.Test.YtjjajcecekocdaaGreatQQ
open List renaming Sublist->cM,filter_cons->eQ,find?_cons->mQ,map_append->ed,map_cons->aq,mem_cons->aN,mem_map->bB,nodup_append->cD,nodup_cons->fR
open Nat renaming sub_self->nW,sub_zero->mg
open Go.Ev Go
namespace Go.Proofs.YtjjajcecekocdaaGreat.A
section
variable{ν:Type}
def bV(m:Mp Int ν)(k:Int):Option ν:=(m.es.find? fun e=>decide (k=e.1)).map (·.2.1)
abbrev mj(m:Mp Int ν):List Int:=m.es.map (·.1)
theorem pY{k:Int}:∀(l:List (Int×ν×Nat))(i:Nat),(f_ k l i).map (·.2)=l.find? fun e=>decide (k=e.1):=by
 intro l;induction l with
 |nil=>intro i;rfl
 |cons x l ih=>
  intro i;simp only[f_,mQ];by_cases h:k=x.1
  .rw [if_pos h,decide_eq_true h];rfl
  .rw [if_neg h,decide_eq_false h];exact ih (i+1)
theorem rG(m:Mp Int ν)(z:ν)(k:Int):rH m z k=(bV m k).getD z:=by unfold rH bV;rw[<-pY m.es 0];cases f_ k m.es 0<;>rfl
theorem rF(m:Mp Int ν)(k:Int):tQ m k=(bV m k).isSome:=by unfold tQ bV;rw[<-pY m.es 0];cases f_ k m.es 0<;>rfl
theorem sD{m:Mp Int ν}{k:Int}:bV m k=none<->k∉mj m:=by unfold bV mj;rw[Option.map_eq_none_iff,List.find?_eq_none];simp only[decide_eq_true_eq,bB,not_exists,not_and];exact⟨fun h e he e2=>h e he e2.symm,fun h e he e2=>h e he e2.symm⟩
theorem nf{m:Mp Int ν}{k:Int}:(∃v,bV m k=some v)<->k∈mj m:=by
 rw[<-Option.isSome_iff_exists];cases h:bV m k with
 |none=>simp[sD.1 h]
 |some v=>
  have:¬k∉mj m:=fun e=>by rw[sD.2 e]at h;cases h
  simp[Classical.not_not.1 this]
theorem Jc{m:Mp Int ν}{k:Int}{v:ν}(h:bV m k=some v):∃b,(k,v,b)∈m.es:=by
 unfold bV at h;obtain⟨e,he,rfl⟩:=Option.map_eq_some_iff.1 h;have h1:=List.find?_some he;have h2:=List.mem_of_find?_eq_some he;have:k=e.1:=by simpa using h1
 subst this;exact⟨e.2.2,h2⟩
structure MI(m:Mp Int ν):Prop where
 born:∀e∈m.es,e.2.2<m.bP
 qn:(m.es.map (·.2.2)).Nodup
 RN:(mj m).Nodup
 N9:∀k∈mj m,0<=k/\k<8
theorem MI.none:MI (Mp.none:Mp Int ν):=⟨fun _ h=>by simp[Mp.none]at h,by simp[Mp.none],by simp[mj,Mp.none],fun _ h=>by simp[mj,Mp.none]at h⟩
theorem Mt{m:Mp Int ν}(h:MI m){k:Int}{v:ν}{b:Nat}(he:(k,v,b)∈m.es):bV m k=some v:=by
 have hnd:=h.RN;unfold bV;unfold mj at hnd;generalize m.es=l at he hnd;induction l with
 |nil=>simp at he
 |cons x l ih=>
  rw[mQ];rw[aq,fR]at hnd;by_cases hk:k=x.1
  .rw [decide_eq_true hk];rcases aN.1 he with rfl|he
   .rfl
   .exact absurd (bB.2 ⟨_,he,hk⟩) hnd.1
  .rw [decide_eq_false hk];rcases aN.1 he with rfl|he
   .exact absurd rfl hk
   .exact ih he hnd.2
theorem we{m:Mp Int ν}(h:MI m):m.es.length<=8:=by
 have h1:((mj m).map Int.toNat).Nodup:=by rw[List.nodup_iff_pairwise_ne,List.pairwise_map];refine List.Pairwise.imp_of_mem (fun{a b}ha hb hab=>?_) h.RN;have h1:=h.N9 a ha;have h2:=h.N9 b hb;omega
 have:=(pig 8 _ h1 fun k hk=>by obtain⟨a,ha,rfl⟩:=bB.1 hk;have:=h.N9 a ha;omega).1;simpa using this
theorem BX{α:Type}(f:Int×ν×Nat->α)(hf:∀(e:Int×ν×Nat)(v:ν),f (e.1,v,e.2.2)=f e)(v:ν):∀(l:List (Int×ν×Nat))(i:Nat),(pX l i v).map f=l.map f:=by
 intro l;induction l with
 |nil=>intro i;cases i<;>rfl
 |cons x l ih=>intro i;cases i with|zero=>simp[pX,hf]|succ i=>simp[pX,ih i]
theorem KV{k:Int}(v:ν)(q:Int):∀(l:List (Int×ν×Nat))(i j:Nat)(e:Int×ν×Nat),f_ k l i=some (j,e)->
  ((pX l (j-i) v).find? fun e=>decide (q=e.1)).map (·.2.1)=if q=k then some v else(l.find? fun e=>decide (q=e.1)).map (·.2.1):=by
 intro l;induction l with
 |nil=>intro i j e h;simp[f_]at h
 |cons x l ih=>
  intro i j e h;simp only[f_]at h;by_cases hk:k=x.1
  .rw [if_pos hk]at h;obtain⟨rfl,rfl⟩:i=j/\x=e:=by simpa using h
   rw[nW];simp only[pX,mQ,<-hk];by_cases hq:q=k
   .rw [decide_eq_true hq,if_pos hq];rfl
   .rw [decide_eq_false hq,if_neg hq]
  .rw [if_neg hk]at h;obtain⟨h1,_,_⟩:=ne h;rw[show j-i=(j-(i+1))+1 by omega];simp only[pX,mQ];by_cases hq:q=x.1
   .rw [decide_eq_true hq,if_neg (fun e=>hk (e.symm.trans hq))]
   .rw [decide_eq_false hq];exact ih _ _ _ h
theorem lA(m:Mp Int ν)(k:Int)(v:ν)(q:Int):bV (gW m k v) q=if q=k then some v else bV m q:=by
 unfold gW;cases h:f_ k m.es 0 with
 |some p=>obtain⟨j,e⟩:=p;have:=KV v q m.es 0 j e h;rw[mg]at this;exact this
 |none=>
  have hn:m.es.find? (fun e=>decide (k=e.1))=none:=by rw[<-pY m.es 0,h];rfl
  simp only[bV,List.find?_append];by_cases hq:q=k
  .subst hq;rw[hn,if_pos rfl];simp
  .rw [if_neg hq];cases h2:m.es.find? (fun e=>decide (q=e.1))with|some e=>rfl|none=>simp[hq]
theorem NJ{m:Mp Int ν}{k q:Int}{v:ν}:q∈mj (gW m k v)<->q=k\/q∈mj m:=by
 rw[<-nf,<-nf,lA];by_cases h:q=k
 .simp [h]
 .simp [h]
theorem BI{m:Mp Int ν}(h:MI m){k:Int}(h0:0<=k)(h8:k<8)(v:ν):MI (gW m k v):=by
 have hr:∀q∈mj (gW m k v),0<=q/\q<8:=fun q hq=>by
  rcases NJ.1 hq with rfl|hq
  .exact ⟨h0,h8⟩
  .exact h.N9 q hq
 have hsome:∀j e,f_ k m.es 0=some (j,e)->gW m k v=⟨pX m.es j v,m.bP⟩:=fun j e hf=>by unfold gW;rw[hf]
 have hnone:f_ k m.es 0=none->gW m k v=⟨m.es++[(k,v,m.bP)],m.bP+1⟩:=fun hf=>by unfold gW;rw[hf]
 cases hf:f_ k m.es 0 with
 |some p=>
  obtain⟨j,e⟩:=p;have e1:=hsome j e hf;have e2:(gW m k v).es=pX m.es j v:=by rw[e1]
  have e3:(gW m k v).bP=m.bP:=by rw[e1]
  refine⟨fun x hx=>?_,?_,?_,hr⟩
  .have:x.2.2∈(pX m.es j v).map (·.2.2):=bB.2 ⟨x,e2▸hx,rfl⟩;rw[BX (·.2.2) (fun _ _=>rfl)]at this;obtain⟨y,hy,e4⟩:=bB.1 this;rw[e3];have:=h.born y hy;omega
  .rw [e2,BX (·.2.2) (fun _ _=>rfl)];exact h.qn
  .unfold mj;rw[e2,BX (·.1) (fun _ _=>rfl)];exact h.RN
 |none=>
  have e1:=hnone hf;have hn:k∉mj m:=sD.1 (by unfold bV;rw[<-pY m.es 0,hf];rfl);have e2:(gW m k v).es=m.es++[(k,v,m.bP)]:=by rw[e1]
  have e3:(gW m k v).bP=m.bP+1:=by rw[e1]
  refine⟨fun x hx=>?_,?_,?_,hr⟩
  .rw [e3];rw[e2]at hx;rcases List.mem_append.1 hx with hx|hx
   .have:=h.born x hx;omega
   .obtain rfl:=List.mem_singleton.1 hx;exact Nat.lt_succ_self _
  .rw [e2,ed,cD];refine⟨h.qn,by simp,fun a ha b hb=>?_⟩;obtain⟨x,hx,rfl⟩:=bB.1 ha;obtain rfl:b=m.bP:=by simpa using hb
   have:=h.born x hx;omega
  .unfold mj;rw[e2,ed,cD];refine⟨h.RN,by simp,fun a ha b hb e=>hn ?_⟩;obtain rfl:b=k:=by simpa using hb
   exact e▸ha
theorem Cv(m:Mp Int ν)(h:MI m)(k:Int):(jF m k).es=m.es.filter (fun e=>!decide (k=e.1))/\(jF m k).bP=m.bP:=by
 have key:∀(l:List (Int×ν×Nat))(i:Nat),(l.map (·.1)).Nodup->(∀j e,f_ k l i=some (j,e)->l.eraseIdx (j-i)=l.filter fun e=>!decide (k=e.1))/\(f_ k l i=none->l=l.filter fun e=>!decide (k=e.1)):=by
  intro l;induction l with
  |nil=>intro i _;exact⟨fun j e h=>(by simp[f_]at h),fun _=>rfl⟩
  |cons x l ih=>
   intro i hnd;rw[aq,fR]at hnd;simp only[f_];by_cases hk:k=x.1
   .rw [if_pos hk];refine⟨fun j e h=>?_,fun h=>by cases h⟩;obtain⟨rfl,rfl⟩:i=j/\x=e:=by simpa using h
    rw[nW,List.eraseIdx_cons_zero,eQ,decide_eq_true hk];simp only[Bool.not_true,Bool.false_eq_true,if_false];refine(List.filter_eq_self.2 fun y hy=>?_).symm;have:k≠y.1:=fun e=>hnd.1 (bB.2 ⟨y,hy,by rw[<-e,hk]⟩);simp[this]
   .rw [if_neg hk];obtain⟨i1,i2⟩:=ih (i+1) hnd.2;refine⟨fun j e h=>?_,fun h=>?_⟩
    .obtain ⟨h1,_,_⟩:=ne h;rw[show j-i=(j-(i+1))+1 by omega,List.eraseIdx_cons_succ,i1 j e h,eQ,decide_eq_false hk];simp
    .rw [eQ,decide_eq_false hk,<-i2 h];simp
 obtain⟨k1,k2⟩:=key m.es 0 h.RN;unfold jF;cases hf:f_ k m.es 0 with|some p=>obtain⟨j,e⟩:=p;have:=k1 j e hf;rw[mg]at this;exact⟨this,rfl⟩|none=>exact⟨k2 hf,rfl⟩
theorem kx{m:Mp Int ν}(h:MI m)(k q:Int):bV (jF m k) q=if q=k then none else bV m q:=by
 unfold bV;rw[(Cv m h k).1,List.find?_filter];by_cases hq:q=k
 .subst hq;rw[if_pos rfl,List.find?_eq_none.2 (fun e _=>by by_cases he:q=e.1<;>simp[he])];rfl
 .rw [if_neg hq];congr 2;funext e;by_cases he:q=e.1
  .simp [he,show¬k=e.1 from fun e2=>hq (he.trans e2.symm)]
  .simp [he]
theorem Po{m:Mp Int ν}(h:MI m){k q:Int}:q∈mj (jF m k)<->q≠k/\q∈mj m:=by
 rw[<-nf,<-nf,kx h];by_cases hq:q=k
 .simp [hq]
 .simp [hq]
theorem Cw{m:Mp Int ν}(h:MI m)(k:Int):MI (jF m k):=by
 obtain⟨e1,e2⟩:=Cv m h k;refine⟨fun e he=>?_,?_,?_,fun q hq=>h.N9 q ((Po h).1 hq).2⟩
 .rw [e1]at he;rw[e2];exact h.born e (List.mem_filter.1 he).1
 .rw [e1];exact List.Nodup.sublist (cM.map _ List.filter_sublist) h.qn
 .unfold mj;rw[e1];exact List.Nodup.sublist (cM.map _ List.filter_sublist) h.RN
end
end Go.Proofs.YtjjajcecekocdaaGreat.A
