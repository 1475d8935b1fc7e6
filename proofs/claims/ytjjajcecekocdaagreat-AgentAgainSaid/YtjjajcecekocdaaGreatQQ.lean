/- Changes that are the same but for what is nil; a bundle beside the document's, for the agent's program. Conditions: as stated. -/
import Derived.Test.YtjjajcecekocdaaGreatQP
open Option renaming bind_some->ah
open Prod.mk renaming injEq->cF
open Go.Ev Go
namespace Go.Proofs.YtjjajcecekocdaaGreat.A
abbrev nm(x:ae):ae:=(⟨ae.c9 x,ae.M x,Sl.mk (ae.iK x).l⟩:ae)
abbrev qJ(m:ai):ai:=(⟨ai.bh m,nm (ai.R m),ai.iY m⟩:ai)
theorem Qt{α:Type}[Inhabited α]{a b:List α}(h:a.length=b.length):(∀i,i<a.length->gt a i=gt b i)<->a=b:=by
 constructor
 .intro h2;apply List.ext_getElem h;intro i h3 h4;have:=h2 i h3;rwa[gX h3,gX h4]at this
 .intro h _ _;rw[h]
theorem PZ(a b:Sl aT)(hn:a.l.length<9223372036854775808):d_ a b=some (tt (a.l=b.l)):=by
 unfold d_;by_cases e:a.l.length=b.l.length
 case neg=>rw[show((a.l.length:Int) !=(b.l.length:Int))=true by simp;omega,cond_true,eI fun h=>e (by rw[h])]
 rw[show((a.l.length:Int) !=(b.l.length:Int))=false by rw[e];simp,cond_false];rw[x9 (f:=cU a b) a.l.length hn (fun i=>gt a.l i=gt b.l i) () (fun i hi=>?_) (by simp only[cU];rw[decide_eq_false (by omega),cond_false]),cJ (Qt e)]
 .cases tt (a.l=b.l)<;>rfl
 .simp only[cU];rw[decide_eq_true (by omega),cond_true,cB hi,cB (show i<b.l.length by omega)];simp only[ah];rw[fK];cases tt _<;>rfl
theorem Qj{x y:ae}:nm x=nm y<->mI x y/\(ae.iK x).l=(ae.iK y).l:=by simp only[nm,mI,cF,Sl.mk.injEq,and_assoc]
theorem BS(x y:ae)(hn:(ae.iK x).l.length<9223372036854775808):ou x y=some (tt (nm x=nm y)):=by
 unfold ou;rw[vS,cJ Qj];simp only[ah];by_cases h:mI x y
 .rw [iC h,cond_true];simp only[wu];rw[PZ _ _ hn];exact congrArg some (cJ ⟨fun h2=>⟨h,h2⟩,fun h2=>h2.2⟩)
 .rw [eI h,eI fun h2=>h h2.1];rfl
theorem Ru{a b:ai}:qJ a=qJ b<->(ai.bh a=ai.bh b/\ai.iY a=ai.iY b)/\nm (ai.R a)=nm (ai.R b):=by
 have:qJ a=qJ b<->ai.bh a=ai.bh b/\nm (ai.R a)=nm (ai.R b)/\ai.iY a=ai.iY b:=by rw[cF,cF]
 rw[this];exact⟨fun h=>⟨⟨h.1,h.2.2⟩,h.2.1⟩,fun h=>⟨h.1.1,h.2,h.1.2⟩⟩
theorem Vq(a b:ai):(((ai.bh a)==(ai.bh b))&&((ai.iY a)==(ai.iY b)))=tt (ai.bh a=ai.bh b/\ai.iY a=ai.iY b):=by rw[show(ai.bh a==ai.bh b)=tt (ai.bh a=ai.bh b)from fK,show(ai.iY a==ai.iY b)=tt (ai.iY a=ai.iY b)by cases ai.iY a<;>cases ai.iY b<;>simp[tt],ol]
theorem N1(a b:ai)(hn:(ae.iK (ai.R a)).l.length<9223372036854775808):nk a b=some (tt (qJ a=qJ b)):=by
 unfold nk;rw[Vq,cJ Ru];by_cases h:ai.bh a=ai.bh b/\ai.iY a=ai.iY b
 .rw [iC h,cond_true,BS _ _ hn];exact congrArg some (cJ ⟨fun h2=>⟨h,h2⟩,fun h2=>h2.2⟩)
 .rw [eI h,eI fun h2=>h h2.1];rfl
theorem Gb{α β:Type}[Inhabited α]{f:α->β}{a b:List α}(h:a.map f=b.map f):a.length=b.length/\∀i,i<a.length->f (gt a i)=f (gt b i):=by
 have hl:a.length=b.length:=by simpa using congrArg List.length h
 refine⟨hl,fun i hi=>?_⟩;have h1:(a.map f)[i]'(by simpa using hi)=(b.map f)[i]'(by rw[List.length_map];omega):=by simp only[h]
 rw[List.getElem_map,List.getElem_map]at h1;rw[gX hi,gX (show i<b.length by omega)];exact h1
theorem pig:∀(n:Nat)(ks:List Nat),ks.Nodup->(∀k∈ks,k<n)->ks.length<=n/\(ks.length<n<->∃j,j<n/\j∉ks):=by
 intro n;induction n with
 |zero=>intro ks _ h;cases ks with|nil=>exact⟨Nat.le_refl 0,⟨fun h=>absurd h (Nat.lt_irrefl 0),fun⟨j,hj,_⟩=>absurd hj (Nat.not_lt_zero j)⟩⟩|cons k ks=>exact absurd (h k (by simp)) (Nat.not_lt_zero k)
 |succ n ih=>
  intro ks hd h;by_cases hm:n∈ks
  .obtain ⟨h1,h2⟩:=ih (ks.erase n) (hd.erase n) fun k hk=>by obtain⟨h3,h4⟩:=(hd.mem_erase_iff).1 hk;have:=h k h4;omega
   have hl:(ks.erase n).length=ks.length-1:=List.length_erase_of_mem hm;have hp:0<ks.length:=List.length_pos_of_mem hm;refine⟨by omega,?_⟩;have e:ks.length<n+1<->(ks.erase n).length<n:=by omega
   rw[e,h2];constructor
   .rintro ⟨j,hj,hj2⟩;exact⟨j,by omega,fun hk=>hj2 (hd.mem_erase_iff.2 ⟨by omega,hk⟩)⟩
   .rintro ⟨j,hj,hj2⟩;have hne:j≠n:=fun e=>hj2 (e▸hm);exact⟨j,by omega,fun hk=>hj2 (hd.mem_erase_iff.1 hk).2⟩
  .obtain ⟨h1,_⟩:=ih ks hd fun k hk=>by have:=h k hk;have:k≠n:=fun e=>hm (e▸hk);omega
   exact⟨by omega,fun _=>⟨n,by omega,hm⟩,fun _=>by omega⟩
end Go.Proofs.YtjjajcecekocdaaGreat.A
