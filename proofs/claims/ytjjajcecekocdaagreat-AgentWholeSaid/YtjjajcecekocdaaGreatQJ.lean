/- Changes of tables: the program's come to the same, for the agent's program. Conditions: as stated. -/
import Derived.Test.YtjjajcecekocdaaGreatQH
open List renaming filter_eq_self->gU,getElem_take->nY,length_map->aM,length_set->eg,length_take->cj,mem_iff_getElem->fP,take_append_drop->jy
open Option renaming bind_some->ah
open Go.Ev Go
namespace Go.Proofs.YtjjajcecekocdaaGreat.A
theorem ua{t:Sl ae}(hn:t.l.length<=2147483648):ck t=some t:=by unfold ck;cases t with|nil=>rfl|mk l=>rw[List.nil_append,show(Sl.mk l).fF=false from rfl,cond_false,ZJ hn];cases l<;>rfl
theorem QQ{l:List ae}(hs:Ki l){x:ae}{i k:Nat}(hi:i<l.length)(hk:k<l.length)(h1:mI (gt l i) x)(h2:mI (gt l k) x):i=k:=by
 have hs:=BN.1 hs;have hq:mI (gt l i) (gt l k):=⟨h1.1.trans h2.1.symm,h1.2.trans h2.2.symm⟩
 rcases Nat.lt_trichotomy i k with h|h|h
 .exact absurd hq (hs k hk i h).2
 .exact h
 .exact absurd hq.symm (hs i hi k h).2
theorem Hd{l:List ae}(hs:Ki l){x:ae}{k:Nat}(hk:k<l.length)(h:mI (gt l k) x)(a:Sl aT):l.set k (xu (gt l k) a)=se (fun y=>tt (mI y x)) false a l:=by
 rw[CA];apply List.ext_getElem (by rw[eg,aM]);intro i h1 h2;rw[eg]at h1;rw[List.getElem_set,List.getElem_map,<-gX h1];by_cases e:k=i
 .subst e;rw[if_pos rfl,iC h];rfl
 .rw [if_neg e,eI fun hq=>e (QQ hs h1 hk hq h).symm];rfl
theorem JC{l:List ae}(hs:Ki l){x:ae}{k:Nat}(hk:k<l.length)(h:mI (gt l k) x)(a:Sl aT):l.take k++l.drop (k+1)=se (fun y=>tt (mI y x)) true a l:=by
 rw[zT];have e:l=l.take k++gt l k::l.drop (k+1):=by rw[<-sL hk,jy]
 conv=>rhs;rw[e]
 rw[List.filter_append,List.filter_cons,iC h];rw[gU.2,gU.2]
 .rfl
 .intro y hy;obtain⟨j,hj,rfl⟩:=fP.1 hy;rw[List.getElem_drop];rw[List.length_drop]at hj;rw[<-gX,eI fun hq=>by have:=QQ hs (by omega) hk hq h;omega];rfl
 .intro y hy;obtain⟨j,hj,rfl⟩:=fP.1 hy;rw[nY];rw[cj]at hj;rw[<-gX,eI fun hq=>by have:=QQ hs (by omega) hk hq h;omega];rfl
theorem xB{t:Sl ae}(hn:t.l.length<=2147483648){k:Nat}(hk:k<t.l.length)(a:Sl aT):lC t k a=some (Sl.mk (t.l.set k (xu (gt t.l k) a))):=by unfold lC;rw[ua hn];simp only[ah];rw[cB hk];rfl
theorem OV{s:Sl ae}{k:Nat}(hk:k<=s.l.length)(hn:s.l.length<2147483648)(x:ae):Eg s k (Sl.mk [x])=some (Sl.mk (s.l.take k++x::s.l.drop k)):=by cases s with|nil=>obtain rfl:k=0:=Nat.le_zero.1 hk;rfl|mk l=>have hk:k<=l.length:=hk;have hn:l.length<2147483648:=hn;simp only[Eg];rw[show(decide (0<=(k:Int))&&decide ((k:Int)<=(l.length:Int))&&Nat.ble (l.length+1) 2147483648)=true by rw[decide_eq_true (by omega),decide_eq_true (by omega)];exact Nat.ble_eq_true_of_le (by omega)];rfl
theorem Pq{s:Sl ae}{k:Nat}(hk:k<s.l.length)(hn:s.l.length<=2147483648):Gx s k ((k+1:Nat):Int)=some (Sl.mk (s.l.take k++s.l.drop (k+1))):=by cases s with|nil=>exact absurd hk (Nat.not_lt_zero _)|mk l=>have hk:k<l.length:=hk;have hn:l.length<=2147483648:=hn;simp only[Gx];rw[show(decide (0<=(k:Int))&&decide ((k:Int)<=((k+1:Nat):Int))&&decide (((k+1:Nat):Int)<=(l.length:Int))&&Nat.ble l.length 2147483648)=true by rw[decide_eq_true (by omega),decide_eq_true (by omega),decide_eq_true (by omega)];exact Nat.ble_eq_true_of_le (by omega)];rfl
theorem KZ{l:List ae}{x:ae}:∃k:Nat,(bif decide (fi l (fun y=>decide (ae.c9 x>ae.c9 y))<0)then(some (l.length:Int))else(some (fi l (fun y=>decide (ae.c9 x>ae.c9 y)))):Option Int)=some (k:Int)/\k<=l.length/\l.take k++x::l.drop k=ins x l:=by
 rcases qb l fun y=>decide (ae.c9 x>ae.c9 y)with⟨h,h2⟩|⟨k,h,hk,hp,hj⟩
 .refine ⟨l.length,by rw[h];rfl,Nat.le_refl _,?_⟩;have:=yo (x:=x) (l:=l) (r:=[]) fun y hy=>by have:=h2 y hy;rw[decide_eq_false_iff_not]at this;omega
  rw[List.append_nil]at this;rw[this,List.take_length,List.drop_length];rfl
 .refine ⟨k,by rw[h,decide_eq_false (by omega),cond_false],by omega,?_⟩;have:=yo (x:=x) (l:=l.take k) (r:=l.drop k) fun y hy=>by obtain⟨j,hj2,rfl⟩:=fP.1 hy;rw[cj]at hj2;rw[nY,<-gX];have:=hj j (by omega);rw[decide_eq_false_iff_not]at this;omega
  rw[jy]at this;rw[this,sL hk,ins,eI (by rw[decide_eq_true_eq]at hp;omega),cond_false]
theorem I7{t:Sl ae}{x:ae}(hn:t.l.length<=2147483648)(hM:∀y∈t.l,uT (ae.M y))(hx:uT (ae.M x)):
  ∃s,px t x=some s/\s.l=se (fun y=>tt (uU (ae.M y) (ae.M x))) false (ae.iK x) t.l:=by
 rw[CA];let f:ae->ae:=fun y=>bif tt (uU (ae.M y) (ae.M x))then xu y (ae.iK x)else y
 have h:∃r,bw (kX x t) (((0:Nat):Int),t)=some r/\r.l=t.l.map f:=by
  refine tg (fun i(s:Sl ae)=>(((i:Nat):Int),s)) t.l.length (fun i s=>s.l=(t.l.take i).map f++t.l.drop i) _ (fun i s hi hI=>.inl ?_) (fun s hI=>⟨s,?_,?_⟩) 0 t (by omega) (by simp)
  .have hl:s.l.length=t.l.length:=by rw[hI];simp;omega
   have hg:gt s.l i=gt t.l i:=by rw[gX (by omega),gX hi];simp only[hI];rw[List.getElem_append_right (by simp;omega)];simp only[aM,cj];rw[List.getElem_drop];congr 1;omega
   have hset:(t.l.take i).map f++f (gt t.l i)::t.l.drop (i+1)=(t.l.take (i+1)).map f++t.l.drop (i+1):=by rw[lS hi,List.map_append,List.append_assoc];rfl
   simp only[kX];rw[decide_eq_true (by omega),cond_true,cB (show i<s.l.length by omega),u9 (by omega)];simp only[ah];rw[hg,v_ (hM _ (gy hi)) hx];simp only[ah];by_cases hq:uU (ae.M (gt t.l i)) (ae.M x)
   .rw [iC hq,cond_true];refine⟨Sl.mk _,rfl,?_⟩;show s.l.set i (xu (gt t.l i) (ae.iK x))=_;rw[<-hset,hI,List.set_append_right _ _ (by simp;omega),sL hi];have e0:i-((t.l.take i).map f).length=0:=by simp;omega
    rw[e0,List.set_cons_zero];simp only[f];rw[iC hq];rfl
   .rw [eI hq,cond_false];refine⟨s,rfl,?_⟩;rw[<-hset,hI,sL hi];simp only[f];rw[eI hq];rfl
  .simp only[kX];rw[decide_eq_false (by omega),cond_false]
  .rw [hI];simp
 obtain⟨r,h1,h2⟩:=h;refine⟨r,?_,h2⟩;unfold px;rw[ua hn];simp only[ah];have h1:bw (kX x t) (0,t)=some r:=h1;rw[h1];rfl
end Go.Proofs.YtjjajcecekocdaaGreat.A
