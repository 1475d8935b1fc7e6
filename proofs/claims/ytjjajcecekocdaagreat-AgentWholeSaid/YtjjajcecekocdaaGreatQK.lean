/- Changes of tables: rules that are deleted; all changes; lists of changes, for the agent's program. Conditions: as stated. -/
import Derived.Test.YtjjajcecekocdaaGreatQI
import Derived.Test.YtjjajcecekocdaaGreatQJ
open Bool renaming not_true->dC
open Int renaming toNat_natCast->eC
open List renaming append_assoc->aR,filter_cons->eQ,filter_eq_self->gU,length_set->eg,length_take->cj,replicate->aA
open Option renaming bind_some->ah
open Go.Ev Go
namespace Go.Proofs.YtjjajcecekocdaaGreat.A
theorem O2{α:Type}[Inhabited α]{a b:List α}{j:Nat}(h:a.drop j=b.drop j):gt a j=gt b j:=by
 have h2:a[j]?=b[j]?:=by have:=congrArg (fun l:List α=>l[0]?) h;simpa[List.getElem?_drop]using this
 simp only[gt,List.getD_eq_getElem?_getD,h2]
theorem Bn{α:Type}{a b:List α}{j:Nat}(h:a.drop j=b.drop j):a.drop (j+1)=b.drop (j+1):=by have:=congrArg (List.drop 1) h;simpa[List.drop_drop]using this
theorem Pn{t:Sl ae}{m:ai}(hn:t.l.length<=2147483648)(hM:∀y∈t.l,uT (ae.M y))(hm:uT (ae.M (ai.R m)))(a:Sl aT):
  ∃s,cR t m=some s/\s.l=se (fun y=>tt (uU (ae.M y) (ae.M (ai.R m)))) true a t.l:=by
 rw[zT];let p:ae->Bool:=fun y=>tt (uU (ae.M y) (ae.M (ai.R m)));have hp:∀y∈t.l,k_ y m=some (p y):=fun y hy=>by simp only[k_,v_ (hM y hy) hm,ah,p]
 unfold cR;rw[OY (by omega) p hp];simp only[ah];rcases qb t.l p with⟨h,h2⟩|⟨k,h,hk,hpk,hj⟩
 .rw [h];refine⟨t,rfl,(gU.2 fun y hy=>?_).symm⟩;have:p y=false:=h2 y hy;show(!p y)=true;rw[this];rfl
 rw[h,show((k:Int)==-1)=false by rw[beq_eq_false_iff_ne];omega,cond_false,u9 (by omega)];have hmk:t=Sl.mk t.l:=by cases t with|nil=>exact absurd hk (Nat.not_lt_zero _)|mk l=>rfl
 have hloop:∃r,bw (cH m) ((k:Int),((k+1:Nat):Int),t)=some r/\
   ∃(i:Nat)(w:List ae),r=((i:Int),Sl.mk w)/\i<=w.length/\w.length=t.l.length/\w.take i=t.l.filter fun y=>!p y:=by
  refine tg (fun j(s:Int×Sl ae)=>(s.1,((j:Nat):Int),s.2)) t.l.length
   (fun j s=>∃(i:Nat)(w:List ae),s=((i:Int),Sl.mk w)/\i<j/\w.length=t.l.length/\w.take i=(t.l.take j).filter (fun y=>!p y)/\w.drop j=t.l.drop j) _ (fun j s hj hI=>.inl ?_) (fun s hI=>⟨s,?_,?_⟩) (k+1) ((k:Int),t) (by omega) ?_
  .obtain ⟨i,w,rfl,h1,h2,h3,h4⟩:=hI;have hg:=O2 h4;simp only[cH];rw[decide_eq_true (show(j:Int)<((Sl.mk w).l.length:Int)by show(j:Int)<(w.length:Int);omega),cond_true,cB (show j<(Sl.mk w).l.length by show j<w.length;omega),u9 (n:=j) (by omega)];simp only[ah];rw[show gt (Sl.mk w).l j=gt t.l j from hg,hp _ (gy hj)];simp only[ah];have hf:(t.l.take (j+1)).filter (fun y=>!p y)=(t.l.take j).filter (fun y=>!p y)++[gt t.l j].filter (fun y=>!p y):=by rw[lS hj,List.filter_append]
   cases hq:p (gt t.l j)
   .rw [Bool.not_false,cond_true,cB (show i<(Sl.mk w).l.length by show i<w.length;omega),u9 (n:=i) (by omega)];refine⟨(((i+1:Nat):Int),Sl.mk (w.set i (gt t.l j))),rfl,i+1,_,rfl,by omega,by rw[eg];exact h2,?_,?_⟩
    .rw [hf,<-h3,eQ,hq,lS (by rw[eg];omega),sG (by omega),if_pos rfl,List.take_set_of_le (Nat.le_refl i)];rfl
    .rw [List.drop_set_of_lt (by omega),Bn h4]
   .rw [dC,cond_false];refine⟨((i:Int),Sl.mk w),rfl,i,w,rfl,by omega,h2,?_,Bn h4⟩;rw[hf,<-h3,eQ,hq];simp
  .obtain ⟨i,w,rfl,h1,h2,h3,h4⟩:=hI;simp only[cH];rw[decide_eq_false (show¬(t.l.length:Int)<((Sl.mk w).l.length:Int)by show¬(t.l.length:Int)<(w.length:Int);omega),cond_false]
  .obtain ⟨i,w,rfl,h1,h2,h3,h4⟩:=hI;exact⟨i,w,rfl,by omega,h2,by rw[h3,List.take_length]⟩
  .refine ⟨k,t.l,by rw[<-hmk],by omega,rfl,?_,rfl⟩;rw[lS hk,List.filter_append,eQ,hpk,gU.2]
   .simp
   .intro y hy;obtain⟨j,hj2,rfl⟩:=List.mem_iff_getElem.1 hy;rw[cj]at hj2;rw[List.getElem_take,<-gX,hj j (by omega)];rfl
 obtain⟨r,h1,i,w,rfl,h2,h3,h4⟩:=hloop;rw[h1];simp only[ah];have hw:(Sl.mk w).l=w:=rfl;rw[hw,MH h2];simp only[ah,JU];have hl:(GA w (i:Int).toNat (((Sl.mk w).to (w.drop i)).l.length) (aA ((Sl.mk w).to (w.drop i)).l.length (⟨0,(⟨0,(mx (.ar 4 (.i .i64))),(mx (.ar 4 (.i .i64)))⟩:aj),Sl.nil⟩:ae))).take i=w.take i:=by unfold GA aX;rw[eC,aR,List.take_append_of_le_length (by rw[cj];omega),List.take_take,Nat.min_self]
 have hlen:i<=(GA w (i:Int).toNat (((Sl.mk w).to (w.drop i)).l.length) (aA ((Sl.mk w).to (w.drop i)).l.length (⟨0,(⟨0,(mx (.ar 4 (.i .i64))),(mx (.ar 4 (.i .i64)))⟩:aj),Sl.nil⟩:ae))).length:=by unfold GA aX;rw[eC,aR,List.length_append,cj];omega
 rw[show∀z:List ae,(Sl.mk z).l=z from fun _=>rfl,wj hlen,hl];exact⟨_,rfl,h4⟩
theorem BL{t:Sl ae}{m:ai}{ports aD:Int}(hn:t.l.length<2147483647)(h:ug t.l ports aD)(hx:C4 (ai.R m) ports)(hk:ai.bh m=1):
  ∃s,uj t m aD=some (s,(tj t.l m ports aD).2)/\s.l=(tj t.l m ports aD).1:=by
 have hM:∀y∈t.l,uT (ae.M y):=fun y hy=>(h.r y hy).m;unfold tj;rw[if_neg (not_not_intro hx),if_pos hk];unfold uj
 have e1:(bif ai.iY m then((cS t (ai.R m)).bind fun r1=>some r1)else(some false):Option Bool)=some (tt (ai.iY m=true/\∃y∈t.l,Fd y (ai.R m))):=by
  cases hc:ai.iY m
  .rw [eI (by simp)];rfl
  .rw [cond_true];simp only[cS];rw[L7 (by omega) (fun y=>tt (Fd y (ai.R m))) (fun y hy=>by simp only[qv];rw[As hx.m (hM y hy),cJ K5];rfl)];simp only[ah];rw[HY];exact congrArg some (cJ (by simp only[lR,true_and]))
 rw[e1];simp only[ah];by_cases ho:ai.iY m=true/\∃y∈t.l,Fd y (ai.R m)
 .rw [if_pos ho,iC ho];exact⟨t,rfl,rfl⟩
 rw[if_neg ho,eI ho,cond_false,sj _ (by omega)];simp only[ah];rcases qb t.l fun y=>tt (mI (ai.R m) y)with⟨hf,h2⟩|⟨k,hf,hk2,hpk,_⟩
 .have hkx:¬∃y∈t.l,mI y (ai.R m):=fun⟨y,hy,hq⟩=>yI.1 (h2 y hy) hq.symm;rw[if_neg hkx,hf,show decide ((-1:Int)>=0)=false from rfl,cond_false];by_cases hr:aD<=t.l.length
  .rw [if_pos hr,decide_eq_true (by omega)];exact⟨t,rfl,rfl⟩
  rw[if_neg hr,decide_eq_false (by omega),cond_false];rw[L6 (by omega) (fun y=>decide (ae.c9 (ai.R m)>ae.c9 y)) (fun y _=>rfl)];simp only[ah];obtain⟨k,e2,hk3,e3⟩:=KZ (l:=t.l) (x:=ai.R m);rw[e2,ua (by omega)];simp only[ah];rw[OV hk3 (by omega)];exact⟨_,rfl,e3⟩
 .have hq:mI (gt t.l k) (ai.R m):=(lR.1 hpk).symm;rw[if_pos ⟨_,gy hk2,hq⟩,hf,decide_eq_true (by omega),cond_true,xB (by omega) hk2];exact⟨_,rfl,Hd h.s hk2 hq _⟩
theorem yK{t:Sl ae}{m:ai}{ports aD:Int}(hn:t.l.length<2147483647)(h:ug t.l ports aD)(hf:CU (ai.R m)):
  ∃s,qw t m ports aD=some (s,(tj t.l m ports aD).2)/\s.l=(tj t.l m ports aD).1:=by
 have hM:∀y∈t.l,uT (ae.M y):=fun y hy=>(h.r y hy).m;unfold qw;rw[vo _ _ hf];simp only[ah];by_cases hx:C4 (ai.R m) ports
 case neg=>
  have:(tj t.l m ports aD)=(t.l,2):=by unfold tj;rw[if_pos hx]
  rw[this,eI hx];exact⟨t,rfl,rfl⟩
 rw[iC hx,dC,cond_false];by_cases h1:ai.bh m=1
 .rw [show((ai.bh m)==1)=true by simpa using h1,cond_true];obtain⟨s,e1,e2⟩:=BL hn h hx h1;rw[e1];exact⟨s,rfl,e2⟩
 rw[show((ai.bh m)==1)=false by simpa using h1,cond_false];unfold tj;rw[if_neg (not_not_intro hx),if_neg h1];by_cases h2:ai.bh m=2
 .rw [show((ai.bh m)==2)=true by simpa using h2,cond_true,if_pos h2];obtain⟨s,e1,e2⟩:=I7 (t:=t) (x:=ai.R m) (by omega) hM hx.m;rw[e1];exact⟨s,rfl,e2⟩
 rw[show((ai.bh m)==2)=false by simpa using h2,cond_false,if_neg h2];by_cases h4:ai.bh m=4
 .rw [show((ai.bh m)==4)=true by simpa using h4,cond_true,if_pos h4,ua (by omega)];simp only[ah];obtain⟨s,e1,e2⟩:=Pn (t:=t) (m:=m) (by omega) hM hx.m (ae.iK (ai.R m));rw[e1];exact⟨s,rfl,e2⟩
 rw[show((ai.bh m)==4)=false by simpa using h4,cond_false,if_neg h4];by_cases h35:ai.bh m=3\/ai.bh m=5
 case neg=>rw[if_neg (by omega),if_neg (by omega),show((ai.bh m)==3)=false by rw[beq_eq_false_iff_ne];omega,show((ai.bh m)==5)=false by rw[beq_eq_false_iff_ne];omega];exact⟨t,rfl,rfl⟩
 have hb:(bif((ai.bh m)==3)then(some ((ai.bh m)==3))else(some ((ai.bh m)==5)):Option Bool)=some true:=by rcases h35 with h|h<;>rw[h]<;>rfl
 rw[hb];simp only[ah,cond_true,sh];rw[sj _ (by omega)];simp only[ah];rcases qb t.l fun y=>tt (mI (ai.R m) y)with⟨hf,h2⟩|⟨k,hf,hk2,hpk,_⟩
 .have hkx:¬∃y∈t.l,mI y (ai.R m):=fun⟨y,hy,hq⟩=>yI.1 (h2 y hy) hq.symm;rw[hf];refine⟨t,?_,?_⟩<;>rcases h35 with h|h<;>simp only[h]<;>simp[hkx]
 .have hq:mI (gt t.l k) (ai.R m):=(lR.1 hpk).symm;have hkx:∃y∈t.l,mI y (ai.R m):=⟨_,gy hk2,hq⟩
  rw[hf,decide_eq_false (by omega),cond_false];simp only[ah];rcases h35 with h3|h5
  .rw [if_pos h3,if_pos hkx,show((ai.bh m)==3)=true by simpa using h3,xB (by omega) hk2];exact⟨_,rfl,Hd h.s hk2 hq _⟩
  .rw [if_neg (by omega),if_pos h5,if_pos hkx,show((ai.bh m)==3)=false by rw[beq_eq_false_iff_ne];omega,ua (by omega)];simp only[ah];rw[u9 (by omega),Pq hk2 (by omega)];exact⟨_,rfl,JC h.s hk2 hq _⟩
end Go.Proofs.YtjjajcecekocdaaGreat.A
