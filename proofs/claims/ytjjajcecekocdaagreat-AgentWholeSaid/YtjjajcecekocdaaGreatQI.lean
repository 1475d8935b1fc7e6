/- Changes of tables: the document's come to the same, for the agent's program. Conditions: as stated. -/
import Derived.Test.YtjjajcecekocdaaGreatQH
open Bool renaming and_true->j7
open Option renaming bind_some->ah
open Go.Ev Go
namespace Go.Proofs.YtjjajcecekocdaaGreat.A
theorem xk{q:ae->Bool}{t:List ae}:(decide (((t.countP q:Nat):Int)>0))=tt (∃y∈t,q y=true):=by rw[fK];refine cJ ?_;rw[<-List.countP_pos_iff];omega
theorem BV{t:Sl ae}{m:ai}{ports aD:Int}(hn:t.l.length<2147483647)(h:ug t.l ports aD)(hx:C4 (ai.R m) ports)(hk:ai.bh m=1):
  ∃s,uv t m aD=some (s,(tj t.l m ports aD).2)/\s.l=(tj t.l m ports aD).1:=by
 have hM:∀y∈t.l,uT (ae.M y):=fun y hy=>(h.r y hy).m;unfold tj;rw[if_neg (not_not_intro hx),if_pos hk];unfold uv;by_cases ho:ai.iY m=true/\∃y∈t.l,Fd y (ai.R m)
 .rw [if_pos ho];obtain⟨hc,y,hy,hyo⟩:=ho
  rcases HX (f:=ip t m) t.l.length (by omega) (fun i=>¬Fd (gt t.l i) (ai.R m)) (fun _=>(t,14)) () (fun i hi hp=>by
   simp only[ip];rw[hc,decide_eq_true (by omega),j7,cond_true,cB hi];simp only[ah];rw[pP (hM _ (gy hi)) hx.m,eI hp];rfl) (fun i hi hp=>by
   simp only[ip];rw[hc,decide_eq_true (by omega),j7,cond_true,cB hi];simp only[ah];rw[pP (hM _ (gy hi)) hx.m,iC (Classical.not_not.1 hp)];rfl) (by
   simp only[ip];rw[decide_eq_false (by omega),Bool.and_false,cond_false])with⟨h1,_⟩|⟨k,_,_,_,e⟩
  .exact absurd hyo (Ab (P:=fun y=>¬Fd y (ai.R m))|>.1 h1 y hy)
  .rw [e];exact⟨t,rfl,rfl⟩
 .rw [if_neg ho]
  have e:bw (ip t m) 0=some (.inr ()):=by
   by_cases hc:ai.iY m=true
   .have h2:=fun(i:Nat)(hi:i<t.l.length)=>(show ip t m i=some (.inl (wr .i64 ((i:Int)+1)))by simp only[ip];rw[hc,decide_eq_true (by omega),j7,cond_true,cB hi];simp only[ah];rw[pP (hM _ (gy hi)) hx.m,eI fun h2=>ho ⟨hc,_,gy hi,h2⟩];rfl);exact Dr (fun i=>((i:Nat):Int)) t.l.length (fun i hi=>by rw[h2 i hi,u9 (by omega)]) (by simp only[ip];rw[decide_eq_false (by omega),Bool.and_false,cond_false])
   .refine ku ?_;simp only[ip];rw[show ai.iY m=false by simpa using hc,Bool.false_and,cond_false]
  rw[e];simp only[ah];obtain⟨s,n,e1,e2,e3⟩:=rz (t:=t) (m:=m) (strict:=true) (eH:=false) (by omega) hM hx.m (fun y=>tt (mI y (ai.R m))) rfl;rw[e1];simp only[ah];rw[e3,xk];by_cases hkx:∃y∈t.l,mI y (ai.R m)
  .rw [if_pos hkx,iC (by simpa only[lR]using hkx)];exact⟨s,rfl,e2⟩
  .rw [if_neg hkx,eI (by simpa only[lR]using hkx),cond_false];by_cases hr:aD<=t.l.length
   .rw [if_pos hr,decide_eq_true (by omega)];exact⟨t,rfl,rfl⟩
   .rw [if_neg hr,decide_eq_false (by omega),cond_false];obtain⟨s,e4,e5⟩:=zb (t:=t) (x:=ai.R m) hn;rw[e4];exact⟨s,rfl,e5⟩
theorem za{t:Sl ae}{m:ai}{ports aD:Int}(hn:t.l.length<2147483647)(h:ug t.l ports aD)(hA:(ae.iK (ai.R m)).l.length<9223372036854775808):
  ∃s,qB t m ports aD=some (s,(tj t.l m ports aD).2)/\s.l=(tj t.l m ports aD).1:=by
 have hM:∀y∈t.l,uT (ae.M y):=fun y hy=>(h.r y hy).m;unfold qB;rw[Dz _ _ hA];by_cases hx:C4 (ai.R m) ports
 case neg=>
  have:(tj t.l m ports aD)=(t.l,2):=by unfold tj;rw[if_pos hx]
  rw[this,eI hx];refine⟨t,?_,rfl⟩;cases(decide ((ai.bh m)<1))||(decide ((ai.bh m)>5))<;>rfl
 rw[iC hx];simp only[ah,Bool.not_true];by_cases hk:ai.bh m<1\/ai.bh m>5
 .have:(tj t.l m ports aD)=(t.l,2):=by unfold tj;rw[if_neg (not_not_intro hx),if_neg (by omega),if_neg (by omega),if_neg (by omega),if_neg (by omega),if_neg (by omega)]
  rw[this,show((decide ((ai.bh m)<1))||(decide ((ai.bh m)>5)))=true by simpa using hk];exact⟨t,rfl,rfl⟩
 rw[show((decide ((ai.bh m)<1))||(decide ((ai.bh m)>5)))=false by simp;omega,cond_false];simp only[ah,cond_false];by_cases h1:ai.bh m=1
 .rw [show((ai.bh m)==1)=true by simpa using h1,cond_true];obtain⟨s,e1,e2⟩:=BV hn h hx h1;rw[e1];exact⟨s,rfl,e2⟩
 rw[show((ai.bh m)==1)=false by simpa using h1,cond_false];unfold tj;rw[if_neg (not_not_intro hx),if_neg h1];have hcase:ai.bh m=2\/ai.bh m=3\/ai.bh m=4\/ai.bh m=5:=by omega
 obtain⟨s,n,e1,e2,e3⟩:=rz (t:=t) (m:=m) (strict:=((ai.bh m)==3)||((ai.bh m)==5)) (eH:=decide ((ai.bh m)>=4)) (by omega) hM hx.m _ rfl;rw[e1];simp only[ah];rcases hcase with hk|hk|hk|hk<;>simp only[hk]at e2 e3|-
 .exact ⟨s,rfl,e2⟩
 .have e0:(n==0)=!(tt (∃y∈t.l,mI y (ai.R m))):=by
   have:=xk (q:=fun y=>tt (mI y (ai.R m))) (t:=t.l);simp only[lR]at this;rw[<-this];have e3:n=(t.l.countP (fun y=>tt (mI y (ai.R m))):Nat):=e3;rw[e3];generalize t.l.countP (fun y=>tt (mI y (ai.R m)))=c;by_cases hc:c=0
   .subst hc;rfl
   .rw [decide_eq_true (by omega)];simpa using hc
  rw[e0];by_cases hkx:∃y∈t.l,mI y (ai.R m)
  .rw [iC hkx,if_pos hkx];exact⟨s,rfl,e2⟩
  .rw [eI hkx,if_neg hkx];exact⟨t,rfl,rfl⟩
 .exact ⟨s,rfl,e2⟩
 .rw [if_neg (by decide),if_neg (by decide),if_neg (by decide),if_pos trivial]
  have e0:(n==0)=!(tt (∃y∈t.l,mI y (ai.R m))):=by
   have:=xk (q:=fun y=>tt (mI y (ai.R m))) (t:=t.l);simp only[lR]at this;rw[<-this];have e3:n=(t.l.countP (fun y=>tt (mI y (ai.R m))):Nat):=e3;rw[e3];generalize t.l.countP (fun y=>tt (mI y (ai.R m)))=c;by_cases hc:c=0
   .subst hc;rfl
   .rw [decide_eq_true (by omega)];simpa using hc
  rw[e0];by_cases hkx:∃y∈t.l,mI y (ai.R m)
  .rw [iC hkx,if_pos hkx];exact⟨s,rfl,e2⟩
  .rw [eI hkx,if_neg hkx];exact⟨t,rfl,rfl⟩
end Go.Proofs.YtjjajcecekocdaaGreat.A
