/- Lists of changes of tables; sameness of tables, for the agent's program. Conditions: as stated. -/
import Derived.Test.YtjjajcecekocdaaGreatQK
open List renaming drop_zero->cL,length_cons->c_
open Option renaming bind_some->ah
open Go.Ev Go
noncomputable section
namespace Go.Proofs.YtjjajcecekocdaaGreat.A
def kr(t0:List ae)(ports aD:Int):List ae->List ai->Nat->List ae×Int×Int
 |t,[],_=>(t,-1,0)
 |t,m::r,i=>bif decide ((tj t m ports aD).2=0)then kr t0 ports aD (tj t m ports aD).1 r (i+1)else(t0,(i:Int),(tj t m ports aD).2)
theorem HE{t0:List ae}{ports aD:Int}(h0:ug t0 ports aD):∀(l:List ai)(t:List ae)(i:Nat),ug t ports aD->ug (kr t0 ports aD t l i).1 ports aD/\((kr t0 ports aD t l i).1.length<=max t0.length (t.length+l.length)):=by
 intro l;induction l with
 |nil=>intro t i h;exact⟨h,by simp only[kr];omega⟩
 |cons m r ih=>
  intro t i h;rw[kr];cases decide ((tj t m ports aD).2=0)
  .exact ⟨h0,by simp only[cond_false];omega⟩
  .rw [cond_true];obtain⟨h1,h2⟩:=GT (m:=m) h;obtain⟨h3,h4⟩:=ih _ (i+1) h1;exact⟨h3,by rw[c_];omega⟩
theorem Lq{t0:List ae}{ports aD:Int}:∀(l:List ai)(t:List ae)(i:Nat),(kr t0 ports aD t l i).2.2≠0->(kr t0 ports aD t l i).1=t0/\∃k:Nat,(kr t0 ports aD t l i).2.1=k/\i<=k/\k<i+l.length:=by
 intro l;induction l with
 |nil=>intro t i h;exact absurd rfl h
 |cons m r ih=>
  intro t i h;rw[kr]at h|-;by_cases hd:(tj t m ports aD).2=0
  .rw [decide_eq_true hd,cond_true]at h|-;obtain⟨h1,k,h2,h3,h4⟩:=ih _ _ h;exact⟨h1,k,h2,by omega,by rw[c_];omega⟩
  .rw [decide_eq_false hd,cond_false];exact⟨rfl,i,rfl,Nat.le_refl _,by rw[c_];omega⟩
theorem N_{t:List ae}{ports aD:Int}(h:ug t ports aD):∀x∈t,CU x:=fun x hx f hf=>by obtain⟨_,v,_,hv,_,v2,_⟩:=(h.r x hx).m.Vn hf;omega
def rX(m:ai):Prop:=CU (ai.R m)/\(ae.iK (ai.R m)).l.length<9223372036854775808
theorem uW{t:Sl ae}{l:Sl ai}{ports aD:Int}(hn:t.l.length+l.l.length<2147483647)(h:ug t.l ports aD)(hf:∀m∈l.l,rX m):
  ∃s,oq t l ports aD=some (s,(kr t.l ports aD t.l l.l 0).2.1,(kr t.l ports aD t.l l.l 0).2.2)/\s.l=(kr t.l ports aD t.l l.l 0).1:=by
 have key:∀(d i:Nat)(s:Sl ae),i+d=l.l.length->ug s.l ports aD->s.l.length<=t.l.length+i->∃r:Sl ae,
   (bw (my t l ports aD) (s,(i:Int))).bind (fun x=>match x with|.inl (s8,i9,i10)=>(some (s8,i9,i10))|.inr s11=>(some (s11,(-1),0)))=some (r,(kr t.l ports aD s.l (l.l.drop i) i).2.1,(kr t.l ports aD s.l (l.l.drop i) i).2.2)/\r.l=(kr t.l ports aD s.l (l.l.drop i) i).1:=by
  intro d;induction d with
  |zero=>intro i s hi hs _;rw[ku (b:=.inr s) (by simp only[my];rw[decide_eq_false (by omega),cond_false]),List.drop_of_length_le (by omega)];exact⟨s,rfl,rfl⟩
  |succ d ih=>
   intro i s hi hs hle;have hil:i<l.l.length:=by omega
   obtain⟨q,e1,e2⟩:=yK (t:=s) (m:=gt l.l i) (aD:=aD) (by omega) hs (hf _ (gy hil)).1;rw[sL hil,kr];by_cases hd:(tj s.l (gt l.l i) ports aD).2=0
   .rw [decide_eq_true hd,cond_true,oC (a':=(q,((i+1:Nat):Int))) (by simp only[my];rw[decide_eq_true (by omega),cond_true,cB hil];simp only[ah];rw[e1,hd,u9 (by omega)];rfl)];obtain⟨h1,h2⟩:=GT (m:=gt l.l i) hs;rw[<-e2]at h1 h2|-;exact ih (i+1) q (by omega) h1 (by omega)
   .rw [decide_eq_false hd,cond_false,ku (b:=.inl (t,(i:Int),(tj s.l (gt l.l i) ports aD).2)) (by simp only[my];rw[decide_eq_true (by omega),cond_true,cB hil];simp only[ah];rw[e1];simp only[ah];rw[show((tj s.l (gt l.l i) ports aD).2 !=0)=true by simpa using hd];rfl)];exact⟨t,rfl,rfl⟩
 obtain⟨r,h1,h2⟩:=key l.l.length 0 t (by omega) h (by omega);rw[cL]at h1 h2;exact⟨r,h1,h2⟩
theorem Au{t:Sl ae}{l:Sl ai}{ports aD:Int}(hn:t.l.length+l.l.length<2147483647)(h:ug t.l ports aD)(hf:∀m∈l.l,rX m):
  ∃s,vr t l ports aD=some (s,(kr t.l ports aD t.l l.l 0).2.1,(kr t.l ports aD t.l l.l 0).2.2)/\s.l=(kr t.l ports aD t.l l.l 0).1:=by
 have key:∀(d i:Nat)(s:Sl ae),i+d=l.l.length->ug s.l ports aD->s.l.length<=t.l.length+i->∃r:Sl ae,
   (bw (mB t l ports aD) (s,(i:Int))).bind (fun x=>match x with|.inl (s8,i9,i10)=>(some (s8,i9,i10))|.inr s11=>(some (s11,(-1),0)))=some (r,(kr t.l ports aD s.l (l.l.drop i) i).2.1,(kr t.l ports aD s.l (l.l.drop i) i).2.2)/\r.l=(kr t.l ports aD s.l (l.l.drop i) i).1:=by
  intro d;induction d with
  |zero=>intro i s hi hs _;rw[ku (b:=.inr s) (by simp only[mB];rw[decide_eq_false (by omega),cond_false]),List.drop_of_length_le (by omega)];exact⟨s,rfl,rfl⟩
  |succ d ih=>
   intro i s hi hs hle;have hil:i<l.l.length:=by omega
   obtain⟨q,e1,e2⟩:=za (t:=s) (m:=gt l.l i) (aD:=aD) (by omega) hs (hf _ (gy hil)).2;rw[sL hil,kr];by_cases hd:(tj s.l (gt l.l i) ports aD).2=0
   .rw [decide_eq_true hd,cond_true,oC (a':=(q,((i+1:Nat):Int))) (by simp only[mB];rw[decide_eq_true (by omega),cond_true,cB hil];simp only[ah];rw[e1,hd,u9 (by omega)];rfl)];obtain⟨h1,h2⟩:=GT (m:=gt l.l i) hs;rw[<-e2]at h1 h2|-;exact ih (i+1) q (by omega) h1 (by omega)
   .rw [decide_eq_false hd,cond_false,ku (b:=.inl (t,(i:Int),(tj s.l (gt l.l i) ports aD).2)) (by simp only[mB];rw[decide_eq_true (by omega),cond_true,cB hil];simp only[ah];rw[e1];simp only[ah];rw[show((tj s.l (gt l.l i) ports aD).2 !=0)=true by simpa using hd];rfl)];exact⟨t,rfl,rfl⟩
 obtain⟨r,h1,h2⟩:=key l.l.length 0 t (by omega) h (by omega);rw[cL]at h1 h2;exact⟨r,h1,h2⟩
theorem Kv{t:List ae}{ports aD:Int}(h:ug t ports aD):∀x∈t,(ae.iK x).l.length<9223372036854775808:=fun x hx=>by have:=(h.r x hx).a.1;omega
end Go.Proofs.YtjjajcecekocdaaGreat.A
