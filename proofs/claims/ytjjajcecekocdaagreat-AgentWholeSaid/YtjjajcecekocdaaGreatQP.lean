/- The law BundleOrder over its program, for the agent's program. Conditions: as stated. -/
import Derived.Test.YtjjajcecekocdaaGreatQL
open Option renaming bind_some->ah
open Go.Ev Go
namespace Go.Proofs.YtjjajcecekocdaaGreat.A
theorem CJ{α:Type}[Inhabited α]{n:Nat}(v:Arr n α){k j:Nat}(x:α)(hk:k<n):gt (Arr.set v k x).1 j=if k=j then x else gt v.1 j:=sG (by rw[v.2];exact hk)
abbrev EW(b:av)(j:Nat):Bool:=gt (av.AB b).1 j
abbrev bl(b:av)(j:Nat):ai:=gt (av.l b).1 j
theorem OI:∀j,j<16->gt (mx (.ar 16 .b):Arr 16 Bool).1 j=false:=by decide
theorem IA(m:ai)(h:(ae.iK (ai.R m)).l.length<9223372036854775808):nk m m=some true:=by unfold nk;rw[beq_self_eq_true,beq_self_eq_true,Bool.and_self,cond_true,yX _ h];rfl
theorem PP{b:av}{i:Nat}{m:ai}(hi:i<16)(eU:av.uX b=0)(h:EW b i=true->bl b i=m)(hm:(ae.iK (ai.R m)).l.length<9223372036854775808):
  lm b i m=some (0,(⟨0,Arr.set (av.AB b) i true,Arr.set (av.l b) i m,av.n b⟩:av)):=by
 unfold lm;simp only[eK,ah];rw[eU,show((0:Int) !=0)=false from rfl,cond_false,decide_eq_false (by omega),decide_eq_false (by omega),cB hi];simp only[ah,Bool.or_self,cond_false];by_cases hh:EW b i=true
 .rw [show gt (av.AB b).1 i=true from hh,cond_true,show gt (av.l b).1 i=m from h hh,IA m hm];rfl
 .rw [show gt (av.AB b).1 i=false by simpa using hh];rfl
theorem J5{b:av}{n:Nat}(hn:n<=16)(eU:av.uX b=0)(h1:∀j,n<=j->j<16->EW b j=false)(h2:∀j,j<n->EW b j=true):
  ki b n=some (0,(⟨1,av.AB b,av.l b,(n:Int)⟩:av)):=by
 unfold ki;simp only[eK,ah];rw[eU,show((0:Int)==2)=false from rfl,cond_false,show((0:Int)==1)=false from rfl,Bool.false_and,cond_false,Bool.false_or,decide_eq_false (by omega),decide_eq_false (by omega)];simp only[Bool.or_self,cond_false]
 have e1:bw (gM b) (n:Int)=some (.inr ()):=by
  have:=Dr (f:=gM b) (fun k=>(((n+k:Nat)):Int)) (16-n) (b:=.inr ()) (fun k hk=>by
   simp only[gM];rw[decide_eq_true (by omega),cond_true,cB (show n+k<16 by omega),u9 (by omega)];simp only[ah];rw[show gt (av.AB b).1 (n+k)=false from h1 (n+k) (by omega) (by omega)];rfl) (by
   simp only[gM];rw[decide_eq_false (by omega),cond_false])
  exact this
 have e2:bw (gL b n) 0=some (.inr ()):=by
  have:=Dr (f:=gL b n) (fun k=>((k:Nat):Int)) n (b:=.inr ()) (fun k hk=>by
   simp only[gL];rw[decide_eq_true (by omega),cond_true,cB (show k<16 by omega),u9 (by omega)];simp only[ah];rw[show gt (av.AB b).1 k=true from h2 k hk];rfl) (by
   simp only[gL];rw[decide_eq_false (by omega),cond_false])
  exact this
 rw[e1];simp only[ah];rw[e2];rfl
theorem M0{b:av}{L:List ai}(hn:L.length<=16)(eU:av.uX b=1)(hb:av.n b=L.length)(h:∀j,j<L.length->bl b j=gt L j):
  ∃s,ii b=some (s,b)/\s.l=L:=by
 have hl:∃s,bw (hZ b) (((0:Nat):Int),Sl.nil)=some s/\s.l=L:=by
  refine tg (fun i(s:Sl ai)=>(((i:Nat):Int),s)) L.length (fun i s=>s.l=L.take i) _ (fun i s hi hI=>.inl ?_) (fun s hI=>⟨s,?_,by rw[hI,List.take_length]⟩) 0 Sl.nil (by omega) rfl
  .simp only[hZ];rw[decide_eq_true (show(i:Int)<av.n b by rw[hb];omega),cond_true,cB (show i<16 by omega),u9 (by omega)];simp only[ah];rw[nc (n:=i) (by rw[hI,List.length_take];omega) (by omega)];refine⟨_,rfl,?_⟩;show s.l++[bl b i]=_;rw[hI,h i hi,lS hi]
  .simp only[hZ];rw[decide_eq_false (show¬(L.length:Int)<av.n b by rw[hb];omega),cond_false]
 obtain⟨s,h1,h2⟩:=hl;refine⟨s,?_,h2⟩;unfold ii;simp only[eK,ah];rw[eU,show((1:Int) !=1)=false from rfl,cond_false];have h1:bw (hZ b) (0,Sl.nil)=some s:=h1;rw[h1];rfl
end Go.Proofs.YtjjajcecekocdaaGreat.A
