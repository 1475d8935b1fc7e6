/- Plans: how long a packet is on its way, which switches have moves in a round, and the times. Conditions: as stated. -/
import Derived.Test.YthcplpfiidlinaaLC
open Go.Ev Go
namespace Go.Proofs.Ythcplpfiidlinaa.L
def slowF(l:List api_Link):Int:=l.foldl (λm x=>if x.Most > m then x.Most else m) 0
theorem qnz(l:List api_Link){i:Nat}(hi:i < l.length):slowF (l.take (i+1))=if (gt l i).Most > slowF (l.take i)then (gt l i).Most else slowF (l.take i):=by
 unfold slowF
 rw [gt_eq hi,<- List.take_append_getElem hi,List.foldl_append]; rfl
theorem qqx{t:api_Topo}(hb:t.Links.l.length < 9223372036854775808):q36 t=some (slowF t.Links.l):=by
 have e0:((0:Nat):Int)=0:=rfl
 have h:loopO (q1y t) (0,0)=some (slowF t.Links.l):=by
  have h1:=forI (f:=q1y t) (λi (m:Int)=>(m,(i:Int))) t.Links.l.length (λi m=>m=slowF (t.Links.l.take i)) (λb=>b=slowF t.Links.l) (λi m hi hm=>by
   left
   refine ⟨_, ?_,(qnz _ hi).symm⟩
   subst hm
   simp only [q1y,lt_t hi,cond_true,q08 hi,Option.bind_some,wr_s (show i < 9223372036854775807 by omega)])
   (λm hm=>⟨m,by simp only [q1y,lt_f,cond_false],by rw [hm,List.take_length]⟩) 0 0 (Nat.zero_le _) rfl
  obtain ⟨b,h1,rfl⟩:=h1
  exact h1
 simp only [q36,h,Option.bind_some]
theorem quk{l:List api_Link}(h:∀x∈l,qao x):0<=slowF l/\slowF l<=1000:=by
 have:∀(l:List api_Link) (m:Int),(∀ x∈l,qao x)->0<=m/\m<=1000->0<=l.foldl (λm x=>if x.Most > m then x.Most else m) m/\l.foldl (λm x=>if x.Most > m then x.Most else m) m<=1000:=by
  intro l
  induction l with
  | nil=>intro m _ hm; exact hm
  | cons x l ih=>
   intro m h hm
   refine ih _ (λy hy=>h y (List.mem_cons_of_mem _ hy)) ?_
   have:=h x (List.mem_cons_self ..)
   unfold qao at this
   show 0<=(if x.Most > m then x.Most else m)/\(if x.Most > m then x.Most else m)<=1000
   split <;> omega
 exact this l 0 h ⟨by omega,by omega⟩
def lifeF(t:api_Topo):Int:=t.Switches * slowF t.Links.l
theorem q97{t:api_Topo}(hV:Valid t):0<=lifeF t/\lifeF t<=8000:=by
 obtain ⟨h1,h2⟩:=quk hV.link
 obtain ⟨h3,h4⟩:=hV.sw
 unfold lifeF
 generalize slowF t.Links.l=s at *
 generalize t.Switches=n at *
 refine ⟨Int.mul_nonneg (by omega) h1, ?_⟩
 have:=Int.mul_le_mul h4 h2 h1 (by omega)
 omega
theorem qjf{t:api_Topo}(hV:Valid t):q4v t=some (lifeF t):=by
 have:=q97 hV
 have hl:=hV.links
 simp only [q4v,qqx (show t.Links.l.length < 9223372036854775808 by omega),Option.bind_some]
 exact congrArg some (wr_id (n:=lifeF t) (by omega) (by omega))
theorem qtt{t:api_Topo}(hV:Valid t){miss:Int}(h0:0<=miss)(h1:miss<=1048576):q62 t miss=some (2 * miss+lifeF t+1):=by
 have:=q97 hV
 simp only [q62,qjf hV,Option.bind_some]
 rw [wr_id (n:=2 * miss) (by omega) (by omega),wr_id (n:=2 * miss+lifeF t) (by omega) (by omega),wr_id (by omega) (by omega)]
def qjd(l:List level_Move):Prop:=l.Pairwise Bef
structure SwsOf (l:List level_Move) (round:Int) (s:List Int):Prop where
 asc:s.Pairwise (· < ·)
 mem:∀x,x∈s↔∃m∈l,m.2.2.2=round/\m.1=x
theorem qrb{s:List Int}{x:Int}(h:s.Pairwise (· < ·))(hx:∀y∈s,y < x):(s++ [x]).Pairwise (· < ·):=
 List.pairwise_append.2 ⟨h,by simp,λa ha b hb=>by obtain rfl:=List.mem_singleton.1 hb; exact hx a ha⟩
theorem qu9{l:Sl level_Move}(hs:qjd l.l)(hb:l.l.length<=1000)(round:Int):∃s,q7l l round=some s/\SwsOf l.l round s.l:=by
 have h1:=forI (f:=q25 l round) (λi (s:Sl Int)=>((i:Int),s)) l.l.length (λi s=>s.l.length<=i/\SwsOf (l.l.take i) round s.l) (λs=>SwsOf l.l round s.l) (λi s hi ⟨hlen,hI⟩=>by
  left
  have et:l.l.take (i+1)=l.l.take i++ [gt l.l i]:=by rw [gt_eq hi,List.take_append_getElem hi]
  have hc:=q3l (s:=s) (gt l.l i).1 (by omega)
  have hpre:∀m∈l.l.take i,Bef m (gt l.l i):=λm hm=>by
   have:=hs
   unfold qjd at this
   rw [<- List.take_append_drop i l.l]at this
   refine (List.pairwise_append.1 this).2.2 m hm _ ?_
   rw [List.drop_eq_getElem_cons hi,<- gt_eq hi]
   exact List.mem_cons_self ..
  have hmem1:∀x,(∃ m∈l.l.take (i+1),m.2.2.2=round/\m.1=x)↔(∃ m∈l.l.take i,m.2.2.2=round/\m.1=x)\/((gt l.l i).2.2.2=round/\(gt l.l i).1=x):=λx=>by
   rw [et]
   simp only [List.mem_append,List.mem_singleton]
   constructor
   ·rintro ⟨m,hm | rfl,h⟩
    ·exact .inl ⟨m,hm,h⟩
    ·exact .inr h
   ·rintro (⟨m,hm,h⟩ | h)
    ·exact ⟨m, .inl hm,h⟩
    ·exact ⟨_, .inr rfl,h⟩
  by_cases hr:(gt l.l i).2.2.2=round
  ·by_cases hm:(gt l.l i).1∈s.l
   ·refine ⟨s, ?_,by omega,hI.asc,λx=> ?_⟩
    ·rw [decide_eq_true hm]at hc
     simp only [q25,lt_t hi,cond_true,q08 hi,Option.bind_some,hr,beq_self_eq_true,hc,Bool.not_true,cond_false,wr_s (show i < 9223372036854775807 by omega)]
    ·rw [hmem1,hI.mem]
     refine ⟨.inl,λh=>h.elim id λ⟨_,h2⟩=> ?_⟩
     rw [<- hI.mem,<- h2]; exact hm
   ·refine ⟨.mk (s.l++ [(gt l.l i).1]), ?_,by rw [Sl.l_mk,List.length_append,List.length_singleton]; omega, ?_,λx=> ?_⟩
    ·rw [decide_eq_false hm]at hc
     simp only [q25,lt_t hi,cond_true,q08 hi,Option.bind_some,hr,beq_self_eq_true,hc,Bool.not_false,q3e (show (s.l++ [(gt l.l i).1]).length<=2147483648 by rw [List.length_append,List.length_singleton]; omega),wr_s (show i < 9223372036854775807 by omega)]
    ·refine qrb hI.asc λy hy=> ?_
     obtain ⟨m,h1,h2,h3⟩:=(hI.mem y).1 hy
     have h4:=hpre m h1
     unfold Bef at h4
     have:y≠(gt l.l i).1:=λe=>hm (e▸hy)
     omega
    ·rw [hmem1,Sl.l_mk,List.mem_append,List.mem_singleton,hI.mem]
     refine or_congr Iff.rfl ⟨λh=>⟨hr,h.symm⟩,λh=>h.2.symm⟩
  ·have hr2:((gt l.l i).2.2.2 == round)=false:=by rw [beq_eq_false_iff_ne]; exact hr
   refine ⟨s, ?_,by omega,hI.asc,λx=> ?_⟩
   ·simp only [q25,lt_t hi,cond_true,q08 hi,Option.bind_some,hr2,cond_false,wr_s (show i < 9223372036854775807 by omega)]
   ·rw [hmem1,hI.mem]
    exact ⟨.inl,λh=>h.elim id λh=>absurd h.1 hr⟩)
  (λs ⟨_,hI⟩=>⟨s,by simp only [q25,lt_f,cond_false],by rw [List.take_length]at hI; exact hI⟩) 0 .nil (Nat.zero_le _) ⟨Nat.le_refl _,by simp,λx=>by simp⟩
 obtain ⟨s,h1,h2⟩:=h1
 have h1:loopO (q25 l round) (0,Sl.nil)=some s:=h1
 exact ⟨s,by simp only [q7l,h1,Option.bind_some],h2⟩
def q4x(n:Nat)(gap:Int):List Int:=(List.range n).map λ(i:Nat)=>(i:Int) * gap
theorem qqn{n i:Nat}{gap:Int}(hi:i < n):gt (q4x n gap) i=(i:Int) * gap:=by
 rw [gt_eq (by simp [q4x,hi])]; simp [q4x]
def q2x(n:Nat)(gap:Int):List diff_After:=(List.range n).map λ(i:Nat)=>((i:Int),((i+1:Nat):Int),gap)
theorem qjz{n:Nat}(hn:n<=63)(gap:Int):∃s,loopO (q2r ((n+1:Nat):Int) gap) (1,Sl.nil)=some s/\s.l=q2x n gap:=by
 have h1:=forI (f:=q2r ((n+1:Nat):Int) gap) (λi (s:Sl diff_After)=>(((i+1:Nat):Int),s)) n (λi s=>s.l=q2x i gap) (λs=>s.l=q2x n gap) (λi s hi hs=>by
  left
  have hlen:s.l.length=i:=by rw [hs]; simp [q2x]
  have hw:wr .i64 (((i+1:Nat):Int) - 1)=(i:Int):=by rw [wr_id (by omega) (by omega)]; omega
  exact ⟨.mk (s.l++ [((i:Int),((i+1:Nat):Int),gap)]),by
   simp only [q2r,lt_t (show i+1 < n+1 by omega),cond_true,hw,q3e (show (s.l++ [(((i:Int),((i+1:Nat):Int),gap):diff_After)]).length<=2147483648 by rw [List.length_append,List.length_singleton]; omega),Option.bind_some,wr_s (show i+1 < 9223372036854775807 by omega)],by
   rw [Sl.l_mk,hs]; simp [q2x,List.range_succ]⟩)
  (λs hs=>⟨s,by simp only [q2r,lt_f,cond_false],hs⟩) 0 .nil (Nat.zero_le _) rfl
 exact h1
theorem ql4{n:Nat}(hn:n<=63){gap:Int}(h0:0 < gap)(h1:gap<=1073741824){s:Sl diff_After}(hs:s.l=q2x n gap):q4f ((n+1:Nat):Int) s=some true:=by
 have hlen:s.l.length=n:=by rw [hs]; simp [q2x]
 have hi:=scanE (f:=q02 s ((n+1:Nat):Int)) (β:=Int) (γ:=Unit) s.l (λ_ _=>none) () (by omega) (λi hi=>by
  have hg:gt s.l i=((i:Int),((i+1:Nat):Int),gap):=by
   rw [gt_eq hi]; simp only [hs,q2x,List.getElem_map,List.getElem_range]
  have hc:((((((decide ((i:Int) < 0)) || (decide ((i:Int) >= ((n+1:Nat):Int)))) || (decide (((i+1:Nat):Int) < 0))) || (decide (((i+1:Nat):Int) >= ((n+1:Nat):Int)))) || (decide (gap < (-1073741824)))) || (decide (gap > 1073741824)))=false:=by
   simp only [Bool.or_eq_false_iff,decide_eq_false_iff_not]; omega
  simp only [q02,lt_t hi,cond_true,q08 hi,Option.bind_some,q6x,hg,hc,cond_false]) (by simp only [q02,lt_f,cond_false])
 have h2:scan (β:=Int) (λ(_:Nat) (_:diff_After)=>none) s.l 0=none:=q2z.2 λ_ _ _=>rfl
 rw [h2]at hi
 have hc:(((decide (((n+1:Nat):Int) < 0)) || (decide (((n+1:Nat):Int) > 64))) || (decide ((s.l.length:Int) > 256)))=false:=by
  simp only [Bool.or_eq_false_iff,decide_eq_false_iff_not]; omega
 simp only [q4f,hc,cond_false,q01,q03,hi,Option.bind_some]
 rfl
end Go.Proofs.Ythcplpfiidlinaa.L
