/- Plans: how long a packet is on its way, which switches have moves in a round, and the times. Conditions: as stated. -/
import Derived.Test.YthcplpfiidlinaaDoorJN
open Go.Ev Go
open Option renaming bind_some->ae
namespace Go.Proofs.YthcplpfiidlinaaDoor.J
def ra(l:List bA):Int:=l.foldl (fun m x=>if x.pk>m then x.pk else m) 0
theorem Gc(l:List bA){i:Nat}(hi:i<l.length):ra (l.take (i+1))=if(gt l i).pk>ra (l.take i)then(gt l i).pk else ra (l.take i):=by unfold ra;rw[eA hi,<-List.take_append_getElem hi,List.foldl_append];rfl
theorem Ic{t:ah}(hb:t.bT.l.length<9223372036854775808):kR t=some (ra t.bT.l):=by
 have e0:((0:Nat):Int)=0:=rfl
 have h:br (iR t) (0,0)=some (ra t.bT.l):=by
  have h1:=Ph (f:=iR t) (fun i(m:Int)=>(m,(i:Int))) t.bT.l.length (fun i m=>m=ra (t.bT.l.take i)) (fun b=>b=ra t.bT.l) (fun i m hi hm=>by
   left;refine⟨_,?_,(Gc _ hi).symm⟩;subst hm;simp only[iR,jm hi,cond_true,bI hi,ae,kz (show i<9223372036854775807 by omega)])
   (fun m hm=>⟨m,by simp only[iR,j4,cond_false],by rw[hm,List.take_length]⟩) 0 0 (Nat.zero_le _) rfl
  obtain⟨b,h1,rfl⟩:=h1;exact h1
 simp only[kR,h,ae]
theorem K2{l:List bA}(h:∀x∈l,t4 x):0<=ra l/\ra l<=1000:=by
 have:∀(l:List bA)(m:Int),(∀x∈l,t4 x)->0<=m/\m<=1000->0<=l.foldl (fun m x=>if x.pk>m then x.pk else m) m/\l.foldl (fun m x=>if x.pk>m then x.pk else m) m<=1000:=by intro l;induction l with|nil=>intro m _ hm;exact hm|cons x l ih=>intro m h hm;refine ih _ (fun y hy=>h y (List.mem_cons_of_mem _ hy)) ?_;have:=h x (List.mem_cons_self ..);unfold t4 at this;show 0<=(if x.pk>m then x.pk else m)/\(if x.pk>m then x.pk else m)<=1000;split<;>omega
 exact this l 0 h ⟨by omega,by omega⟩
def qb(t:ah):Int:=t.bh*ra t.bT.l
theorem FE{t:ah}(hV:mn t):0<=qb t/\qb t<=8000:=by obtain⟨h1,h2⟩:=K2 hV.NJ;obtain⟨h3,h4⟩:=hV.sw;unfold qb;generalize ra t.bT.l=s at*;generalize t.bh=n at*;refine⟨Int.mul_nonneg (by omega) h1,?_⟩;have:=Int.mul_le_mul h4 h2 h1 (by omega);omega
theorem Ja{t:ah}(hV:mn t):oB t=some (qb t):=by have:=FE hV;have hl:=hV.FD;simp only[oB,Ic (show t.bT.l.length<9223372036854775808 by omega),ae];exact congrArg some (nT (n:=qb t) (by omega) (by omega))
theorem LL{t:ah}(hV:mn t){miss:Int}(h0:0<=miss)(h1:miss<=1048576):oN t miss=some (2*miss+qb t+1):=by have:=FE hV;simp only[oN,Ja hV,ae];rw[nT (n:=2*miss) (by omega) (by omega),nT (n:=2*miss+qb t) (by omega) (by omega),nT (by omega) (by omega)]
end Go.Proofs.YthcplpfiidlinaaDoor.J
