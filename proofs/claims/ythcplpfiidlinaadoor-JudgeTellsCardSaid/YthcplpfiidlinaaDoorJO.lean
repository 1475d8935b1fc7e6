/- Plans: how long a packet is on its way, which switches have moves in a round, and the times. Conditions: as stated. -/
import Derived.Test.YthcplpfiidlinaaDoorJN
open Go.Ev Go
open List renaming take_length->f_
open Nat renaming zero_le->cO
open Option renaming bind_some->ae
namespace Go.Proofs.YthcplpfiidlinaaDoor.J
def oG(l:List bi):Int:=l.foldl (fun m x=>if x.lS>m then x.lS else m) 0
theorem AH(l:List bi){i:Nat}(hi:i<l.length):oG (l.take (i+1))=if(gt l i).lS>oG (l.take i)then(gt l i).lS else oG (l.take i):=by unfold oG;rw[dV hi,<-List.take_append_getElem hi,List.foldl_append];rfl
theorem JE{t:af}(hb:t.aY.l.length<9223372036854775808):lG t=some (oG t.aY.l):=by
 have e0:((0:Nat):Int)=0:=rfl
 have h:bc (ji t) (0,0)=some (oG t.aY.l):=by
  have h1:=Pk (f:=ji t) (fun i(m:Int)=>(m,(i:Int))) t.aY.l.length (fun i m=>m=oG (t.aY.l.take i)) (fun b=>b=oG t.aY.l) (fun i m hi hm=>by
   left;refine⟨_,?_,(AH _ hi).symm⟩;subst hm;simp only[ji,fz hi,cond_true,bm hi,ae,gB (show i<9223372036854775807 by omega)])
   (fun m hm=>⟨m,by simp only[ji,gk,cond_false],by rw[hm,f_]⟩) 0 0 (cO _) rfl
  obtain⟨b,h1,rfl⟩:=h1;exact h1
 simp only[lG,h,ae]
theorem Dh{t:af}(hb:t.aY.l.length<9223372036854775808):ou t=some (oG t.aY.l):=by
 have h:bc (jR t) (0,0)=some (oG t.aY.l):=by
  have h1:=Pk (f:=jR t) (fun i(m:Int)=>(m,(i:Int))) t.aY.l.length (fun i m=>m=oG (t.aY.l.take i)) (fun b=>b=oG t.aY.l) (fun i m hi hm=>by
   left;refine⟨_,?_,(AH _ hi).symm⟩;subst hm;simp only[jR,fz hi,cond_true,bm hi,ae,gB (show i<9223372036854775807 by omega)];by_cases hc:(gt t.aY.l i).lS>oG (t.aY.l.take i)
   .rw [if_pos hc,decide_eq_true hc];rfl
   .rw [if_neg hc,decide_eq_false hc];rfl)
   (fun m hm=>⟨m,by simp only[jR,gk,cond_false],by rw[hm,f_]⟩) 0 0 (cO _) rfl
  obtain⟨b,h1,rfl⟩:=h1;exact h1
 simp only[ou,h,ae]
theorem Mq{l:List bi}(h:∀x∈l,qo x):0<=oG l/\oG l<=1000:=by
 have:∀(l:List bi)(m:Int),(∀x∈l,qo x)->0<=m/\m<=1000->0<=l.foldl (fun m x=>if x.lS>m then x.lS else m) m/\l.foldl (fun m x=>if x.lS>m then x.lS else m) m<=1000:=by intro l;induction l with|nil=>intro m _ hm;exact hm|cons x l ih=>intro m h hm;refine ih _ (fun y hy=>h y (List.mem_cons_of_mem _ hy)) ?_;have:=h x (List.mem_cons_self ..);unfold qo at this;show 0<=(if x.lS>m then x.lS else m)/\(if x.lS>m then x.lS else m)<=1000;split<;>omega
 exact this l 0 h ⟨by omega,by omega⟩
def j_(t:af):Int:=t.aU*oG t.aY.l
theorem xZ{t:af}(hV:kS t):0<=j_ t/\j_ t<=8000:=by obtain⟨h1,h2⟩:=Mq hV.O8;obtain⟨h3,h4⟩:=hV.sw;unfold j_;generalize oG t.aY.l=s at*;generalize t.aU=n at*;refine⟨Int.mul_nonneg (by omega) h1,?_⟩;have:=Int.mul_le_mul h4 h2 h1 (by omega);omega
theorem KD{t:af}(hV:kS t):pL t=some (j_ t):=by have:=xZ hV;have hl:=hV.xx;simp only[pL,JE (show t.aY.l.length<9223372036854775808 by omega),ae];exact congrArg some (ku (n:=j_ t) (by omega) (by omega))
theorem Di{t:af}(hV:kS t):se t=some (j_ t):=by have:=xZ hV;have hl:=hV.xx;simp only[se,Dh (show t.aY.l.length<9223372036854775808 by omega),ae];exact congrArg some (ku (n:=j_ t) (by omega) (by omega))
theorem M9{t:af}(hV:kS t){miss:Int}(h0:0<=miss)(h1:miss<=1048576):pZ t miss=some (2*miss+j_ t+1):=by have:=xZ hV;simp only[pZ,KD hV,ae];rw[ku (n:=2*miss) (by omega) (by omega),ku (n:=2*miss+j_ t) (by omega) (by omega),ku (by omega) (by omega)]
end Go.Proofs.YthcplpfiidlinaaDoor.J
