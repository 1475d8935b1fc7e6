/- Plans: the Pa times of jc. Conditions: as stated. -/
import Derived.Test.YthcplpfiidlinaaDoorJO
open Go.Ev Go
open List renaming getElem_map->gR,getElem_range->iV,range->aK
open Nat renaming zero_le->cX
open Option renaming bind_some->af
namespace Go.Proofs.YthcplpfiidlinaaDoor.J
theorem rt{N j:Nat}(f:Nat->Int)(hj:j<N):gt ((aK N).map f) j=f j:=by rw[cY (by simp[hj])];simp
theorem Nr{N k:Nat}(f:Nat->Int)(v:Int):((aK N).map f).set k v=(aK N).map fun j=>if j=k then v else f j:=by
 apply List.ext_getElem (by simp);intro i h1 h2;simp only[List.getElem_set,gR,iV];by_cases h:k=i
 .rw [if_pos h,if_pos h.symm]
 .rw [if_neg h,if_neg (Ne.symm h)]
def lN(gap:Int)(i j:Nat):Int:=if j<=i then(j:Int)*gap else 0
theorem HE(gap:Int)(i:Nat):(fun j=>if j=i+1 then((i+1:Nat):Int)*gap else lN gap i j)=lN gap (i+1):=by
 funext j;unfold lN;by_cases h:j=i+1
 .rw [if_pos h,if_pos (by omega),h]
 .rw [if_neg h];by_cases h2:j<=i
  .rw [if_pos h2,if_pos (by omega)]
  .rw [if_neg h2,if_neg (by omega)]
section
variable{n:Nat}{gap:Int}{s:Sl bI}
theorem Er(hs:s.l=jM n gap){i:Nat}(hi:i<n):gt s.l i=((i:Int),((i+1:Nat):Int),gap):=by
 have hl:i<s.l.length:=by rw[hs];simp[jM,hi]
 rw[cY hl];simp only[hs,jM,gR,iV]
theorem FD{i n:Nat}{gap:Int}(h0:0<gap)(h1:gap<=1073741824)(hi:i<=n)(hn:n<=64):0<=(i:Int)*gap/\(i:Int)*gap<=68719476736:=by refine⟨Int.mul_nonneg (by omega) (by omega),?_⟩;have:=Int.mul_le_mul (show(i:Int)<=64 by omega) h1 (by omega) (by omega);omega
theorem RK(hn:n<=63)(h0:0<gap)(h1:gap<=1073741824)(hs:s.l=jM n gap){b:List Int}(hb:b.length=n+1):
  ∃b',bE (iC s) (-1,0,.mk ((aK (n+1)).map (lN gap 0)),.mk b)=some (if n=0 then-1 else(n:Int),.mk ((aK (n+1)).map (lN gap n)),.mk b')/\b'.length=n+1:=by
 have hlen:s.l.length=n:=by rw[hs];simp[jM]
 have h:=F4 (f:=iC s) (fun i(b:List Int)=>(if i=0 then-1 else(i:Int),(i:Int),Sl.mk ((aK (n+1)).map (lN gap i)),Sl.mk b)) n (fun _ b=>b.length=n+1)
  (fun r=>∃b',r=(if n=0 then-1 else(n:Int),Sl.mk ((aK (n+1)).map (lN gap n)),Sl.mk b')/\b'.length=n+1) (fun i b hi hb=>by
   left;have hg:=Er hs hi;have hil:i<s.l.length:=by omega
   have l1:i<(Sl.mk ((aK (n+1)).map (lN gap i))).l.length:=by simp;omega
   have l2:i+1<(Sl.mk ((aK (n+1)).map (lN gap i))).l.length:=by simp;omega
   have l3:i+1<(Sl.mk b).l.length:=by rw[Sl.iZ,hb];omega
   have g1:gt (Sl.mk ((aK (n+1)).map (lN gap i))).l i=(i:Int)*gap:=by rw[Sl.iZ,rt _ (by omega)];simp[lN]
   have g2:gt (Sl.mk ((aK (n+1)).map (lN gap i))).l (i+1)=0:=by rw[Sl.iZ,rt _ (by omega),lN,if_neg (by omega)]
   have hm:=FD h0 h1 (show i<=n by omega) (by omega);have em:(i:Int)*gap+gap=((i+1:Nat):Int)*gap:=by rw[show((i+1:Nat):Int)=(i:Int)+1 by omega,Int.add_mul,Int.one_mul]
   have hw:wr .i64 ((i:Int)*gap+gap)=((i+1:Nat):Int)*gap:=by rw[ir (by omega) (by omega),em]
   have hgt:decide (((i+1:Nat):Int)*gap>0)=true:=by rw[decide_eq_true_eq];omega
   refine⟨b.set (i+1) (i:Int),?_,by simp[hb]⟩;simp only[iC,jo hil,cond_true,bA hil,hg,bA l1,bA l2,bA l3,af,g1,g2,hw,hgt,lp (show i<9223372036854775807 by omega)];simp only[Sl.iZ,Nr,HE];rfl)
  (fun b hb=>⟨(if n=0 then-1 else(n:Int),Sl.mk ((aK (n+1)).map (lN gap n)),Sl.mk b),by simp only[iC,hlen,kG,cond_false],b,rfl,hb⟩) 0 b (cX _) hb
 obtain⟨r,h2,b',rfl,h3⟩:=h;exact⟨b',h2,h3⟩
theorem RJ(hn:n<=63)(h0:0<gap)(h1:gap<=1073741824)(hs:s.l=jM n gap)(b:Sl Int):
  bE (iC s) (-1,0,.mk ((aK (n+1)).map (lN gap n)),b)=some (-1,.mk ((aK (n+1)).map (lN gap n)),b):=by
 have hlen:s.l.length=n:=by rw[hs];simp[jM]
 have h:=F4 (f:=iC s) (fun i(_:Unit)=>((-1:Int),(i:Int),Sl.mk ((aK (n+1)).map (lN gap n)),b)) n (fun _ _=>True)
  (fun r=>r=((-1:Int),Sl.mk ((aK (n+1)).map (lN gap n)),b)) (fun i _ hi _=>by
   left;have hg:=Er hs hi;have hil:i<s.l.length:=by omega
   have l1:i<(Sl.mk ((aK (n+1)).map (lN gap n))).l.length:=by simp;omega
   have l2:i+1<(Sl.mk ((aK (n+1)).map (lN gap n))).l.length:=by simp;omega
   have g1:gt (Sl.mk ((aK (n+1)).map (lN gap n))).l i=(i:Int)*gap:=by rw[Sl.iZ,rt _ (by omega),lN,if_pos (by omega)]
   have g2:gt (Sl.mk ((aK (n+1)).map (lN gap n))).l (i+1)=((i+1:Nat):Int)*gap:=by rw[Sl.iZ,rt _ (by omega),lN,if_pos (by omega)]
   have hm:=FD h0 h1 (show i<=n by omega) (by omega);have em:(i:Int)*gap+gap=((i+1:Nat):Int)*gap:=by rw[show((i+1:Nat):Int)=(i:Int)+1 by omega,Int.add_mul,Int.one_mul]
   have hw:wr .i64 ((i:Int)*gap+gap)=((i+1:Nat):Int)*gap:=by rw[ir (by omega) (by omega),em]
   have hgt:decide (((i+1:Nat):Int)*gap>((i+1:Nat):Int)*gap)=false:=by rw[decide_eq_false_iff_not];omega
   refine⟨(),?_,trivial⟩;simp only[iC,jo hil,cond_true,bA hil,hg,bA l1,bA l2,af,g1,g2,hw,hgt,cond_false,lp (show i<9223372036854775807 by omega)])
  (fun _ _=>⟨_,by simp only[iC,hlen,kG,cond_false],rfl⟩) 0 () (cX _) trivial
 obtain⟨r,h2,rfl⟩:=h;exact h2
theorem Ko(hn:n<=63)(h0:0<gap)(h1:gap<=1073741824)(hs:s.l=jM n gap):∃b,tK ((n+1:Nat):Int) s=some (.mk (mh (n+1) gap),b,-1):=by
 have hmk:zE (0:Int) ((n+1:Nat):Int) ((n+1:Nat):Int)=some ((aK (n+1)).map (lN gap 0)):=by
  unfold zE;rw[if_pos ⟨by omega,Int.le_refl _,by omega⟩];congr 1;rw[Int.toNat_natCast];apply List.ext_getElem (by simp);intro i _ _;simp only[List.getElem_replicate,gR,iV,lN];by_cases h:i<=0
  .rw [if_pos h,show i=0 by omega];simp
  .rw [if_neg h]
 have ht:(aK (n+1)).map (lN gap n)=mh (n+1) gap:=by unfold mh;apply List.map_congr_left;intro j hj;rw[lN,if_pos (by have:=List.mem_range.1 hj;omega)]
 have hw:wr .i64 (((n+1:Nat):Int)+1)=((n+2:Nat):Int):=by rw[ir (by omega) (by omega)];omega
 obtain⟨b1,p1,p2⟩:=RK hn h0 h1 hs (b:=(aK (n+1)).map (lN gap 0)) (by simp)
 have hl:∃b,bE (mZ ((n+1:Nat):Int) s) (-1,0,.mk ((aK (n+1)).map (lN gap 0)),.mk ((aK (n+1)).map (lN gap 0)))=some (-1,.mk (mh (n+1) gap),b):=by
  have c1:decide ((0:Int)<((n+2:Nat):Int))=true:=by rw[decide_eq_true_eq];omega
  by_cases hz:n=0
  .rw [if_pos hz]at p1;refine⟨.mk b1,ct ?_⟩;simp only[mZ,hw,c1,cond_true,p1,af,ht];rfl
  .rw [if_neg hz]at p1;have c2:decide ((n:Int)<0)=false:=by rw[decide_eq_false_iff_not];omega
   have c3:decide ((1:Int)<((n+2:Nat):Int))=true:=by rw[decide_eq_true_eq];omega
   have p3:=RJ hn h0 h1 hs (.mk b1);rw[ht]at p3;refine⟨.mk b1,(dh (a':=((n:Int),(1:Int),.mk ((aK (n+1)).map (lN gap n)),.mk b1)) ?_).trans (ct ?_)⟩
   .simp only[mZ,hw,c1,cond_true,p1,af,c2,cond_false];rfl
   .simp only[mZ,hw,c3,cond_true,ht,p3,af];rfl
 obtain⟨b,hl⟩:=hl;exact⟨b,by simp only[tK,hmk,af,hl]⟩
theorem L_(hn:n<=63)(h0:0<gap)(h1:gap<=1073741824):pn ((n+1:Nat):Int) gap=some (.mk (mh (n+1) gap)):=by obtain⟨s,h2,h3⟩:=GA hn gap;obtain⟨b,h4⟩:=Ko hn h0 h1 h3;simp only[pn,h2,af,qp,Gc hn h0 h1 h3,Bool.not_true,cond_false,h4];rfl
end
end Go.Proofs.YthcplpfiidlinaaDoor.J
