/- Plans: the Pg times of jj. Conditions: as stated. -/
import Derived.Test.YthcplpfiidlinaaDoorJO
open Go.Ev Go
open List renaming getElem_map->gg,getElem_range->i_,range->aK
open Nat renaming zero_le->cF
open Option renaming bind_some->af
namespace Go.Proofs.YthcplpfiidlinaaDoor.J
theorem rt{N j:Nat}(f:Nat->Int)(hj:j<N):gt ((aK N).map f) j=f j:=by rw[cP (by simp[hj])];simp
theorem NC{N k:Nat}(f:Nat->Int)(v:Int):((aK N).map f).set k v=(aK N).map fun j=>if j=k then v else f j:=by
 apply List.ext_getElem (by simp);intro i h1 h2;simp only[List.getElem_set,gg,i_];by_cases h:k=i
 .rw [if_pos h,if_pos h.symm]
 .rw [if_neg h,if_neg (Ne.symm h)]
def lQ(gap:Int)(i j:Nat):Int:=if j<=i then(j:Int)*gap else 0
theorem HQ(gap:Int)(i:Nat):(fun j=>if j=i+1 then((i+1:Nat):Int)*gap else lQ gap i j)=lQ gap (i+1):=by
 funext j;unfold lQ;by_cases h:j=i+1
 .rw [if_pos h,if_pos (by omega),h]
 .rw [if_neg h];by_cases h2:j<=i
  .rw [if_pos h2,if_pos (by omega)]
  .rw [if_neg h2,if_neg (by omega)]
section
variable{n:Nat}{gap:Int}{s:Sl bG}
theorem Ew(hs:s.l=jN n gap){i:Nat}(hi:i<n):gt s.l i=((i:Int),((i+1:Nat):Int),gap):=by
 have hl:i<s.l.length:=by rw[hs];simp[jN,hi]
 rw[cP hl];simp only[hs,jN,gg,i_]
theorem FI{i n:Nat}{gap:Int}(h0:0<gap)(h1:gap<=1073741824)(hi:i<=n)(hn:n<=64):0<=(i:Int)*gap/\(i:Int)*gap<=68719476736:=by refine⟨Int.mul_nonneg (by omega) (by omega),?_⟩;have:=Int.mul_le_mul (show(i:Int)<=64 by omega) h1 (by omega) (by omega);omega
theorem RS(hn:n<=63)(h0:0<gap)(h1:gap<=1073741824)(hs:s.l=jN n gap){b:List Int}(hb:b.length=n+1):
  ∃b',bD (iE s) (-1,0,.mk ((aK (n+1)).map (lQ gap 0)),.mk b)=some (if n=0 then-1 else(n:Int),.mk ((aK (n+1)).map (lQ gap n)),.mk b')/\b'.length=n+1:=by
 have hlen:s.l.length=n:=by rw[hs];simp[jN]
 have h:=F_ (f:=iE s) (fun i(b:List Int)=>(if i=0 then-1 else(i:Int),(i:Int),Sl.mk ((aK (n+1)).map (lQ gap i)),Sl.mk b)) n (fun _ b=>b.length=n+1)
  (fun r=>∃b',r=(if n=0 then-1 else(n:Int),Sl.mk ((aK (n+1)).map (lQ gap n)),Sl.mk b')/\b'.length=n+1) (fun i b hi hb=>by
   left;have hg:=Ew hs hi;have hil:i<s.l.length:=by omega
   have l1:i<(Sl.mk ((aK (n+1)).map (lQ gap i))).l.length:=by simp;omega
   have l2:i+1<(Sl.mk ((aK (n+1)).map (lQ gap i))).l.length:=by simp;omega
   have l3:i+1<(Sl.mk b).l.length:=by rw[Sl.iM,hb];omega
   have g1:gt (Sl.mk ((aK (n+1)).map (lQ gap i))).l i=(i:Int)*gap:=by rw[Sl.iM,rt _ (by omega)];simp[lQ]
   have g2:gt (Sl.mk ((aK (n+1)).map (lQ gap i))).l (i+1)=0:=by rw[Sl.iM,rt _ (by omega),lQ,if_neg (by omega)]
   have hm:=FI h0 h1 (show i<=n by omega) (by omega);have em:(i:Int)*gap+gap=((i+1:Nat):Int)*gap:=by rw[show((i+1:Nat):Int)=(i:Int)+1 by omega,Int.add_mul,Int.one_mul]
   have hw:wr .i64 ((i:Int)*gap+gap)=((i+1:Nat):Int)*gap:=by rw[ie (by omega) (by omega),em]
   have hgt:decide (((i+1:Nat):Int)*gap>0)=true:=by rw[decide_eq_true_eq];omega
   refine⟨b.set (i+1) (i:Int),?_,by simp[hb]⟩;simp only[iE,js hil,cond_true,bp hil,hg,bp l1,bp l2,bp l3,af,g1,g2,hw,hgt,kY (show i<9223372036854775807 by omega)];simp only[Sl.iM,NC,HQ];rfl)
  (fun b hb=>⟨(if n=0 then-1 else(n:Int),Sl.mk ((aK (n+1)).map (lQ gap n)),Sl.mk b),by simp only[iE,hlen,kH,cond_false],b,rfl,hb⟩) 0 b (cF _) hb
 obtain⟨r,h2,b',rfl,h3⟩:=h;exact⟨b',h2,h3⟩
theorem RQ(hn:n<=63)(h0:0<gap)(h1:gap<=1073741824)(hs:s.l=jN n gap)(b:Sl Int):
  bD (iE s) (-1,0,.mk ((aK (n+1)).map (lQ gap n)),b)=some (-1,.mk ((aK (n+1)).map (lQ gap n)),b):=by
 have hlen:s.l.length=n:=by rw[hs];simp[jN]
 have h:=F_ (f:=iE s) (fun i(_:Unit)=>((-1:Int),(i:Int),Sl.mk ((aK (n+1)).map (lQ gap n)),b)) n (fun _ _=>True)
  (fun r=>r=((-1:Int),Sl.mk ((aK (n+1)).map (lQ gap n)),b)) (fun i _ hi _=>by
   left;have hg:=Ew hs hi;have hil:i<s.l.length:=by omega
   have l1:i<(Sl.mk ((aK (n+1)).map (lQ gap n))).l.length:=by simp;omega
   have l2:i+1<(Sl.mk ((aK (n+1)).map (lQ gap n))).l.length:=by simp;omega
   have g1:gt (Sl.mk ((aK (n+1)).map (lQ gap n))).l i=(i:Int)*gap:=by rw[Sl.iM,rt _ (by omega),lQ,if_pos (by omega)]
   have g2:gt (Sl.mk ((aK (n+1)).map (lQ gap n))).l (i+1)=((i+1:Nat):Int)*gap:=by rw[Sl.iM,rt _ (by omega),lQ,if_pos (by omega)]
   have hm:=FI h0 h1 (show i<=n by omega) (by omega);have em:(i:Int)*gap+gap=((i+1:Nat):Int)*gap:=by rw[show((i+1:Nat):Int)=(i:Int)+1 by omega,Int.add_mul,Int.one_mul]
   have hw:wr .i64 ((i:Int)*gap+gap)=((i+1:Nat):Int)*gap:=by rw[ie (by omega) (by omega),em]
   have hgt:decide (((i+1:Nat):Int)*gap>((i+1:Nat):Int)*gap)=false:=by rw[decide_eq_false_iff_not];omega
   refine⟨(),?_,trivial⟩;simp only[iE,js hil,cond_true,bp hil,hg,bp l1,bp l2,af,g1,g2,hw,hgt,cond_false,kY (show i<9223372036854775807 by omega)])
  (fun _ _=>⟨_,by simp only[iE,hlen,kH,cond_false],rfl⟩) 0 () (cF _) trivial
 obtain⟨r,h2,rfl⟩:=h;exact h2
theorem KB(hn:n<=63)(h0:0<gap)(h1:gap<=1073741824)(hs:s.l=jN n gap):∃b,tK ((n+1:Nat):Int) s=some (.mk (mm (n+1) gap),b,-1):=by
 have hmk:zD (0:Int) ((n+1:Nat):Int) ((n+1:Nat):Int)=some ((aK (n+1)).map (lQ gap 0)):=by
  unfold zD;rw[if_pos ⟨by omega,Int.le_refl _,by omega⟩];congr 1;rw[Int.toNat_natCast];apply List.ext_getElem (by simp);intro i _ _;simp only[List.getElem_replicate,gg,i_,lQ];by_cases h:i<=0
  .rw [if_pos h,show i=0 by omega];simp
  .rw [if_neg h]
 have ht:(aK (n+1)).map (lQ gap n)=mm (n+1) gap:=by unfold mm;apply List.map_congr_left;intro j hj;rw[lQ,if_pos (by have:=List.mem_range.1 hj;omega)]
 have hw:wr .i64 (((n+1:Nat):Int)+1)=((n+2:Nat):Int):=by rw[ie (by omega) (by omega)];omega
 obtain⟨b1,p1,p2⟩:=RS hn h0 h1 hs (b:=(aK (n+1)).map (lQ gap 0)) (by simp)
 have hl:∃b,bD (nc ((n+1:Nat):Int) s) (-1,0,.mk ((aK (n+1)).map (lQ gap 0)),.mk ((aK (n+1)).map (lQ gap 0)))=some (-1,.mk (mm (n+1) gap),b):=by
  have c1:decide ((0:Int)<((n+2:Nat):Int))=true:=by rw[decide_eq_true_eq];omega
  by_cases hz:n=0
  .rw [if_pos hz]at p1;refine⟨.mk b1,cA ?_⟩;simp only[nc,hw,c1,cond_true,p1,af,ht];rfl
  .rw [if_neg hz]at p1;have c2:decide ((n:Int)<0)=false:=by rw[decide_eq_false_iff_not];omega
   have c3:decide ((1:Int)<((n+2:Nat):Int))=true:=by rw[decide_eq_true_eq];omega
   have p3:=RQ hn h0 h1 hs (.mk b1);rw[ht]at p3;refine⟨.mk b1,(dl (a':=((n:Int),(1:Int),.mk ((aK (n+1)).map (lQ gap n)),.mk b1)) ?_).trans (cA ?_)⟩
   .simp only[nc,hw,c1,cond_true,p1,af,c2,cond_false];rfl
   .simp only[nc,hw,c3,cond_true,ht,p3,af];rfl
 obtain⟨b,hl⟩:=hl;exact⟨b,by simp only[tK,hmk,af,hl]⟩
theorem Mn(hn:n<=63)(h0:0<gap)(h1:gap<=1073741824):pu ((n+1:Nat):Int) gap=some (.mk (mm (n+1) gap)):=by obtain⟨s,h2,h3⟩:=GF hn gap;obtain⟨b,h4⟩:=KB hn h0 h1 h3;simp only[pu,h2,af,qq,Gi hn h0 h1 h3,Bool.not_true,cond_false,h4];rfl
end
end Go.Proofs.YthcplpfiidlinaaDoor.J
