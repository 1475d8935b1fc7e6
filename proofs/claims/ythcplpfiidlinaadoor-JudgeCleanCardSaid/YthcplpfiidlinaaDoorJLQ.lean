/- Plans: the Pk times of jk. Conditions: as stated. -/
import Derived.Test.YthcplpfiidlinaaDoorJO
open Go.Ev Go
open List renaming getElem_map->gg,getElem_range->jb,range->aK
open Nat renaming zero_le->cG
open Option renaming bind_some->af
namespace Go.Proofs.YthcplpfiidlinaaDoor.J
theorem rz{N j:Nat}(f:Nat->Int)(hj:j<N):gt ((aK N).map f) j=f j:=by rw[cR (by simp[hj])];simp
theorem NG{N k:Nat}(f:Nat->Int)(v:Int):((aK N).map f).set k v=(aK N).map fun j=>if j=k then v else f j:=by
 apply List.ext_getElem (by simp);intro i h1 h2;simp only[List.getElem_set,gg,jb];by_cases h:k=i
 .rw [if_pos h,if_pos h.symm]
 .rw [if_neg h,if_neg (Ne.symm h)]
def lT(gap:Int)(i j:Nat):Int:=if j<=i then(j:Int)*gap else 0
theorem HX(gap:Int)(i:Nat):(fun j=>if j=i+1 then((i+1:Nat):Int)*gap else lT gap i j)=lT gap (i+1):=by
 funext j;unfold lT;by_cases h:j=i+1
 .rw [if_pos h,if_pos (by omega),h]
 .rw [if_neg h];by_cases h2:j<=i
  .rw [if_pos h2,if_pos (by omega)]
  .rw [if_neg h2,if_neg (by omega)]
section
variable{n:Nat}{gap:Int}{s:Sl bG}
theorem EC(hs:s.l=jQ n gap){i:Nat}(hi:i<n):gt s.l i=((i:Int),((i+1:Nat):Int),gap):=by
 have hl:i<s.l.length:=by rw[hs];simp[jQ,hi]
 rw[cR hl];simp only[hs,jQ,gg,jb]
theorem FN{i n:Nat}{gap:Int}(h0:0<gap)(h1:gap<=1073741824)(hi:i<=n)(hn:n<=64):0<=(i:Int)*gap/\(i:Int)*gap<=68719476736:=by refine⟨Int.mul_nonneg (by omega) (by omega),?_⟩;have:=Int.mul_le_mul (show(i:Int)<=64 by omega) h1 (by omega) (by omega);omega
theorem R0(hn:n<=63)(h0:0<gap)(h1:gap<=1073741824)(hs:s.l=jQ n gap){b:List Int}(hb:b.length=n+1):
  ∃b',bD (iG s) (-1,0,.mk ((aK (n+1)).map (lT gap 0)),.mk b)=some (if n=0 then-1 else(n:Int),.mk ((aK (n+1)).map (lT gap n)),.mk b')/\b'.length=n+1:=by
 have hlen:s.l.length=n:=by rw[hs];simp[jQ]
 have h:=Gd (f:=iG s) (fun i(b:List Int)=>(if i=0 then-1 else(i:Int),(i:Int),Sl.mk ((aK (n+1)).map (lT gap i)),Sl.mk b)) n (fun _ b=>b.length=n+1)
  (fun r=>∃b',r=(if n=0 then-1 else(n:Int),Sl.mk ((aK (n+1)).map (lT gap n)),Sl.mk b')/\b'.length=n+1) (fun i b hi hb=>by
   left;have hg:=EC hs hi;have hil:i<s.l.length:=by omega
   have l1:i<(Sl.mk ((aK (n+1)).map (lT gap i))).l.length:=by simp;omega
   have l2:i+1<(Sl.mk ((aK (n+1)).map (lT gap i))).l.length:=by simp;omega
   have l3:i+1<(Sl.mk b).l.length:=by rw[Sl.iO,hb];omega
   have g1:gt (Sl.mk ((aK (n+1)).map (lT gap i))).l i=(i:Int)*gap:=by rw[Sl.iO,rz _ (by omega)];simp[lT]
   have g2:gt (Sl.mk ((aK (n+1)).map (lT gap i))).l (i+1)=0:=by rw[Sl.iO,rz _ (by omega),lT,if_neg (by omega)]
   have hm:=FN h0 h1 (show i<=n by omega) (by omega);have em:(i:Int)*gap+gap=((i+1:Nat):Int)*gap:=by rw[show((i+1:Nat):Int)=(i:Int)+1 by omega,Int.add_mul,Int.one_mul]
   have hw:wr .i64 ((i:Int)*gap+gap)=((i+1:Nat):Int)*gap:=by rw[ig (by omega) (by omega),em]
   have hgt:decide (((i+1:Nat):Int)*gap>0)=true:=by rw[decide_eq_true_eq];omega
   refine⟨b.set (i+1) (i:Int),?_,by simp[hb]⟩;simp only[iG,jt hil,cond_true,bq hil,hg,bq l1,bq l2,bq l3,af,g1,g2,hw,hgt,k9 (show i<9223372036854775807 by omega)];simp only[Sl.iO,NG,HX];rfl)
  (fun b hb=>⟨(if n=0 then-1 else(n:Int),Sl.mk ((aK (n+1)).map (lT gap n)),Sl.mk b),by simp only[iG,hlen,kK,cond_false],b,rfl,hb⟩) 0 b (cG _) hb
 obtain⟨r,h2,b',rfl,h3⟩:=h;exact⟨b',h2,h3⟩
theorem RZ(hn:n<=63)(h0:0<gap)(h1:gap<=1073741824)(hs:s.l=jQ n gap)(b:Sl Int):
  bD (iG s) (-1,0,.mk ((aK (n+1)).map (lT gap n)),b)=some (-1,.mk ((aK (n+1)).map (lT gap n)),b):=by
 have hlen:s.l.length=n:=by rw[hs];simp[jQ]
 have h:=Gd (f:=iG s) (fun i(_:Unit)=>((-1:Int),(i:Int),Sl.mk ((aK (n+1)).map (lT gap n)),b)) n (fun _ _=>True)
  (fun r=>r=((-1:Int),Sl.mk ((aK (n+1)).map (lT gap n)),b)) (fun i _ hi _=>by
   left;have hg:=EC hs hi;have hil:i<s.l.length:=by omega
   have l1:i<(Sl.mk ((aK (n+1)).map (lT gap n))).l.length:=by simp;omega
   have l2:i+1<(Sl.mk ((aK (n+1)).map (lT gap n))).l.length:=by simp;omega
   have g1:gt (Sl.mk ((aK (n+1)).map (lT gap n))).l i=(i:Int)*gap:=by rw[Sl.iO,rz _ (by omega),lT,if_pos (by omega)]
   have g2:gt (Sl.mk ((aK (n+1)).map (lT gap n))).l (i+1)=((i+1:Nat):Int)*gap:=by rw[Sl.iO,rz _ (by omega),lT,if_pos (by omega)]
   have hm:=FN h0 h1 (show i<=n by omega) (by omega);have em:(i:Int)*gap+gap=((i+1:Nat):Int)*gap:=by rw[show((i+1:Nat):Int)=(i:Int)+1 by omega,Int.add_mul,Int.one_mul]
   have hw:wr .i64 ((i:Int)*gap+gap)=((i+1:Nat):Int)*gap:=by rw[ig (by omega) (by omega),em]
   have hgt:decide (((i+1:Nat):Int)*gap>((i+1:Nat):Int)*gap)=false:=by rw[decide_eq_false_iff_not];omega
   refine⟨(),?_,trivial⟩;simp only[iG,jt hil,cond_true,bq hil,hg,bq l1,bq l2,af,g1,g2,hw,hgt,cond_false,k9 (show i<9223372036854775807 by omega)])
  (fun _ _=>⟨_,by simp only[iG,hlen,kK,cond_false],rfl⟩) 0 () (cG _) trivial
 obtain⟨r,h2,rfl⟩:=h;exact h2
theorem KE(hn:n<=63)(h0:0<gap)(h1:gap<=1073741824)(hs:s.l=jQ n gap):∃b,tP ((n+1:Nat):Int) s=some (.mk (mr (n+1) gap),b,-1):=by
 have hmk:zL (0:Int) ((n+1:Nat):Int) ((n+1:Nat):Int)=some ((aK (n+1)).map (lT gap 0)):=by
  unfold zL;rw[if_pos ⟨by omega,Int.le_refl _,by omega⟩];congr 1;rw[Int.toNat_natCast];apply List.ext_getElem (by simp);intro i _ _;simp only[List.getElem_replicate,gg,jb,lT];by_cases h:i<=0
  .rw [if_pos h,show i=0 by omega];simp
  .rw [if_neg h]
 have ht:(aK (n+1)).map (lT gap n)=mr (n+1) gap:=by unfold mr;apply List.map_congr_left;intro j hj;rw[lT,if_pos (by have:=List.mem_range.1 hj;omega)]
 have hw:wr .i64 (((n+1:Nat):Int)+1)=((n+2:Nat):Int):=by rw[ig (by omega) (by omega)];omega
 obtain⟨b1,p1,p2⟩:=R0 hn h0 h1 hs (b:=(aK (n+1)).map (lT gap 0)) (by simp)
 have hl:∃b,bD (nk ((n+1:Nat):Int) s) (-1,0,.mk ((aK (n+1)).map (lT gap 0)),.mk ((aK (n+1)).map (lT gap 0)))=some (-1,.mk (mr (n+1) gap),b):=by
  have c1:decide ((0:Int)<((n+2:Nat):Int))=true:=by rw[decide_eq_true_eq];omega
  by_cases hz:n=0
  .rw [if_pos hz]at p1;refine⟨.mk b1,cB ?_⟩;simp only[nk,hw,c1,cond_true,p1,af,ht];rfl
  .rw [if_neg hz]at p1;have c2:decide ((n:Int)<0)=false:=by rw[decide_eq_false_iff_not];omega
   have c3:decide ((1:Int)<((n+2:Nat):Int))=true:=by rw[decide_eq_true_eq];omega
   have p3:=RZ hn h0 h1 hs (.mk b1);rw[ht]at p3;refine⟨.mk b1,(dl (a':=((n:Int),(1:Int),.mk ((aK (n+1)).map (lT gap n)),.mk b1)) ?_).trans (cB ?_)⟩
   .simp only[nk,hw,c1,cond_true,p1,af,c2,cond_false];rfl
   .simp only[nk,hw,c3,cond_true,ht,p3,af];rfl
 obtain⟨b,hl⟩:=hl;exact⟨b,by simp only[tP,hmk,af,hl]⟩
theorem Mr(hn:n<=63)(h0:0<gap)(h1:gap<=1073741824):py ((n+1:Nat):Int) gap=some (.mk (mr (n+1) gap)):=by obtain⟨s,h2,h3⟩:=GI hn gap;obtain⟨b,h4⟩:=KE hn h0 h1 h3;simp only[py,h2,af,qt,Gl hn h0 h1 h3,Bool.not_true,cond_false,h4];rfl
end
end Go.Proofs.YthcplpfiidlinaaDoor.J
