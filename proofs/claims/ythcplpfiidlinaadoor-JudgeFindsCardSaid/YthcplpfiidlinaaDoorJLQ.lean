/- Plans: the least times of rounds. Conditions: as stated. -/
import Derived.Test.YthcplpfiidlinaaDoorJO
open List renaming getElem_map->gk,getElem_range->jc,range->aL
open Nat renaming zero_le->cG
open Option renaming bind_some->af
open Go.Ev Go
namespace Go.Proofs.YthcplpfiidlinaaDoor.J
theorem rI{N j:Nat}(f:Nat->Int)(hj:j<N):gt ((aL N).map f) j=f j:=by rw[cR (by simp[hj])];simp
theorem NR{N k:Nat}(f:Nat->Int)(v:Int):((aL N).map f).set k v=(aL N).map fun j=>if j=k then v else f j:=by
 apply List.ext_getElem (by simp);intro i h1 h2;simp only[List.getElem_set,gk,jc];by_cases h:k=i
 .rw [if_pos h,if_pos h.symm]
 .rw [if_neg h,if_neg (Ne.symm h)]
def lW(gap:Int)(i j:Nat):Int:=if j<=i then(j:Int)*gap else 0
theorem H_(gap:Int)(i:Nat):(fun j=>if j=i+1 then((i+1:Nat):Int)*gap else lW gap i j)=lW gap (i+1):=by
 funext j;unfold lW;by_cases h:j=i+1
 .rw [if_pos h,if_pos (by omega),h]
 .rw [if_neg h];by_cases h2:j<=i
  .rw [if_pos h2,if_pos (by omega)]
  .rw [if_neg h2,if_neg (by omega)]
section
variable{n:Nat}{gap:Int}{s:Sl bI}
theorem EQ(hs:s.l=jT n gap){i:Nat}(hi:i<n):gt s.l i=((i:Int),((i+1:Nat):Int),gap):=by
 have hl:i<s.l.length:=by rw[hs];simp[jT,hi]
 rw[cR hl];simp only[hs,jT,gk,jc]
theorem F0{i n:Nat}{gap:Int}(h0:0<gap)(h1:gap<=1073741824)(hi:i<=n)(hn:n<=64):0<=(i:Int)*gap/\(i:Int)*gap<=68719476736:=by refine⟨Int.mul_nonneg (by omega) (by omega),?_⟩;have:=Int.mul_le_mul (show(i:Int)<=64 by omega) h1 (by omega) (by omega);omega
theorem Sc(hn:n<=63)(h0:0<gap)(h1:gap<=1073741824)(hs:s.l=jT n gap){b:List Int}(hb:b.length=n+1):
  ∃b',bE (iH s) (-1,0,.mk ((aL (n+1)).map (lW gap 0)),.mk b)=some (if n=0 then-1 else(n:Int),.mk ((aL (n+1)).map (lW gap n)),.mk b')/\b'.length=n+1:=by
 have hlen:s.l.length=n:=by rw[hs];simp[jT]
 have h:=Gt (f:=iH s) (fun i(b:List Int)=>(if i=0 then-1 else(i:Int),(i:Int),Sl.mk ((aL (n+1)).map (lW gap i)),Sl.mk b)) n (fun _ b=>b.length=n+1)
  (fun r=>∃b',r=(if n=0 then-1 else(n:Int),Sl.mk ((aL (n+1)).map (lW gap n)),Sl.mk b')/\b'.length=n+1) (fun i b hi hb=>by
   left;have hg:=EQ hs hi;have hil:i<s.l.length:=by omega
   have l1:i<(Sl.mk ((aL (n+1)).map (lW gap i))).l.length:=by simp;omega
   have l2:i+1<(Sl.mk ((aL (n+1)).map (lW gap i))).l.length:=by simp;omega
   have l3:i+1<(Sl.mk b).l.length:=by rw[Sl.iP,hb];omega
   have g1:gt (Sl.mk ((aL (n+1)).map (lW gap i))).l i=(i:Int)*gap:=by rw[Sl.iP,rI _ (by omega)];simp[lW]
   have g2:gt (Sl.mk ((aL (n+1)).map (lW gap i))).l (i+1)=0:=by rw[Sl.iP,rI _ (by omega),lW,if_neg (by omega)]
   have hm:=F0 h0 h1 (show i<=n by omega) (by omega);have em:(i:Int)*gap+gap=((i+1:Nat):Int)*gap:=by rw[show((i+1:Nat):Int)=(i:Int)+1 by omega,Int.add_mul,Int.one_mul]
   have hw:wr .i64 ((i:Int)*gap+gap)=((i+1:Nat):Int)*gap:=by rw[ii (by omega) (by omega),em]
   have hgt:decide (((i+1:Nat):Int)*gap>0)=true:=by rw[decide_eq_true_eq];omega
   refine⟨b.set (i+1) (i:Int),?_,by simp[hb]⟩;simp only[iH,jw hil,cond_true,bq hil,hg,bq l1,bq l2,bq l3,af,g1,g2,hw,hgt,k_ (show i<9223372036854775807 by omega)];simp only[Sl.iP,NR,H_];rfl)
  (fun b hb=>⟨(if n=0 then-1 else(n:Int),Sl.mk ((aL (n+1)).map (lW gap n)),Sl.mk b),by simp only[iH,hlen,kO,cond_false],b,rfl,hb⟩) 0 b (cG _) hb
 obtain⟨r,h2,b',rfl,h3⟩:=h;exact⟨b',h2,h3⟩
theorem Sb(hn:n<=63)(h0:0<gap)(h1:gap<=1073741824)(hs:s.l=jT n gap)(b:Sl Int):
  bE (iH s) (-1,0,.mk ((aL (n+1)).map (lW gap n)),b)=some (-1,.mk ((aL (n+1)).map (lW gap n)),b):=by
 have hlen:s.l.length=n:=by rw[hs];simp[jT]
 have h:=Gt (f:=iH s) (fun i(_:Unit)=>((-1:Int),(i:Int),Sl.mk ((aL (n+1)).map (lW gap n)),b)) n (fun _ _=>True)
  (fun r=>r=((-1:Int),Sl.mk ((aL (n+1)).map (lW gap n)),b)) (fun i _ hi _=>by
   left;have hg:=EQ hs hi;have hil:i<s.l.length:=by omega
   have l1:i<(Sl.mk ((aL (n+1)).map (lW gap n))).l.length:=by simp;omega
   have l2:i+1<(Sl.mk ((aL (n+1)).map (lW gap n))).l.length:=by simp;omega
   have g1:gt (Sl.mk ((aL (n+1)).map (lW gap n))).l i=(i:Int)*gap:=by rw[Sl.iP,rI _ (by omega),lW,if_pos (by omega)]
   have g2:gt (Sl.mk ((aL (n+1)).map (lW gap n))).l (i+1)=((i+1:Nat):Int)*gap:=by rw[Sl.iP,rI _ (by omega),lW,if_pos (by omega)]
   have hm:=F0 h0 h1 (show i<=n by omega) (by omega);have em:(i:Int)*gap+gap=((i+1:Nat):Int)*gap:=by rw[show((i+1:Nat):Int)=(i:Int)+1 by omega,Int.add_mul,Int.one_mul]
   have hw:wr .i64 ((i:Int)*gap+gap)=((i+1:Nat):Int)*gap:=by rw[ii (by omega) (by omega),em]
   have hgt:decide (((i+1:Nat):Int)*gap>((i+1:Nat):Int)*gap)=false:=by rw[decide_eq_false_iff_not];omega
   refine⟨(),?_,trivial⟩;simp only[iH,jw hil,cond_true,bq hil,hg,bq l1,bq l2,af,g1,g2,hw,hgt,cond_false,k_ (show i<9223372036854775807 by omega)])
  (fun _ _=>⟨_,by simp only[iH,hlen,kO,cond_false],rfl⟩) 0 () (cG _) trivial
 obtain⟨r,h2,rfl⟩:=h;exact h2
theorem KO(hn:n<=63)(h0:0<gap)(h1:gap<=1073741824)(hs:s.l=jT n gap):∃b,tZ ((n+1:Nat):Int) s=some (.mk (mz (n+1) gap),b,-1):=by
 have hmk:zV (0:Int) ((n+1:Nat):Int) ((n+1:Nat):Int)=some ((aL (n+1)).map (lW gap 0)):=by
  unfold zV;rw[if_pos ⟨by omega,Int.le_refl _,by omega⟩];congr 1;rw[Int.toNat_natCast];apply List.ext_getElem (by simp);intro i _ _;simp only[List.getElem_replicate,gk,jc,lW];by_cases h:i<=0
  .rw [if_pos h,show i=0 by omega];simp
  .rw [if_neg h]
 have ht:(aL (n+1)).map (lW gap n)=mz (n+1) gap:=by unfold mz;apply List.map_congr_left;intro j hj;rw[lW,if_pos (by have:=List.mem_range.1 hj;omega)]
 have hw:wr .i64 (((n+1:Nat):Int)+1)=((n+2:Nat):Int):=by rw[ii (by omega) (by omega)];omega
 obtain⟨b1,p1,p2⟩:=Sc hn h0 h1 hs (b:=(aL (n+1)).map (lW gap 0)) (by simp)
 have hl:∃b,bE (nu ((n+1:Nat):Int) s) (-1,0,.mk ((aL (n+1)).map (lW gap 0)),.mk ((aL (n+1)).map (lW gap 0)))=some (-1,.mk (mz (n+1) gap),b):=by
  have c1:decide ((0:Int)<((n+2:Nat):Int))=true:=by rw[decide_eq_true_eq];omega
  by_cases hz:n=0
  .rw [if_pos hz]at p1;refine⟨.mk b1,cB ?_⟩;simp only[nu,hw,c1,cond_true,p1,af,ht];rfl
  .rw [if_neg hz]at p1;have c2:decide ((n:Int)<0)=false:=by rw[decide_eq_false_iff_not];omega
   have c3:decide ((1:Int)<((n+2:Nat):Int))=true:=by rw[decide_eq_true_eq];omega
   have p3:=Sb hn h0 h1 hs (.mk b1);rw[ht]at p3;refine⟨.mk b1,(dm (a':=((n:Int),(1:Int),.mk ((aL (n+1)).map (lW gap n)),.mk b1)) ?_).trans (cB ?_)⟩
   .simp only[nu,hw,c1,cond_true,p1,af,c2,cond_false];rfl
   .simp only[nu,hw,c3,cond_true,ht,p3,af];rfl
 obtain⟨b,hl⟩:=hl;exact⟨b,by simp only[tZ,hmk,af,hl]⟩
theorem MA(hn:n<=63)(h0:0<gap)(h1:gap<=1073741824):pC ((n+1:Nat):Int) gap=some (.mk (mz (n+1) gap)):=by obtain⟨s,h2,h3⟩:=GX hn gap;obtain⟨b,h4⟩:=KO hn h0 h1 h3;simp only[pC,h2,af,qD,GB hn h0 h1 h3,Bool.not_true,cond_false,h4];rfl
end
end Go.Proofs.YthcplpfiidlinaaDoor.J
