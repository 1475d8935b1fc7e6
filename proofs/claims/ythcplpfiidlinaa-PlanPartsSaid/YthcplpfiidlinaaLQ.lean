/- Plans: the least times of q3c. Conditions: as stated. -/
import Derived.Test.YthcplpfiidlinaaLO
open Go.Ev Go
namespace Go.Proofs.Ythcplpfiidlinaa.L
theorem q8s{N j:Nat}(f:Nat->Int)(hj:j < N):gt ((List.range N).map f) j=f j:=by
 rw [gt_eq (by simp [hj])]; simp
theorem qu1{N k:Nat}(f:Nat->Int)(v:Int):((List.range N).map f).set k v=(List.range N).map λj=>if j=k then v else f j:=by
 apply List.ext_getElem (by simp)
 intro i h1 h2
 simp only [List.getElem_set,List.getElem_map,List.getElem_range]
 by_cases h:k=i
 ·rw [if_pos h,if_pos h.symm]
 ·rw [if_neg h,if_neg (Ne.symm h)]
def upto(gap:Int)(i j:Nat):Int:=if j<=i then (j:Int) * gap else 0
theorem qn8(gap:Int)(i:Nat):(λj=>if j=i+1 then ((i+1:Nat):Int) * gap else upto gap i j)=upto gap (i+1):=by
 funext j
 unfold upto
 by_cases h:j=i+1
 ·rw [if_pos h,if_pos (by omega),h]
 ·rw [if_neg h]
  by_cases h2:j<=i
  ·rw [if_pos h2,if_pos (by omega)]
  ·rw [if_neg h2,if_neg (by omega)]
section
variable {n:Nat}{gap:Int}{s:Sl diff_After}
theorem qj4(hs:s.l=q2x n gap){i:Nat}(hi:i < n):gt s.l i=((i:Int),((i+1:Nat):Int),gap):=by
 have hl:i < s.l.length:=by rw [hs]; simp [q2x,hi]
 rw [gt_eq hl]; simp only [hs,q2x,List.getElem_map,List.getElem_range]
theorem qob{i n:Nat}{gap:Int}(h0:0 < gap)(h1:gap<=1073741824)(hi:i<=n)(hn:n<=64):0<=(i:Int) * gap/\(i:Int) * gap<=68719476736:=by
 refine ⟨Int.mul_nonneg (by omega) (by omega), ?_⟩
 have:=Int.mul_le_mul (show (i:Int)<=64 by omega) h1 (by omega) (by omega)
 omega
theorem pass1(hn:n<=63)(h0:0 < gap)(h1:gap<=1073741824)(hs:s.l=q2x n gap){b:List Int}(hb:b.length=n+1):
  ∃b',loopO (q1c s) (-1,0, .mk ((List.range (n+1)).map (upto gap 0)), .mk b)=some (if n=0 then -1 else (n:Int), .mk ((List.range (n+1)).map (upto gap n)), .mk b')/\b'.length=n+1:=by
 have hlen:s.l.length=n:=by rw [hs]; simp [q2x]
 have h:=forI (f:=q1c s) (λi (b:List Int)=>(if i=0 then -1 else (i:Int),(i:Int),Sl.mk ((List.range (n+1)).map (upto gap i)),Sl.mk b)) n (λ_ b=>b.length=n+1)
  (λr=>∃b',r=(if n=0 then -1 else (n:Int),Sl.mk ((List.range (n+1)).map (upto gap n)),Sl.mk b')/\b'.length=n+1) (λi b hi hb=>by
   left
   have hg:=qj4 hs hi
   have hil:i < s.l.length:=by omega
   have l1:i < (Sl.mk ((List.range (n+1)).map (upto gap i))).l.length:=by simp; omega
   have l2:i+1 < (Sl.mk ((List.range (n+1)).map (upto gap i))).l.length:=by simp; omega
   have l3:i+1 < (Sl.mk b).l.length:=by rw [Sl.l_mk,hb]; omega
   have g1:gt (Sl.mk ((List.range (n+1)).map (upto gap i))).l i=(i:Int) * gap:=by rw [Sl.l_mk,q8s _ (by omega)]; simp [upto]
   have g2:gt (Sl.mk ((List.range (n+1)).map (upto gap i))).l (i+1)=0:=by rw [Sl.l_mk,q8s _ (by omega),upto,if_neg (by omega)]
   have hm:=qob h0 h1 (show i<=n by omega) (by omega)
   have em:(i:Int) * gap+gap=((i+1:Nat):Int) * gap:=by rw [show ((i+1:Nat):Int)=(i:Int)+1 by omega,Int.add_mul,Int.one_mul]
   have hw:wr .i64 ((i:Int) * gap+gap)=((i+1:Nat):Int) * gap:=by rw [wr_id (by omega) (by omega),em]
   have hgt:decide (((i+1:Nat):Int) * gap > 0)=true:=by rw [decide_eq_true_eq]; omega
   refine ⟨b.set (i+1) (i:Int), ?_,by simp [hb]⟩
   simp only [q1c,lt_t hil,cond_true,q08 hil,hg,q08 l1,q08 l2,q08 l3,Option.bind_some,g1,g2,hw,hgt,wr_s (show i < 9223372036854775807 by omega)]
   simp only [Sl.l_mk,qu1,qn8]
   rfl)
  (λb hb=>⟨(if n=0 then -1 else (n:Int),Sl.mk ((List.range (n+1)).map (upto gap n)),Sl.mk b),by simp only [q1c,hlen,lt_f,cond_false],b,rfl,hb⟩) 0 b (Nat.zero_le _) hb
 obtain ⟨r,h2,b',rfl,h3⟩:=h
 exact ⟨b',h2,h3⟩
theorem pass2(hn:n<=63)(h0:0 < gap)(h1:gap<=1073741824)(hs:s.l=q2x n gap)(b:Sl Int):
  loopO (q1c s) (-1,0, .mk ((List.range (n+1)).map (upto gap n)),b)=some (-1, .mk ((List.range (n+1)).map (upto gap n)),b):=by
 have hlen:s.l.length=n:=by rw [hs]; simp [q2x]
 have h:=forI (f:=q1c s) (λi (_:Unit)=>((-1:Int),(i:Int),Sl.mk ((List.range (n+1)).map (upto gap n)),b)) n (λ_ _=>True)
  (λr=>r=((-1:Int),Sl.mk ((List.range (n+1)).map (upto gap n)),b)) (λi _ hi _=>by
   left
   have hg:=qj4 hs hi
   have hil:i < s.l.length:=by omega
   have l1:i < (Sl.mk ((List.range (n+1)).map (upto gap n))).l.length:=by simp; omega
   have l2:i+1 < (Sl.mk ((List.range (n+1)).map (upto gap n))).l.length:=by simp; omega
   have g1:gt (Sl.mk ((List.range (n+1)).map (upto gap n))).l i=(i:Int) * gap:=by rw [Sl.l_mk,q8s _ (by omega),upto,if_pos (by omega)]
   have g2:gt (Sl.mk ((List.range (n+1)).map (upto gap n))).l (i+1)=((i+1:Nat):Int) * gap:=by rw [Sl.l_mk,q8s _ (by omega),upto,if_pos (by omega)]
   have hm:=qob h0 h1 (show i<=n by omega) (by omega)
   have em:(i:Int) * gap+gap=((i+1:Nat):Int) * gap:=by rw [show ((i+1:Nat):Int)=(i:Int)+1 by omega,Int.add_mul,Int.one_mul]
   have hw:wr .i64 ((i:Int) * gap+gap)=((i+1:Nat):Int) * gap:=by rw [wr_id (by omega) (by omega),em]
   have hgt:decide (((i+1:Nat):Int) * gap > ((i+1:Nat):Int) * gap)=false:=by rw [decide_eq_false_iff_not]; omega
   refine ⟨(), ?_,trivial⟩
   simp only [q1c,lt_t hil,cond_true,q08 hil,hg,q08 l1,q08 l2,Option.bind_some,g1,g2,hw,hgt,cond_false,wr_s (show i < 9223372036854775807 by omega)])
  (λ_ _=>⟨_,by simp only [q1c,hlen,lt_f,cond_false],rfl⟩) 0 () (Nat.zero_le _) trivial
 obtain ⟨r,h2,rfl⟩:=h
 exact h2
theorem qqe(hn:n<=63)(h0:0 < gap)(h1:gap<=1073741824)(hs:s.l=q2x n gap):∃b,q5m ((n+1:Nat):Int) s=some (.mk (q4x (n+1) gap),b, -1):=by
 have hmk:mkI (0:Int) ((n+1:Nat):Int) ((n+1:Nat):Int)=some ((List.range (n+1)).map (upto gap 0)):=by
  unfold mkI
  rw [if_pos ⟨by omega,Int.le_refl _,by omega⟩]
  congr 1
  rw [Int.toNat_natCast]
  apply List.ext_getElem (by simp)
  intro i _ _
  simp only [List.getElem_replicate,List.getElem_map,List.getElem_range,upto]
  by_cases h:i<=0
  ·rw [if_pos h,show i=0 by omega]; simp
  ·rw [if_neg h]
 have ht:(List.range (n+1)).map (upto gap n)=q4x (n+1) gap:=by
  unfold q4x
  apply List.map_congr_left
  intro j hj
  rw [upto,if_pos (by have:=List.mem_range.1 hj; omega)]
 have hw:wr .i64 (((n+1:Nat):Int)+1)=((n+2:Nat):Int):=by rw [wr_id (by omega) (by omega)]; omega
 obtain ⟨b1,p1,p2⟩:=pass1 hn h0 h1 hs (b:=(List.range (n+1)).map (upto gap 0)) (by simp)
 have hl:∃b,loopO (q2k ((n+1:Nat):Int) s) (-1,0, .mk ((List.range (n+1)).map (upto gap 0)), .mk ((List.range (n+1)).map (upto gap 0)))=some (-1, .mk (q4x (n+1) gap),b):=by
  have c1:decide ((0:Int) < ((n+2:Nat):Int))=true:=by rw [decide_eq_true_eq]; omega
  by_cases hz:n=0
  ·rw [if_pos hz]at p1
   refine ⟨.mk b1,q0u ?_⟩
   simp only [q2k,hw,c1,cond_true,p1,Option.bind_some,ht]
   rfl
  ·rw [if_neg hz]at p1
   have c2:decide ((n:Int) < 0)=false:=by rw [decide_eq_false_iff_not]; omega
   have c3:decide ((1:Int) < ((n+2:Nat):Int))=true:=by rw [decide_eq_true_eq]; omega
   have p3:=pass2 hn h0 h1 hs (.mk b1)
   rw [ht]at p3
   refine ⟨.mk b1,(q1f (a':=((n:Int),(1:Int), .mk ((List.range (n+1)).map (upto gap n)), .mk b1)) ?_).trans (q0u ?_)⟩
   ·simp only [q2k,hw,c1,cond_true,p1,Option.bind_some,c2,cond_false]
    rfl
   ·simp only [q2k,hw,c3,cond_true,ht,p3,Option.bind_some]
    rfl
 obtain ⟨b,hl⟩:=hl
 exact ⟨b,by simp only [q5m,hmk,Option.bind_some,hl]⟩
theorem qlh(hn:n<=63)(h0:0 < gap)(h1:gap<=1073741824):q3q ((n+1:Nat):Int) gap=some (.mk (q4x (n+1) gap)):=by
 obtain ⟨s,h2,h3⟩:=qjz hn gap
 obtain ⟨b,h4⟩:=qqe hn h0 h1 h3
 simp only [q3q,h2,Option.bind_some,q3j,ql4 hn h0 h1 h3,Bool.not_true,cond_false,h4]
 rfl
end
end Go.Proofs.Ythcplpfiidlinaa.L
