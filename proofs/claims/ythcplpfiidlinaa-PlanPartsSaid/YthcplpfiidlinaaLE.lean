/- Good routes and the moves between them: how far who moves is, and in what order moves stand. Conditions: as stated. -/
import Derived.Test.YthcplpfiidlinaaLM
open Go.Ev Go
namespace Go.Proofs.Ythcplpfiidlinaa.L
section
variable {t:api_Topo}{old now r:Sl (Sl Int)}{h:Nat}
theorem qmi:(mvs t old now).Nodup:=by
 unfold mvs
 rw [List.nodup_iff_pairwise_ne,List.pairwise_flatMap]
 have hA:∀h s,∀x∈mvAt t old now h s,x.1=(s:Int)/\x.2.1=(h:Int):=λh s x hx=>by
  unfold mvAt at hx
  split at hx
  ·obtain rfl:=List.mem_singleton.1 hx; exact ⟨rfl,rfl⟩
  ·simp at hx
 refine ⟨λh _=> ?_, ?_⟩
 ·unfold mvH
  rw [List.pairwise_flatMap]
  refine ⟨λs _=> ?_, ?_⟩
  ·unfold mvAt; split <;> simp
  ·refine List.Pairwise.imp ?_ (List.pairwise_lt_range (n:=now.l.length))
   intro a b hab x hx y hy e
   have h1:=(hA h a x hx).1
   have h2:=(hA h b y hy).1
   rw [e]at h1; omega
 ·refine List.Pairwise.imp ?_ (List.pairwise_lt_range (n:=t.Hosts.l.length))
  intro a b hab x hx y hy e
  obtain ⟨s1,_,hx⟩:=List.mem_flatMap.1 hx
  obtain ⟨s2,_,hy⟩:=List.mem_flatMap.1 hy
  have h1:=(hA a s1 x hx).2
  have h2:=(hA b s2 y hy).2
  rw [e]at h1; omega
theorem qdg(d:List level_Move):(srtMv d.toArray).toList.Perm d:=by
 have e:=(q3m d.toArray).1
 have h1:=e.2.2
 have h2:(srtMv d.toArray).size=d.length:=by simpa using e.1
 simp only [List.size_toArray,Array.toList_extract,List.extract_eq_take_drop,Nat.sub_zero,List.drop_zero,List.take_length]at h1
 rwa [<- h2,<- Array.length_toList,List.take_length]at h1
theorem qkq(d:List level_Move){i j:Nat}(hij:i < j)(hj:j < (srtMv d.toArray).toList.length):¬Bef (gt (srtMv d.toArray).toList j) (gt (srtMv d.toArray).toList i):=by
 have e:=(q3m d.toArray).2
 have hsz:(srtMv d.toArray).size=d.toArray.size:=(q3m d.toArray).1.1
 rw [Array.length_toList]at hj
 have h1:=e i j (Nat.zero_le _) hij (by rw [<- hsz]; exact hj)
 have g:∀k,k < (srtMv d.toArray).size->gt (srtMv d.toArray).toList k=(srtMv d.toArray)[k]! :=λk hk=>by
  rw [gt_eq (by simpa using hk),Array.getElem_toList,getElem!_pos _ k hk]
 rw [g j hj,g i (by omega)]
 intro hb
 rw [qel.2 hb]at h1
 simp at h1
theorem q9w:(srtMv (mvs t old now).toArray).toList.Pairwise Bef:=by
 rw [List.pairwise_iff_getElem]
 intro i j hi hj hij
 have hn:=qkq (mvs t old now) hij hj
 have hp:=qdg (mvs t old now)
 have hnd:(srtMv (mvs t old now).toArray).toList.Nodup:=hp.nodup_iff.2 qmi
 rw [gt_eq hi,gt_eq hj]at hn
 generalize (srtMv (mvs t old now).toArray).toList=l at *
 have hma:l[i]∈mvs t old now:=hp.mem_iff.1 (List.getElem_mem _)
 have hmb:l[j]∈mvs t old now:=hp.mem_iff.1 (List.getElem_mem _)
 have hne:l[i]≠l[j]:=λe=>by
  have:=(List.getElem_inj hnd).1 e
  omega
 obtain ⟨h1,s1,_,_,_,e1⟩:=q89.1 hma
 obtain ⟨h2,s2,_,_,_,e2⟩:=q89.1 hmb
 rw [e1,e2]at hn hne ⊢
 unfold Bef at hn ⊢
 simp only at hn ⊢
 by_cases hr:dist t now h1 s1=dist t now h2 s2
 ·by_cases hs:s1=s2
  ·by_cases hh:h1=h2
   ·exact absurd (by rw [hs,hh]) hne
   ·omega
  ·omega
 ·omega
end
end Go.Proofs.Ythcplpfiidlinaa.L
