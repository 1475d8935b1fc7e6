/- Good routes and the moves between them: how far who moves is, and in what order moves stand. Conditions: as stated. -/
import Derived.Test.YthcplpfiidlinaaDoorJM
open Array renaming length_toList->cK
open List renaming getElem_mem->ce,mem_flatMap->bU,pairwise_lt_range->kw,take_length->gi
open Go.Ev Go
namespace Go.Proofs.YthcplpfiidlinaaDoor.J
section
variable{t:ah}{old now r:Sl (Sl Int)}{h:Nat}
theorem Bp(hG:gy t r)(hh:h<t.bf.l.length){s:Nat}(hs:s<r.l.length)(h0:eR t r h s=0):zS t r h s:=by have:=hG.eR hs hh;rw[h0]at this;cases this with|Cc hH=>exact hH
theorem Bq(hG:gy t r)(hh:h<t.bf.l.length){s:Nat}(hs:s<r.l.length)(h0:eR t r h s≠0):¬zS t r h s/\∃s',sR t r h s=some s'/\s'<r.l.length/\eR t r h s=eR t r h s'+1:=by have ha:=hG.eR hs hh;generalize eR t r h s=k at ha h0;cases ha with|Cc hH=>exact absurd rfl h0|@kM _ s' k h1 h2 h3=>exact⟨h1,s',h2,Hs hG.1 h2,by rw[Cn h3]⟩
theorem A1:(DP t old now).Nodup:=by
 unfold DP;rw[List.nodup_iff_pairwise_ne,List.pairwise_flatMap]
 have hA:∀h s,∀x∈Ak t old now h s,x.1=(s:Int)/\x.2.1=(h:Int):=fun h s x hx=>by
  unfold Ak at hx;split at hx
  .obtain rfl:=List.mem_singleton.1 hx;exact⟨rfl,rfl⟩
  .simp at hx
 refine⟨fun h _=>?_,?_⟩
 .unfold Nn;rw[List.pairwise_flatMap];refine⟨fun s _=>?_,?_⟩
  .unfold Ak;split<;>simp
  .refine List.Pairwise.imp ?_ (kw (n:=now.l.length));intro a b hab x hx y hy e;have h1:=(hA h a x hx).1;have h2:=(hA h b y hy).1;rw[e]at h1;omega
 .refine List.Pairwise.imp ?_ (kw (n:=t.bf.l.length));intro a b hab x hx y hy e;obtain⟨s1,_,hx⟩:=bU.1 hx;obtain⟨s2,_,hy⟩:=bU.1 hy;have h1:=(hA a s1 x hx).2;have h2:=(hA b s2 y hy).2;rw[e]at h1;omega
theorem vc(d:List ae):(jN d.toArray).toList.Perm d:=by
 have e:=(ot d.toArray).1;have h1:=e.2.2;have h2:(jN d.toArray).size=d.length:=by simpa using e.1
 simp only[List.size_toArray,Array.toList_extract,List.extract_eq_take_drop,Nat.sub_zero,List.drop_zero,gi]at h1;rwa[<-h2,<-cK,gi]at h1
theorem Fj(d:List ae){i j:Nat}(hij:i<j)(hj:j<(jN d.toArray).toList.length):¬Nl (gt (jN d.toArray).toList j) (gt (jN d.toArray).toList i):=by
 have e:=(ot d.toArray).2;have hsz:(jN d.toArray).size=d.toArray.size:=(ot d.toArray).1.1;rw[cK]at hj;have h1:=e i j (Nat.zero_le _) hij (by rw[<-hsz];exact hj);have g:∀k,k<(jN d.toArray).size->gt (jN d.toArray).toList k=(jN d.toArray)[k]!:=fun k hk=>by rw[cR (by simpa using hk),Array.getElem_toList,getElem!_pos _ k hk]
 rw[g j hj,g i (by omega)];intro hb;rw[xW.2 hb]at h1;simp at h1
theorem B6:(jN (DP t old now).toArray).toList.Pairwise Nl:=by
 rw[List.pairwise_iff_getElem];intro i j hi hj hij;have hn:=Fj (DP t old now) hij hj;have hp:=vc (DP t old now);have hnd:(jN (DP t old now).toArray).toList.Nodup:=hp.nodup_iff.2 A1;rw[cR hi,cR hj]at hn;generalize(jN (DP t old now).toArray).toList=l at*;have hma:l[i]∈DP t old now:=hp.mem_iff.1 (ce _);have hmb:l[j]∈DP t old now:=hp.mem_iff.1 (ce _);have hne:l[i]≠l[j]:=fun e=>by have:=(List.getElem_inj hnd).1 e;omega
 obtain⟨h1,s1,_,_,_,e1⟩:=xQ.1 hma;obtain⟨h2,s2,_,_,_,e2⟩:=xQ.1 hmb;rw[e1,e2]at hn hne|-;unfold Nl at hn|-;simp only at hn|-;by_cases hr:eR t now h1 s1=eR t now h2 s2
 .by_cases hs:s1=s2
  .by_cases hh:h1=h2
   .exact absurd (by rw[hs,hh]) hne
   .omega
  .omega
 .omega
end
end Go.Proofs.YthcplpfiidlinaaDoor.J
