/- sq routes and the moves between them: how far who moves is, and in what order moves stand. Conditions: as stated. -/
import Derived.Test.YthcplpfiidlinaaDoorJM
open Go.Ev Go
open Array renaming length_toList->cI
open List renaming getElem_mem->bZ,mem_flatMap->bS,pairwise_lt_range->kr,take_length->gi
namespace Go.Proofs.YthcplpfiidlinaaDoor.J
section
variable{t:ah}{old now r:Sl (Sl Int)}{h:Nat}
theorem Bf(hG:gy t r)(hh:h<t.bf.l.length){s:Nat}(hs:s<r.l.length)(h0:eN t r h s=0):zL t r h s:=by have:=hG.eN hs hh;rw[h0]at this;cases this with|B3 hH=>exact hH
theorem Bg(hG:gy t r)(hh:h<t.bf.l.length){s:Nat}(hs:s<r.l.length)(h0:eN t r h s≠0):¬zL t r h s/\∃s',sL t r h s=some s'/\s'<r.l.length/\eN t r h s=eN t r h s'+1:=by have ha:=hG.eN hs hh;generalize eN t r h s=k at ha h0;cases ha with|B3 hH=>exact absurd rfl h0|@kJ _ s' k h1 h2 h3=>exact⟨h1,s',h2,Hl hG.1 h2,by rw[Cd h3]⟩
theorem AT:(DI t old now).Nodup:=by
 unfold DI;rw[List.nodup_iff_pairwise_ne,List.pairwise_flatMap]
 have hA:∀h s,∀x∈Ad t old now h s,x.1=(s:Int)/\x.2.1=(h:Int):=fun h s x hx=>by
  unfold Ad at hx;split at hx
  .obtain rfl:=List.mem_singleton.1 hx;exact⟨rfl,rfl⟩
  .simp at hx
 refine⟨fun h _=>?_,?_⟩
 .unfold Ni;rw[List.pairwise_flatMap];refine⟨fun s _=>?_,?_⟩
  .unfold Ad;split<;>simp
  .refine List.Pairwise.imp ?_ (kr (n:=now.l.length));intro a b hab x hx y hy e;have h1:=(hA h a x hx).1;have h2:=(hA h b y hy).1;rw[e]at h1;omega
 .refine List.Pairwise.imp ?_ (kr (n:=t.bf.l.length));intro a b hab x hx y hy e;obtain⟨s1,_,hx⟩:=bS.1 hx;obtain⟨s2,_,hy⟩:=bS.1 hy;have h1:=(hA a s1 x hx).2;have h2:=(hA b s2 y hy).2;rw[e]at h1;omega
theorem u6(d:List ae):(jM d.toArray).toList.Perm d:=by
 have e:=(oc d.toArray).1;have h1:=e.2.2;have h2:(jM d.toArray).size=d.length:=by simpa using e.1
 simp only[List.size_toArray,Array.toList_extract,List.extract_eq_take_drop,Nat.sub_zero,List.drop_zero,gi]at h1;rwa[<-h2,<-cI,gi]at h1
theorem Fb(d:List ae){i j:Nat}(hij:i<j)(hj:j<(jM d.toArray).toList.length):¬Ng (gt (jM d.toArray).toList j) (gt (jM d.toArray).toList i):=by
 have e:=(oc d.toArray).2;have hsz:(jM d.toArray).size=d.toArray.size:=(oc d.toArray).1.1;rw[cI]at hj;have h1:=e i j (Nat.zero_le _) hij (by rw[<-hsz];exact hj);have g:∀k,k<(jM d.toArray).size->gt (jM d.toArray).toList k=(jM d.toArray)[k]!:=fun k hk=>by rw[cQ (by simpa using hk),Array.getElem_toList,getElem!_pos _ k hk]
 rw[g j hj,g i (by omega)];intro hb;rw[xQ.2 hb]at h1;simp at h1
theorem BW:(jM (DI t old now).toArray).toList.Pairwise Ng:=by
 rw[List.pairwise_iff_getElem];intro i j hi hj hij;have hn:=Fb (DI t old now) hij hj;have hp:=u6 (DI t old now);have hnd:(jM (DI t old now).toArray).toList.Nodup:=hp.nodup_iff.2 AT;rw[cQ hi,cQ hj]at hn;generalize(jM (DI t old now).toArray).toList=l at*;have hma:l[i]∈DI t old now:=hp.mem_iff.1 (bZ _);have hmb:l[j]∈DI t old now:=hp.mem_iff.1 (bZ _);have hne:l[i]≠l[j]:=fun e=>by have:=(List.getElem_inj hnd).1 e;omega
 obtain⟨h1,s1,_,_,_,e1⟩:=xK.1 hma;obtain⟨h2,s2,_,_,_,e2⟩:=xK.1 hmb;rw[e1,e2]at hn hne|-;unfold Ng at hn|-;simp only at hn|-;by_cases hr:eN t now h1 s1=eN t now h2 s2
 .by_cases hs:s1=s2
  .by_cases hh:h1=h2
   .exact absurd (by rw[hs,hh]) hne
   .omega
  .omega
 .omega
end
end Go.Proofs.YthcplpfiidlinaaDoor.J
