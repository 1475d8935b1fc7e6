/- r_ routes and the moves between them: how far who moves is, and in what order moves stand. Conditions: as stated. -/
import Derived.Test.YthcplpfiidlinaaDoorJM
open Go.Ev Go
open Array renaming length_toList->cI
open List renaming getElem_mem->bZ,mem_flatMap->bS,pairwise_lt_range->ko,take_length->ge
namespace Go.Proofs.YthcplpfiidlinaaDoor.J
section
variable{t:ah}{old now r:Sl (Sl Int)}{h:Nat}
theorem A5(hG:gx t r)(hh:h<t.bd.l.length){s:Nat}(hs:s<r.l.length)(h0:eH t r h s=0):zA t r h s:=by have:=hG.eH hs hh;rw[h0]at this;cases this with|BU hH=>exact hH
theorem A6(hG:gx t r)(hh:h<t.bd.l.length){s:Nat}(hs:s<r.l.length)(h0:eH t r h s≠0):¬zA t r h s/\∃s',sD t r h s=some s'/\s'<r.l.length/\eH t r h s=eH t r h s'+1:=by have ha:=hG.eH hs hh;generalize eH t r h s=k at ha h0;cases ha with|BU hH=>exact absurd rfl h0|@kF _ s' k h1 h2 h3=>exact⟨h1,s',h2,Hc hG.1 h2,by rw[B3 h3]⟩
theorem AI:(Dv t old now).Nodup:=by
 unfold Dv;rw[List.nodup_iff_pairwise_ne,List.pairwise_flatMap]
 have hA:∀h s,∀x∈zY t old now h s,x.1=(s:Int)/\x.2.1=(h:Int):=fun h s x hx=>by
  unfold zY at hx;split at hx
  .obtain rfl:=List.mem_singleton.1 hx;exact⟨rfl,rfl⟩
  .simp at hx
 refine⟨fun h _=>?_,?_⟩
 .unfold Nb;rw[List.pairwise_flatMap];refine⟨fun s _=>?_,?_⟩
  .unfold zY;split<;>simp
  .refine List.Pairwise.imp ?_ (ko (n:=now.l.length));intro a b hab x hx y hy e;have h1:=(hA h a x hx).1;have h2:=(hA h b y hy).1;rw[e]at h1;omega
 .refine List.Pairwise.imp ?_ (ko (n:=t.bd.l.length));intro a b hab x hx y hy e;obtain⟨s1,_,hx⟩:=bS.1 hx;obtain⟨s2,_,hy⟩:=bS.1 hy;have h1:=(hA a s1 x hx).2;have h2:=(hA b s2 y hy).2;rw[e]at h1;omega
theorem uS(d:List ae):(jH d.toArray).toList.Perm d:=by
 have e:=(n_ d.toArray).1;have h1:=e.2.2;have h2:(jH d.toArray).size=d.length:=by simpa using e.1
 simp only[List.size_toArray,Array.toList_extract,List.extract_eq_take_drop,Nat.sub_zero,List.drop_zero,ge]at h1;rwa[<-h2,<-cI,ge]at h1
theorem EY(d:List ae){i j:Nat}(hij:i<j)(hj:j<(jH d.toArray).toList.length):¬M9 (gt (jH d.toArray).toList j) (gt (jH d.toArray).toList i):=by
 have e:=(n_ d.toArray).2;have hsz:(jH d.toArray).size=d.toArray.size:=(n_ d.toArray).1.1;rw[cI]at hj;have h1:=e i j (Nat.zero_le _) hij (by rw[<-hsz];exact hj);have g:∀k,k<(jH d.toArray).size->gt (jH d.toArray).toList k=(jH d.toArray)[k]!:=fun k hk=>by rw[cP (by simpa using hk),Array.getElem_toList,getElem!_pos _ k hk]
 rw[g j hj,g i (by omega)];intro hb;rw[xG.2 hb]at h1;simp at h1
theorem BN:(jH (Dv t old now).toArray).toList.Pairwise M9:=by
 rw[List.pairwise_iff_getElem];intro i j hi hj hij;have hn:=EY (Dv t old now) hij hj;have hp:=uS (Dv t old now);have hnd:(jH (Dv t old now).toArray).toList.Nodup:=hp.nodup_iff.2 AI;rw[cP hi,cP hj]at hn;generalize(jH (Dv t old now).toArray).toList=l at*;have hma:l[i]∈Dv t old now:=hp.mem_iff.1 (bZ _);have hmb:l[j]∈Dv t old now:=hp.mem_iff.1 (bZ _);have hne:l[i]≠l[j]:=fun e=>by have:=(List.getElem_inj hnd).1 e;omega
 obtain⟨h1,s1,_,_,_,e1⟩:=xA.1 hma;obtain⟨h2,s2,_,_,_,e2⟩:=xA.1 hmb;rw[e1,e2]at hn hne|-;unfold M9 at hn|-;simp only at hn|-;by_cases hr:eH t now h1 s1=eH t now h2 s2
 .by_cases hs:s1=s2
  .by_cases hh:h1=h2
   .exact absurd (by rw[hs,hh]) hne
   .omega
  .omega
 .omega
end
end Go.Proofs.YthcplpfiidlinaaDoor.J
