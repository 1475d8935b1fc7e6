/- sh routes and the moves between them: how far who moves is, and in what order moves stand. Conditions: as stated. -/
import Derived.Test.YthcplpfiidlinaaDoorJM
open Go.Ev Go
open Array renaming length_toList->cK
open List renaming getElem_mem->ce,mem_flatMap->bU,pairwise_lt_range->kq,take_length->ge
namespace Go.Proofs.YthcplpfiidlinaaDoor.J
section
variable{t:ah}{old now r:Sl (Sl Int)}{h:Nat}
theorem Bf(hG:gx t r)(hh:h<t.bd.l.length){s:Nat}(hs:s<r.l.length)(h0:eL t r h s=0):zI t r h s:=by have:=hG.eL hs hh;rw[h0]at this;cases this with|B5 hH=>exact hH
theorem Bg(hG:gx t r)(hh:h<t.bd.l.length){s:Nat}(hs:s<r.l.length)(h0:eL t r h s≠0):¬zI t r h s/\∃s',sJ t r h s=some s'/\s'<r.l.length/\eL t r h s=eL t r h s'+1:=by have ha:=hG.eL hs hh;generalize eL t r h s=k at ha h0;cases ha with|B5 hH=>exact absurd rfl h0|@kI _ s' k h1 h2 h3=>exact⟨h1,s',h2,Hg hG.1 h2,by rw[Cd h3]⟩
theorem AS:(DB t old now).Nodup:=by
 unfold DB;rw[List.nodup_iff_pairwise_ne,List.pairwise_flatMap]
 have hA:∀h s,∀x∈Ac t old now h s,x.1=(s:Int)/\x.2.1=(h:Int):=fun h s x hx=>by
  unfold Ac at hx;split at hx
  .obtain rfl:=List.mem_singleton.1 hx;exact⟨rfl,rfl⟩
  .simp at hx
 refine⟨fun h _=>?_,?_⟩
 .unfold Nf;rw[List.pairwise_flatMap];refine⟨fun s _=>?_,?_⟩
  .unfold Ac;split<;>simp
  .refine List.Pairwise.imp ?_ (kq (n:=now.l.length));intro a b hab x hx y hy e;have h1:=(hA h a x hx).1;have h2:=(hA h b y hy).1;rw[e]at h1;omega
 .refine List.Pairwise.imp ?_ (kq (n:=t.bd.l.length));intro a b hab x hx y hy e;obtain⟨s1,_,hx⟩:=bU.1 hx;obtain⟨s2,_,hy⟩:=bU.1 hy;have h1:=(hA a s1 x hx).2;have h2:=(hA b s2 y hy).2;rw[e]at h1;omega
theorem uX(d:List ae):(jK d.toArray).toList.Perm d:=by
 have e:=(ol d.toArray).1;have h1:=e.2.2;have h2:(jK d.toArray).size=d.length:=by simpa using e.1
 simp only[List.size_toArray,Array.toList_extract,List.extract_eq_take_drop,Nat.sub_zero,List.drop_zero,ge]at h1;rwa[<-h2,<-cK,ge]at h1
theorem E4(d:List ae){i j:Nat}(hij:i<j)(hj:j<(jK d.toArray).toList.length):¬Nb (gt (jK d.toArray).toList j) (gt (jK d.toArray).toList i):=by
 have e:=(ol d.toArray).2;have hsz:(jK d.toArray).size=d.toArray.size:=(ol d.toArray).1.1;rw[cK]at hj;have h1:=e i j (Nat.zero_le _) hij (by rw[<-hsz];exact hj);have g:∀k,k<(jK d.toArray).size->gt (jK d.toArray).toList k=(jK d.toArray)[k]!:=fun k hk=>by rw[cR (by simpa using hk),Array.getElem_toList,getElem!_pos _ k hk]
 rw[g j hj,g i (by omega)];intro hb;rw[xN.2 hb]at h1;simp at h1
theorem BY:(jK (DB t old now).toArray).toList.Pairwise Nb:=by
 rw[List.pairwise_iff_getElem];intro i j hi hj hij;have hn:=E4 (DB t old now) hij hj;have hp:=uX (DB t old now);have hnd:(jK (DB t old now).toArray).toList.Nodup:=hp.nodup_iff.2 AS;rw[cR hi,cR hj]at hn;generalize(jK (DB t old now).toArray).toList=l at*;have hma:l[i]∈DB t old now:=hp.mem_iff.1 (ce _);have hmb:l[j]∈DB t old now:=hp.mem_iff.1 (ce _);have hne:l[i]≠l[j]:=fun e=>by have:=(List.getElem_inj hnd).1 e;omega
 obtain⟨h1,s1,_,_,_,e1⟩:=xH.1 hma;obtain⟨h2,s2,_,_,_,e2⟩:=xH.1 hmb;rw[e1,e2]at hn hne|-;unfold Nb at hn|-;simp only at hn|-;by_cases hr:eL t now h1 s1=eL t now h2 s2
 .by_cases hs:s1=s2
  .by_cases hh:h1=h2
   .exact absurd (by rw[hs,hh]) hne
   .omega
  .omega
 .omega
end
end Go.Proofs.YthcplpfiidlinaaDoor.J
