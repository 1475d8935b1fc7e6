/- Good routes and the moves between them: how far who moves is, and in what order moves stand. Conditions: as stated. -/
import Derived.Test.YtpnnnoagjcpmhaaDoorUM
open List renaming mem_flatMap->bT,pairwise_lt_range->lF,take_length->er
open Go.Ev Go
namespace Go.Proofs.YtpnnnoagjcpmhaaDoor.U
section
variable{t:ah}{old now r:Sl (Sl Int)}{h:Nat}
theorem yV(hG:gk t r)(hh:h<t.aR.l.length){s:Nat}(hs:s<r.l.length)(h0:ei t r h s=0):qq t r h s:=by have:=hG.ei hs hh;rw[h0]at this;cases this with|wQ hH=>exact hH
theorem yW(hG:gk t r)(hh:h<t.aR.l.length){s:Nat}(hs:s<r.l.length)(h0:ei t r h s≠0):¬qq t r h s/\∃s',oO t r h s=some s'/\s'<r.l.length/\ei t r h s=ei t r h s'+1:=by have ha:=hG.ei hs hh;generalize ei t r h s=k at ha h0;cases ha with|wQ hH=>exact absurd rfl h0|@iD _ s' k h1 h2 h3=>exact⟨h1,s',h2,E0 hG.1 h2,by rw[Fq h3]⟩
theorem Gw:(KP t old now).Nodup:=by
 unfold KP;rw[List.nodup_iff_pairwise_ne,List.pairwise_flatMap]
 have hA:∀h s,∀x∈xX t old now h s,x.1=(s:Int)/\x.2.1=(h:Int):=fun h s x hx=>by
  unfold xX at hx;split at hx
  .obtain rfl:=List.mem_singleton.1 hx;exact⟨rfl,rfl⟩
  .simp at hx
 refine⟨fun h _=>?_,?_⟩
 .unfold KQ;rw[List.pairwise_flatMap];refine⟨fun s _=>?_,?_⟩
  .unfold xX;split<;>simp
  .refine List.Pairwise.imp ?_ (lF (n:=now.l.length));intro a b hab x hx y hy e;have h1:=(hA h a x hx).1;have h2:=(hA h b y hy).1;rw[e]at h1;omega
 .refine List.Pairwise.imp ?_ (lF (n:=t.aR.l.length));intro a b hab x hx y hy e;obtain⟨s1,_,hx⟩:=bT.1 hx;obtain⟨s2,_,hy⟩:=bT.1 hy;have h1:=(hA a s1 x hx).2;have h2:=(hA b s2 y hy).2;rw[e]at h1;omega
theorem vQ(d:List ap):(kq d.toArray).toList.Perm d:=by
 have e:=(oe d.toArray).1;have h1:=e.2.2;have h2:(kq d.toArray).size=d.length:=by simpa using e.1
 simp only[List.size_toArray,Array.toList_extract,List.extract_eq_take_drop,Nat.sub_zero,List.drop_zero,er]at h1;rwa[<-h2,<-Array.length_toList,er]at h1
end
end Go.Proofs.YtpnnnoagjcpmhaaDoor.U
