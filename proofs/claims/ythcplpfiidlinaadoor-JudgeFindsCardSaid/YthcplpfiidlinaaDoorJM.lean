/- The moves from old routes to new ones: what the program's jf answers. Conditions: as stated. -/
import Derived.Test.YthcplpfiidlinaaDoorJW
open Go.Ev Go
noncomputable section
open List renaming length_append->av,length_range->fV,length_take->bY,range->aK
open Option renaming bind_some->af
namespace Go.Proofs.YthcplpfiidlinaaDoor.J
theorem ia{α β:Type}{f:α->List β}{m:Nat}(hf:∀x,(f x).length<=m):∀l:List α,(l.flatMap f).length<=m*l.length:=by intro l;induction l with|nil=>simp|cons x l ih=>have:=hf x;simp only[List.flatMap_cons,av,List.length_cons,Nat.mul_add];omega
section
variable{t:ah}{old now:Sl (Sl Int)}
def zY(t:ah)(old now:Sl (Sl Int))(h s:Nat):List ae:=if c9 now h s≠c9 old h s then[((s:Int),(h:Int),c9 now h s,(eH t now h s:Int))]else[]
def Nb(t:ah)(old now:Sl (Sl Int))(h:Nat):List ae:=(aK now.l.length).flatMap (zY t old now h)
def Dv(t:ah)(old now:Sl (Sl Int)):List ae:=(aK t.bd.l.length).flatMap (Nb t old now)
theorem Dw(h s:Nat):(zY t old now h s).length<=1:=by unfold zY;split<;>simp
theorem BM(h:Nat):(Nb t old now h).length<=now.l.length:=by have:=ia (m:=1) (Dw (t:=t) (old:=old) (now:=now) h) (aK now.l.length);unfold Nb;simpa using this
theorem xA{m:ae}:m∈Dv t old now<->∃h s,h<t.bd.l.length/\s<now.l.length/\c9 now h s≠c9 old h s/\m=((s:Int),(h:Int),c9 now h s,(eH t now h s:Int)):=by
 simp only[Dv,Nb,zY,List.mem_flatMap,List.mem_range];constructor
 .rintro ⟨h,hh,s,hs,hm⟩;split at hm
  .rename_i hne;exact⟨h,s,hh,hs,hne,by simpa using hm⟩
  .simp at hm
 .rintro ⟨h,s,hh,hs,hne,rfl⟩;exact⟨h,hh,s,hs,by rw[if_pos hne];simp⟩
theorem yj{n i:Nat}(hi:i<n):gt (aK n) i=i:=by rw[cP (by simpa using hi)];simp
theorem IP(hO:gx t old)(hN:gx t now):∃s,mD t old now=some (s,0)/\s.l=(jH (Dv t old now).toArray).toList:=by
 have hsm:=hN.1.su;have hho:=hN.1.rO;have hle:old.l.length=now.l.length:=by have:=hO.1.len;have:=hN.1.len;omega
 have hin:∀(h:Nat),h<t.bd.l.length->∀s0:Sl ae,s0.l.length<=1000->∃s,bD (jX old now (h:Int) (.mk (rQ t now h))) (0,s0)=some s/\s.l=s0.l++Nb t old now h:=by
  intro h hh s0 h0;refine DM (f:=jX old now (h:Int) (.mk (rQ t now h))) (aK now.l.length) (zY t old now h) s0 (by simp;omega) (fun i s hi hs=>?_) (fun s=>by simp only[jX,fV,kH,cond_false]);have hi:i<now.l.length:=by simpa using hi
  have hio:i<old.l.length:=by omega
  have hhn:h<(gt now.l i).l.length:=by rw[hN.1.dj hi];exact hh
  have hhO:h<(gt old.l i).l.length:=by rw[hO.1.dj hio];exact hh
  have hid:i<(Sl.mk (rQ t now h)).l.length:=by rw[Sl.iM,wy];exact hi
  have hlen:s.l.length<=2000:=by have:=ia (m:=1) (Dw (t:=t) (old:=old) (now:=now) h) ((aK now.l.length).take i);rw[hs,av];rw[bY,fV]at this;omega
  rw[yj hi];by_cases hne:c9 now h i=c9 old h i
  .refine ⟨s,?_,by rw[zY,if_neg (not_not_intro hne),List.append_nil]⟩;have e:((gt (gt now.l i).l h) !=(gt (gt old.l i).l h))=false:=by have hne:gt (gt now.l i).l h=gt (gt old.l i).l h:=hne;rw[hne];simp
   simp only[jX,js hi,cond_true,bp hi,bp hio,bp hhn,bp hhO,af,e,cond_false]
  .have e:((gt (gt now.l i).l h) !=(gt (gt old.l i).l h))=true:=by have hne:¬gt (gt now.l i).l h=gt (gt old.l i).l h:=hne;simpa using hne
   have hd:gt (Sl.mk (rQ t now h)).l i=(eH t now h i:Int):=by rw[Sl.iM,Mr hi]
   refine⟨.mk (s.l++[((i:Int),(h:Int),gt (gt now.l i).l h,(eH t now h i:Int))]),?_,by rw[zY,if_pos hne];rfl⟩;simp only[jX,js hi,cond_true,bp hi,bp hio,bp hhn,bp hhO,bp hid,af,e,hd];rw[ij (by rw[av,List.length_singleton];omega)];rfl
 obtain⟨s,h1,h2⟩:=DM (f:=mU t old now) (aK t.bd.l.length) (Nb t old now) .nil (by simp;omega) (fun i s hi hs=>by
  have hi:i<t.bd.l.length:=by simpa using hi
  have hlen:s.l.length<=1000:=by have:=ia (m:=8) (f:=Nb t old now) (fun h=>by have:=BM (t:=t) (old:=old) (now:=now) h;omega) ((aK t.bd.l.length).take i);rw[hs];rw[bY,fV]at this;simp only[Sl.Ls,List.nil_append];omega
  obtain⟨s',h1,h2⟩:=hin i hi s hlen;refine⟨s',?_,by rw[h2,yj hi]⟩;simp only[mU,js hi,cond_true,Hw hN hi hN.UT,af,h1]) (fun s=>by simp only[mU,fV,kH,cond_false])
 have h2:s.l=Dv t old now:=h2;have hlen:s.l.length<4611686018427387904:=by have:=ia (m:=8) (f:=Nb t old now) (fun h=>by have:=BM (t:=t) (old:=old) (now:=now) h;omega) (aK t.bd.l.length);rw[fV]at this;have e:(Dv t old now).length<=8*t.bd.l.length:=this;rw[h2];omega
 have hsort:tY jH s=some (s.to (jH s.l.toArray).toList):=by unfold tY;rw[show Nat.blt s.l.length 4611686018427387904=true by rw[Nat.blt_eq];exact hlen];rfl
 have hsz:(jH s.l.toArray).toList.length=s.l.length:=by have:=(n_ s.l.toArray).1.1;simpa using this
 have hlenS:zZ (s.to (jH s.l.toArray).toList) s=some ():=by cases s with|nil=>rfl|mk l=>have hsz:(jH l.toArray).toList.length=l.length:=hsz;show FS (jH l.toArray).toList l=some ();unfold FS;rw[if_pos hsz]
 refine⟨s.to (jH s.l.toArray).toList,?_,?_⟩
 .simp only[mD,yV hO,yV hN,af,Bool.not_true,cond_false,h1,hsort,hlenS]
 .rw [<-h2];cases s with|nil=>have hsz:(jH [].toArray).toList.length=0:=hsz;exact(List.length_eq_zero_iff.1 hsz).symm|mk l=>rfl
end
end Go.Proofs.YthcplpfiidlinaaDoor.J
