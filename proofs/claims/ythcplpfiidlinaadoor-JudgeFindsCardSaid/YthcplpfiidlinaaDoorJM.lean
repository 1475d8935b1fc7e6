/- The moves from old routes to new ones: what the program's Moves answers. Conditions: as stated. -/
import Derived.Test.YthcplpfiidlinaaDoorJW
open List renaming length_append->av,length_range->fX,length_take->b_,range->aL
open Option renaming bind_some->af
open Go.Ev Go
noncomputable section
namespace Go.Proofs.YthcplpfiidlinaaDoor.J
theorem gT{α β:Type}{f:α->List β}{m:Nat}(hf:∀x,(f x).length<=m):∀l:List α,(l.flatMap f).length<=m*l.length:=by intro l;induction l with|nil=>simp|cons x l ih=>have:=hf x;simp only[List.flatMap_cons,av,List.length_cons,Nat.mul_add];omega
section
variable{t:ah}{old now:Sl (Sl Int)}
def Ak(t:ah)(old now:Sl (Sl Int))(h s:Nat):List ae:=if c_ now h s≠c_ old h s then[((s:Int),(h:Int),c_ now h s,(eR t now h s:Int))]else[]
def Nn(t:ah)(old now:Sl (Sl Int))(h:Nat):List ae:=(aL now.l.length).flatMap (Ak t old now h)
def DP(t:ah)(old now:Sl (Sl Int)):List ae:=(aL t.bf.l.length).flatMap (Nn t old now)
theorem DQ(h s:Nat):(Ak t old now h s).length<=1:=by unfold Ak;split<;>simp
theorem B4(h:Nat):(Nn t old now h).length<=now.l.length:=by have:=gT (m:=1) (DQ (t:=t) (old:=old) (now:=now) h) (aL now.l.length);unfold Nn;simpa using this
theorem xQ{m:ae}:m∈DP t old now<->∃h s,h<t.bf.l.length/\s<now.l.length/\c_ now h s≠c_ old h s/\m=((s:Int),(h:Int),c_ now h s,(eR t now h s:Int)):=by
 simp only[DP,Nn,Ak,List.mem_flatMap,List.mem_range];constructor
 .rintro ⟨h,hh,s,hs,hm⟩;split at hm
  .rename_i hne;exact⟨h,s,hh,hs,hne,by simpa using hm⟩
  .simp at hm
 .rintro ⟨h,s,hh,hs,hne,rfl⟩;exact⟨h,hh,s,hs,by rw[if_pos hne];simp⟩
theorem yE{n i:Nat}(hi:i<n):gt (aL n) i=i:=by rw[cR (by simpa using hi)];simp
theorem I5(hO:gy t old)(hN:gy t now):∃s,mO t old now=some (s,0)/\s.l=(jN (DP t old now).toArray).toList:=by
 have hsm:=hN.1.sM;have hho:=hN.1.se;have hle:old.l.length=now.l.length:=by have:=hO.1.len;have:=hN.1.len;omega
 have hin:∀(h:Nat),h<t.bf.l.length->∀s0:Sl ae,s0.l.length<=1000->∃s,bE (j6 old now (h:Int) (.mk (sg t now h))) (0,s0)=some s/\s.l=s0.l++Nn t old now h:=by
  intro h hh s0 h0;refine D6 (f:=j6 old now (h:Int) (.mk (sg t now h))) (aL now.l.length) (Ak t old now h) s0 (by simp;omega) (fun i s hi hs=>?_) (fun s=>by simp only[j6,fX,kO,cond_false]);have hi:i<now.l.length:=by simpa using hi
  have hio:i<old.l.length:=by omega
  have hhn:h<(gt now.l i).l.length:=by rw[hN.1.dl hi];exact hh
  have hhO:h<(gt old.l i).l.length:=by rw[hO.1.dl hio];exact hh
  have hid:i<(Sl.mk (sg t now h)).l.length:=by rw[Sl.iP,wM];exact hi
  have hlen:s.l.length<=2000:=by have:=gT (m:=1) (DQ (t:=t) (old:=old) (now:=now) h) ((aL now.l.length).take i);rw[hs,av];rw[b_,fX]at this;omega
  rw[yE hi];by_cases hne:c_ now h i=c_ old h i
  .refine ⟨s,?_,by rw[Ak,if_neg (not_not_intro hne),List.append_nil]⟩;have e:((gt (gt now.l i).l h) !=(gt (gt old.l i).l h))=false:=by have hne:gt (gt now.l i).l h=gt (gt old.l i).l h:=hne;rw[hne];simp
   simp only[j6,jw hi,cond_true,bq hi,bq hio,bq hhn,bq hhO,af,e,cond_false]
  .have e:((gt (gt now.l i).l h) !=(gt (gt old.l i).l h))=true:=by have hne:¬gt (gt now.l i).l h=gt (gt old.l i).l h:=hne;simpa using hne
   have hd:gt (Sl.mk (sg t now h)).l i=(eR t now h i:Int):=by rw[Sl.iP,MD hi]
   refine⟨.mk (s.l++[((i:Int),(h:Int),gt (gt now.l i).l h,(eR t now h i:Int))]),?_,by rw[Ak,if_pos hne];rfl⟩;simp only[j6,jw hi,cond_true,bq hi,bq hio,bq hhn,bq hhO,bq hid,af,e,hd];rw[il (by rw[av,List.length_singleton];omega)];rfl
 obtain⟨s,h1,h2⟩:=D6 (f:=m9 t old now) (aL t.bf.l.length) (Nn t old now) .nil (by simp;omega) (fun i s hi hs=>by
  have hi:i<t.bf.l.length:=by simpa using hi
  have hlen:s.l.length<=1000:=by have:=gT (m:=8) (f:=Nn t old now) (fun h=>by have:=B4 (t:=t) (old:=old) (now:=now) h;omega) ((aL t.bf.l.length).take i);rw[hs];rw[b_,fX]at this;simp only[Sl.LG,List.nil_append];omega
  obtain⟨s',h1,h2⟩:=hin i hi s hlen;refine⟨s',?_,by rw[h2,yE hi]⟩;simp only[m9,jw hi,cond_true,HM hN hi hN.U8,af,h1]) (fun s=>by simp only[m9,fX,kO,cond_false])
 have h2:s.l=DP t old now:=h2;have hlen:s.l.length<4611686018427387904:=by have:=gT (m:=8) (f:=Nn t old now) (fun h=>by have:=B4 (t:=t) (old:=old) (now:=now) h;omega) (aL t.bf.l.length);rw[fX]at this;have e:(DP t old now).length<=8*t.bf.l.length:=this;rw[h2];omega
 have hsort:ui jN s=some (s.to (jN s.l.toArray).toList):=by unfold ui;rw[show Nat.blt s.l.length 4611686018427387904=true by rw[Nat.blt_eq];exact hlen];rfl
 have hsz:(jN s.l.toArray).toList.length=s.l.length:=by have:=(ot s.l.toArray).1.1;simpa using this
 have hlenS:Al (s.to (jN s.l.toArray).toList) s=some ():=by cases s with|nil=>rfl|mk l=>have hsz:(jN l.toArray).toList.length=l.length:=hsz;show F_ (jN l.toArray).toList l=some ();unfold F_;rw[if_pos hsz]
 refine⟨s.to (jN s.l.toArray).toList,?_,?_⟩
 .simp only[mO,zk hO,zk hN,af,Bool.not_true,cond_false,h1,hsort,hlenS]
 .rw [<-h2];cases s with|nil=>have hsz:(jN [].toArray).toList.length=0:=hsz;exact(List.length_eq_zero_iff.1 hsz).symm|mk l=>rfl
end
end Go.Proofs.YthcplpfiidlinaaDoor.J
