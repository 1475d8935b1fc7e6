/- The moves from old routes to new ones: what the program's jx answers. Conditions: as stated. -/
import Derived.Test.YthcplpfiidlinaaDoorJW
open Go.Ev Go
noncomputable section
open List renaming length_append->av,length_range->fW,length_take->bY,range->aL
open Option renaming bind_some->af
namespace Go.Proofs.YthcplpfiidlinaaDoor.J
theorem gS{α β:Type}{f:α->List β}{m:Nat}(hf:∀x,(f x).length<=m):∀l:List α,(l.flatMap f).length<=m*l.length:=by intro l;induction l with|nil=>simp|cons x l ih=>have:=hf x;simp only[List.flatMap_cons,av,List.length_cons,Nat.mul_add];omega
section
variable{t:ah}{old now:Sl (Sl Int)}
def Ad(t:ah)(old now:Sl (Sl Int))(h s:Nat):List ae:=if c9 now h s≠c9 old h s then[((s:Int),(h:Int),c9 now h s,(eN t now h s:Int))]else[]
def Ni(t:ah)(old now:Sl (Sl Int))(h:Nat):List ae:=(aL now.l.length).flatMap (Ad t old now h)
def DI(t:ah)(old now:Sl (Sl Int)):List ae:=(aL t.bf.l.length).flatMap (Ni t old now)
theorem DJ(h s:Nat):(Ad t old now h s).length<=1:=by unfold Ad;split<;>simp
theorem BV(h:Nat):(Ni t old now h).length<=now.l.length:=by have:=gS (m:=1) (DJ (t:=t) (old:=old) (now:=now) h) (aL now.l.length);unfold Ni;simpa using this
theorem xK{m:ae}:m∈DI t old now<->∃h s,h<t.bf.l.length/\s<now.l.length/\c9 now h s≠c9 old h s/\m=((s:Int),(h:Int),c9 now h s,(eN t now h s:Int)):=by
 simp only[DI,Ni,Ad,List.mem_flatMap,List.mem_range];constructor
 .rintro ⟨h,hh,s,hs,hm⟩;split at hm
  .rename_i hne;exact⟨h,s,hh,hs,hne,by simpa using hm⟩
  .simp at hm
 .rintro ⟨h,s,hh,hs,hne,rfl⟩;exact⟨h,hh,s,hs,by rw[if_pos hne];simp⟩
theorem yz{n i:Nat}(hi:i<n):gt (aL n) i=i:=by rw[cQ (by simpa using hi)];simp
theorem IX(hO:gy t old)(hN:gy t now):∃s,mJ t old now=some (s,0)/\s.l=(jM (DI t old now).toArray).toList:=by
 have hsm:=hN.1.sG;have hho:=hN.1.rX;have hle:old.l.length=now.l.length:=by have:=hO.1.len;have:=hN.1.len;omega
 have hin:∀(h:Nat),h<t.bf.l.length->∀s0:Sl ae,s0.l.length<=1000->∃s,bE (j5 old now (h:Int) (.mk (rZ t now h))) (0,s0)=some s/\s.l=s0.l++Ni t old now h:=by
  intro h hh s0 h0;refine DZ (f:=j5 old now (h:Int) (.mk (rZ t now h))) (aL now.l.length) (Ad t old now h) s0 (by simp;omega) (fun i s hi hs=>?_) (fun s=>by simp only[j5,fW,kL,cond_false]);have hi:i<now.l.length:=by simpa using hi
  have hio:i<old.l.length:=by omega
  have hhn:h<(gt now.l i).l.length:=by rw[hN.1.dj hi];exact hh
  have hhO:h<(gt old.l i).l.length:=by rw[hO.1.dj hio];exact hh
  have hid:i<(Sl.mk (rZ t now h)).l.length:=by rw[Sl.iN,wH];exact hi
  have hlen:s.l.length<=2000:=by have:=gS (m:=1) (DJ (t:=t) (old:=old) (now:=now) h) ((aL now.l.length).take i);rw[hs,av];rw[bY,fW]at this;omega
  rw[yz hi];by_cases hne:c9 now h i=c9 old h i
  .refine ⟨s,?_,by rw[Ad,if_neg (not_not_intro hne),List.append_nil]⟩;have e:((gt (gt now.l i).l h) !=(gt (gt old.l i).l h))=false:=by have hne:gt (gt now.l i).l h=gt (gt old.l i).l h:=hne;rw[hne];simp
   simp only[j5,jt hi,cond_true,bp hi,bp hio,bp hhn,bp hhO,af,e,cond_false]
  .have e:((gt (gt now.l i).l h) !=(gt (gt old.l i).l h))=true:=by have hne:¬gt (gt now.l i).l h=gt (gt old.l i).l h:=hne;simpa using hne
   have hd:gt (Sl.mk (rZ t now h)).l i=(eN t now h i:Int):=by rw[Sl.iN,My hi]
   refine⟨.mk (s.l++[((i:Int),(h:Int),gt (gt now.l i).l h,(eN t now h i:Int))]),?_,by rw[Ad,if_pos hne];rfl⟩;simp only[j5,jt hi,cond_true,bp hi,bp hio,bp hhn,bp hhO,bp hid,af,e,hd];rw[ik (by rw[av,List.length_singleton];omega)];rfl
 obtain⟨s,h1,h2⟩:=DZ (f:=mZ t old now) (aL t.bf.l.length) (Ni t old now) .nil (by simp;omega) (fun i s hi hs=>by
  have hi:i<t.bf.l.length:=by simpa using hi
  have hlen:s.l.length<=1000:=by have:=gS (m:=8) (f:=Ni t old now) (fun h=>by have:=BV (t:=t) (old:=old) (now:=now) h;omega) ((aL t.bf.l.length).take i);rw[hs];rw[bY,fW]at this;simp only[Sl.LA,List.nil_append];omega
  obtain⟨s',h1,h2⟩:=hin i hi s hlen;refine⟨s',?_,by rw[h2,yz hi]⟩;simp only[mZ,jt hi,cond_true,HE hN hi hN.U5,af,h1]) (fun s=>by simp only[mZ,fW,kL,cond_false])
 have h2:s.l=DI t old now:=h2;have hlen:s.l.length<4611686018427387904:=by have:=gS (m:=8) (f:=Ni t old now) (fun h=>by have:=BV (t:=t) (old:=old) (now:=now) h;omega) (aL t.bf.l.length);rw[fW]at this;have e:(DI t old now).length<=8*t.bf.l.length:=this;rw[h2];omega
 have hsort:ue jM s=some (s.to (jM s.l.toArray).toList):=by unfold ue;rw[show Nat.blt s.l.length 4611686018427387904=true by rw[Nat.blt_eq];exact hlen];rfl
 have hsz:(jM s.l.toArray).toList.length=s.l.length:=by have:=(oc s.l.toArray).1.1;simpa using this
 have hlenS:Ae (s.to (jM s.l.toArray).toList) s=some ():=by cases s with|nil=>rfl|mk l=>have hsz:(jM l.toArray).toList.length=l.length:=hsz;show F4 (jM l.toArray).toList l=some ();unfold F4;rw[if_pos hsz]
 refine⟨s.to (jM s.l.toArray).toList,?_,?_⟩
 .simp only[mJ,zf hO,zf hN,af,Bool.not_true,cond_false,h1,hsort,hlenS]
 .rw [<-h2];cases s with|nil=>have hsz:(jM [].toArray).toList.length=0:=hsz;exact(List.length_eq_zero_iff.1 hsz).symm|mk l=>rfl
end
end Go.Proofs.YthcplpfiidlinaaDoor.J
