/- The moves from old routes to new ones: what the program's iZ answers. Conditions: as stated. -/
import Derived.Test.YthcplpfiidlinaaDoorJW
open Go.Ev Go
noncomputable section
open List renaming length_append->av,length_range->fW,length_take->b_,range->aK
open Option renaming bind_some->af
namespace Go.Proofs.YthcplpfiidlinaaDoor.J
theorem gT{α β:Type}{f:α->List β}{m:Nat}(hf:∀x,(f x).length<=m):∀l:List α,(l.flatMap f).length<=m*l.length:=by intro l;induction l with|nil=>simp|cons x l ih=>have:=hf x;simp only[List.flatMap_cons,av,List.length_cons,Nat.mul_add];omega
section
variable{t:ah}{old now:Sl (Sl Int)}
def Ac(t:ah)(old now:Sl (Sl Int))(h s:Nat):List ae:=if c_ now h s≠c_ old h s then[((s:Int),(h:Int),c_ now h s,(eL t now h s:Int))]else[]
def Nf(t:ah)(old now:Sl (Sl Int))(h:Nat):List ae:=(aK now.l.length).flatMap (Ac t old now h)
def DB(t:ah)(old now:Sl (Sl Int)):List ae:=(aK t.bd.l.length).flatMap (Nf t old now)
theorem DC(h s:Nat):(Ac t old now h s).length<=1:=by unfold Ac;split<;>simp
theorem BW(h:Nat):(Nf t old now h).length<=now.l.length:=by have:=gT (m:=1) (DC (t:=t) (old:=old) (now:=now) h) (aK now.l.length);unfold Nf;simpa using this
theorem xH{m:ae}:m∈DB t old now<->∃h s,h<t.bd.l.length/\s<now.l.length/\c_ now h s≠c_ old h s/\m=((s:Int),(h:Int),c_ now h s,(eL t now h s:Int)):=by
 simp only[DB,Nf,Ac,List.mem_flatMap,List.mem_range];constructor
 .rintro ⟨h,hh,s,hs,hm⟩;split at hm
  .rename_i hne;exact⟨h,s,hh,hs,hne,by simpa using hm⟩
  .simp at hm
 .rintro ⟨h,s,hh,hs,hne,rfl⟩;exact⟨h,hh,s,hs,by rw[if_pos hne];simp⟩
theorem yq{n i:Nat}(hi:i<n):gt (aK n) i=i:=by rw[cR (by simpa using hi)];simp
theorem IV(hO:gx t old)(hN:gx t now):∃s,mI t old now=some (s,0)/\s.l=(jK (DB t old now).toArray).toList:=by
 have hsm:=hN.1.sC;have hho:=hN.1.rT;have hle:old.l.length=now.l.length:=by have:=hO.1.len;have:=hN.1.len;omega
 have hin:∀(h:Nat),h<t.bd.l.length->∀s0:Sl ae,s0.l.length<=1000->∃s,bD (j3 old now (h:Int) (.mk (rV t now h))) (0,s0)=some s/\s.l=s0.l++Nf t old now h:=by
  intro h hh s0 h0;refine DS (f:=j3 old now (h:Int) (.mk (rV t now h))) (aK now.l.length) (Ac t old now h) s0 (by simp;omega) (fun i s hi hs=>?_) (fun s=>by simp only[j3,fW,kK,cond_false]);have hi:i<now.l.length:=by simpa using hi
  have hio:i<old.l.length:=by omega
  have hhn:h<(gt now.l i).l.length:=by rw[hN.1.dj hi];exact hh
  have hhO:h<(gt old.l i).l.length:=by rw[hO.1.dj hio];exact hh
  have hid:i<(Sl.mk (rV t now h)).l.length:=by rw[Sl.iO,wF];exact hi
  have hlen:s.l.length<=2000:=by have:=gT (m:=1) (DC (t:=t) (old:=old) (now:=now) h) ((aK now.l.length).take i);rw[hs,av];rw[b_,fW]at this;omega
  rw[yq hi];by_cases hne:c_ now h i=c_ old h i
  .refine ⟨s,?_,by rw[Ac,if_neg (not_not_intro hne),List.append_nil]⟩;have e:((gt (gt now.l i).l h) !=(gt (gt old.l i).l h))=false:=by have hne:gt (gt now.l i).l h=gt (gt old.l i).l h:=hne;rw[hne];simp
   simp only[j3,jt hi,cond_true,bq hi,bq hio,bq hhn,bq hhO,af,e,cond_false]
  .have e:((gt (gt now.l i).l h) !=(gt (gt old.l i).l h))=true:=by have hne:¬gt (gt now.l i).l h=gt (gt old.l i).l h:=hne;simpa using hne
   have hd:gt (Sl.mk (rV t now h)).l i=(eL t now h i:Int):=by rw[Sl.iO,Mu hi]
   refine⟨.mk (s.l++[((i:Int),(h:Int),gt (gt now.l i).l h,(eL t now h i:Int))]),?_,by rw[Ac,if_pos hne];rfl⟩;simp only[j3,jt hi,cond_true,bq hi,bq hio,bq hhn,bq hhO,bq hid,af,e,hd];rw[ik (by rw[av,List.length_singleton];omega)];rfl
 obtain⟨s,h1,h2⟩:=DS (f:=mY t old now) (aK t.bd.l.length) (Nf t old now) .nil (by simp;omega) (fun i s hi hs=>by
  have hi:i<t.bd.l.length:=by simpa using hi
  have hlen:s.l.length<=1000:=by have:=gT (m:=8) (f:=Nf t old now) (fun h=>by have:=BW (t:=t) (old:=old) (now:=now) h;omega) ((aK t.bd.l.length).take i);rw[hs];rw[b_,fW]at this;simp only[Sl.Lv,List.nil_append];omega
  obtain⟨s',h1,h2⟩:=hin i hi s hlen;refine⟨s',?_,by rw[h2,yq hi]⟩;simp only[mY,jt hi,cond_true,HC hN hi hN.UY,af,h1]) (fun s=>by simp only[mY,fW,kK,cond_false])
 have h2:s.l=DB t old now:=h2;have hlen:s.l.length<4611686018427387904:=by have:=gT (m:=8) (f:=Nf t old now) (fun h=>by have:=BW (t:=t) (old:=old) (now:=now) h;omega) (aK t.bd.l.length);rw[fW]at this;have e:(DB t old now).length<=8*t.bd.l.length:=this;rw[h2];omega
 have hsort:t8 jK s=some (s.to (jK s.l.toArray).toList):=by unfold t8;rw[show Nat.blt s.l.length 4611686018427387904=true by rw[Nat.blt_eq];exact hlen];rfl
 have hsz:(jK s.l.toArray).toList.length=s.l.length:=by have:=(ol s.l.toArray).1.1;simpa using this
 have hlenS:Ad (s.to (jK s.l.toArray).toList) s=some ():=by cases s with|nil=>rfl|mk l=>have hsz:(jK l.toArray).toList.length=l.length:=hsz;show FW (jK l.toArray).toList l=some ();unfold FW;rw[if_pos hsz]
 refine⟨s.to (jK s.l.toArray).toList,?_,?_⟩
 .simp only[mI,y9 hO,y9 hN,af,Bool.not_true,cond_false,h1,hsort,hlenS]
 .rw [<-h2];cases s with|nil=>have hsz:(jK [].toArray).toList.length=0:=hsz;exact(List.length_eq_zero_iff.1 hsz).symm|mk l=>rfl
end
end Go.Proofs.YthcplpfiidlinaaDoor.J
