/- The moves from old routes to new ones: what the program's qR answers. Conditions: as stated. -/
import Derived.Test.YthcplpfiidlinaaDoorJW
open Go.Ev Go
noncomputable section
open List renaming length_append->az,length_range->fN,length_take->cF,range->aK
open Option renaming bind_some->af
namespace Go.Proofs.YthcplpfiidlinaaDoor.J
theorem gK{α β:Type}{f:α->List β}{m:Nat}(hf:∀x,(f x).length<=m):∀l:List α,(l.flatMap f).length<=m*l.length:=by intro l;induction l with|nil=>simp|cons x l ih=>have:=hf x;simp only[List.flatMap_cons,az,List.length_cons,Nat.mul_add];omega
section
variable{t:ah}{old now:Sl (Sl Int)}
def zW(t:ah)(old now:Sl (Sl Int))(h s:Nat):List ae:=if cZ now h s≠cZ old h s then[((s:Int),(h:Int),cZ now h s,(eJ t now h s:Int))]else[]
def M0(t:ah)(old now:Sl (Sl Int))(h:Nat):List ae:=(aK now.l.length).flatMap (zW t old now h)
def Dv(t:ah)(old now:Sl (Sl Int)):List ae:=(aK t.bf.l.length).flatMap (M0 t old now)
theorem Dw(h s:Nat):(zW t old now h s).length<=1:=by unfold zW;split<;>simp
theorem BJ(h:Nat):(M0 t old now h).length<=now.l.length:=by have:=gK (m:=1) (Dw (t:=t) (old:=old) (now:=now) h) (aK now.l.length);unfold M0;simpa using this
theorem xB{m:ae}:m∈Dv t old now<->∃h s,h<t.bf.l.length/\s<now.l.length/\cZ now h s≠cZ old h s/\m=((s:Int),(h:Int),cZ now h s,(eJ t now h s:Int)):=by
 simp only[Dv,M0,zW,List.mem_flatMap,List.mem_range];constructor
 .rintro ⟨h,hh,s,hs,hm⟩;split at hm
  .rename_i hne;exact⟨h,s,hh,hs,hne,by simpa using hm⟩
  .simp at hm
 .rintro ⟨h,s,hh,hs,hne,rfl⟩;exact⟨h,hh,s,hs,by rw[if_pos hne];simp⟩
theorem yn{n i:Nat}(hi:i<n):gt (aK n) i=i:=by rw[cY (by simpa using hi)];simp
theorem IC(hO:gk t old)(hN:gk t now):∃s,mz t old now=some (s,0)/\s.l=(jH (Dv t old now).toArray).toList:=by
 have hsm:=hN.1.sv;have hho:=hN.1.rO;have hle:old.l.length=now.l.length:=by have:=hO.1.len;have:=hN.1.len;omega
 have hin:∀(h:Nat),h<t.bf.l.length->∀s0:Sl ae,s0.l.length<=1000->∃s,bE (jW old now (h:Int) (.mk (rQ t now h))) (0,s0)=some s/\s.l=s0.l++M0 t old now h:=by
  intro h hh s0 h0;refine DK (f:=jW old now (h:Int) (.mk (rQ t now h))) (aK now.l.length) (zW t old now h) s0 (by simp;omega) (fun i s hi hs=>?_) (fun s=>by simp only[jW,fN,kG,cond_false]);have hi:i<now.l.length:=by simpa using hi
  have hio:i<old.l.length:=by omega
  have hhn:h<(gt now.l i).l.length:=by rw[hN.1.di hi];exact hh
  have hhO:h<(gt old.l i).l.length:=by rw[hO.1.di hio];exact hh
  have hid:i<(Sl.mk (rQ t now h)).l.length:=by rw[Sl.iZ,wx];exact hi
  have hlen:s.l.length<=2000:=by have:=gK (m:=1) (Dw (t:=t) (old:=old) (now:=now) h) ((aK now.l.length).take i);rw[hs,az];rw[cF,fN]at this;omega
  rw[yn hi];by_cases hne:cZ now h i=cZ old h i
  .refine ⟨s,?_,by rw[zW,if_neg (not_not_intro hne),List.append_nil]⟩;have e:((gt (gt now.l i).l h) !=(gt (gt old.l i).l h))=false:=by have hne:gt (gt now.l i).l h=gt (gt old.l i).l h:=hne;rw[hne];simp
   simp only[jW,jo hi,cond_true,bA hi,bA hio,bA hhn,bA hhO,af,e,cond_false]
  .have e:((gt (gt now.l i).l h) !=(gt (gt old.l i).l h))=true:=by have hne:¬gt (gt now.l i).l h=gt (gt old.l i).l h:=hne;simpa using hne
   have hd:gt (Sl.mk (rQ t now h)).l i=(eJ t now h i:Int):=by rw[Sl.iZ,Mc hi]
   refine⟨.mk (s.l++[((i:Int),(h:Int),gt (gt now.l i).l h,(eJ t now h i:Int))]),?_,by rw[zW,if_pos hne];rfl⟩;simp only[jW,jo hi,cond_true,bA hi,bA hio,bA hhn,bA hhO,bA hid,af,e,hd];rw[jq (by rw[az,List.length_singleton];omega)];rfl
 obtain⟨s,h1,h2⟩:=DK (f:=mO t old now) (aK t.bf.l.length) (M0 t old now) .nil (by simp;omega) (fun i s hi hs=>by
  have hi:i<t.bf.l.length:=by simpa using hi
  have hlen:s.l.length<=1000:=by have:=gK (m:=8) (f:=M0 t old now) (fun h=>by have:=BJ (t:=t) (old:=old) (now:=now) h;omega) ((aK t.bf.l.length).take i);rw[hs];rw[cF,fN]at this;simp only[Sl.Pc,List.nil_append];omega
  obtain⟨s',h1,h2⟩:=hin i hi s hlen;refine⟨s',?_,by rw[h2,yn hi]⟩;simp only[mO,jo hi,cond_true,Hl hN hi hN.UM,af,h1]) (fun s=>by simp only[mO,fN,kG,cond_false])
 have h2:s.l=Dv t old now:=h2;have hlen:s.l.length<4611686018427387904:=by have:=gK (m:=8) (f:=M0 t old now) (fun h=>by have:=BJ (t:=t) (old:=old) (now:=now) h;omega) (aK t.bf.l.length);rw[fN]at this;have e:(Dv t old now).length<=8*t.bf.l.length:=this;rw[h2];omega
 have hsort:t6 jH s=some (s.to (jH s.l.toArray).toList):=by unfold t6;rw[show Nat.blt s.l.length 4611686018427387904=true by rw[Nat.blt_eq];exact hlen];rfl
 have hsz:(jH s.l.toArray).toList.length=s.l.length:=by have:=(nT s.l.toArray).1.1;simpa using this
 have hlenS:zX (s.to (jH s.l.toArray).toList) s=some ():=by cases s with|nil=>rfl|mk l=>have hsz:(jH l.toArray).toList.length=l.length:=hsz;show FM (jH l.toArray).toList l=some ();unfold FM;rw[if_pos hsz]
 refine⟨s.to (jH s.l.toArray).toList,?_,?_⟩
 .simp only[mz,yY hO,yY hN,af,Bool.not_true,cond_false,h1,hsort,hlenS]
 .rw [<-h2];cases s with|nil=>have hsz:(jH [].toArray).toList.length=0:=hsz;exact(List.length_eq_zero_iff.1 hsz).symm|mk l=>rfl
end
end Go.Proofs.YthcplpfiidlinaaDoor.J
