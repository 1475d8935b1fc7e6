/- The moves from old routes to new ones: what the program's Moves answers. Conditions: as stated. -/
import Derived.Test.YtpnnnoagjcpmhaaDoorUW
open List renaming length_append->aG,length_range->eE,length_take->cM,range->bh
open Option renaming bind_some->ae
open Go.Ev Go
noncomputable section
namespace Go.Proofs.YtpnnnoagjcpmhaaDoor.U
theorem jR{α β:Type}{f:α->List β}{m:Nat}(hf:∀x,(f x).length<=m):∀l:List α,(l.flatMap f).length<=m*l.length:=by intro l;induction l with|nil=>simp|cons x l ih=>have:=hf x;simp only[List.flatMap_cons,aG,List.length_cons,Nat.mul_add];omega
section
variable{t:ah}{old now:Sl (Sl Int)}
def xX(t:ah)(old now:Sl (Sl Int))(h s:Nat):List ap:=if cK now h s≠cK old h s then[((s:Int),(h:Int),cK now h s,(ei t now h s:Int))]else[]
def KQ(t:ah)(old now:Sl (Sl Int))(h:Nat):List ap:=(bh now.l.length).flatMap (xX t old now h)
def KP(t:ah)(old now:Sl (Sl Int)):List ap:=(bh t.aR.l.length).flatMap (KQ t old now)
theorem BB(h s:Nat):(xX t old now h s).length<=1:=by unfold xX;split<;>simp
theorem zM(h:Nat):(KQ t old now h).length<=now.l.length:=by have:=jR (m:=1) (BB (t:=t) (old:=old) (now:=now) h) (bh now.l.length);unfold KQ;simpa using this
theorem zL{m:ap}:m∈KP t old now<->∃h s,h<t.aR.l.length/\s<now.l.length/\cK now h s≠cK old h s/\m=((s:Int),(h:Int),cK now h s,(ei t now h s:Int)):=by
 simp only[KP,KQ,xX,List.mem_flatMap,List.mem_range];constructor
 .rintro ⟨h,hh,s,hs,hm⟩;split at hm
  .rename_i hne;exact⟨h,s,hh,hs,hne,by simpa using hm⟩
  .simp at hm
 .rintro ⟨h,s,hh,hs,hne,rfl⟩;exact⟨h,hh,s,hs,by rw[if_pos hne];simp⟩
theorem Ba{n i:Nat}(hi:i<n):gt (bh n) i=i:=by rw[eu (by simpa using hi)];simp
theorem Gy(hO:gk t old)(hN:gk t now):∃s,jK t old now=some (s,0)/\s.l=(kq (KP t old now).toArray).toList:=by
 have hsm:=hN.1.o5;have hho:=hN.1.rM;have hle:old.l.length=now.l.length:=by have:=hO.1.len;have:=hN.1.len;omega
 have hin:∀(h:Nat),h<t.aR.l.length->∀s0:Sl ap,s0.l.length<=1000->∃s,bL (gU old now (h:Int) (.mk (qj t now h))) (0,s0)=some s/\s.l=s0.l++KQ t old now h:=by
  intro h hh s0 h0;refine E8 (f:=gU old now (h:Int) (.mk (qj t now h))) (bh now.l.length) (xX t old now h) s0 (by simp;omega) (fun i s hi hs=>?_) (fun s=>by simp only[gU,eE,lI,cond_false]);have hi:i<now.l.length:=by simpa using hi
  have hio:i<old.l.length:=by omega
  have hhn:h<(gt now.l i).l.length:=by rw[hN.1.cC hi];exact hh
  have hhO:h<(gt old.l i).l.length:=by rw[hO.1.cC hio];exact hh
  have hid:i<(Sl.mk (qj t now h)).l.length:=by rw[Sl.m8,ur];exact hi
  have hlen:s.l.length<=2000:=by have:=jR (m:=1) (BB (t:=t) (old:=old) (now:=now) h) ((bh now.l.length).take i);rw[hs,aG];rw[cM,eE]at this;omega
  rw[Ba hi];by_cases hne:cK now h i=cK old h i
  .refine ⟨s,?_,by rw[xX,if_neg (not_not_intro hne),List.append_nil]⟩;have e:((gt (gt now.l i).l h) !=(gt (gt old.l i).l h))=false:=by have hne:gt (gt now.l i).l h=gt (gt old.l i).l h:=hne;rw[hne];simp
   simp only[gU,j4 hi,cond_true,bP hi,bP hio,bP hhn,bP hhO,ae,e,cond_false]
  .have e:((gt (gt now.l i).l h) !=(gt (gt old.l i).l h))=true:=by have hne:¬gt (gt now.l i).l h=gt (gt old.l i).l h:=hne;simpa using hne
   have hd:gt (Sl.mk (qj t now h)).l i=(ei t now h i:Int):=by rw[Sl.m8,J0 hi]
   refine⟨.mk (s.l++[((i:Int),(h:Int),gt (gt now.l i).l h,(ei t now h i:Int))]),?_,by rw[xX,if_pos hne];rfl⟩;simp only[gU,j4 hi,cond_true,bP hi,bP hio,bP hhn,bP hhO,bP hid,ae,e,hd];rw[jt (by rw[aG,List.length_singleton];omega)];rfl
 obtain⟨s,h1,h2⟩:=E8 (f:=iM t old now) (bh t.aR.l.length) (KQ t old now) .nil (by simp;omega) (fun i s hi hs=>by
  have hi:i<t.aR.l.length:=by simpa using hi
  have hlen:s.l.length<=1000:=by have:=jR (m:=8) (f:=KQ t old now) (fun h=>by have:=zM (t:=t) (old:=old) (now:=now) h;omega) ((bh t.aR.l.length).take i);rw[hs];rw[cM,eE]at this;simp only[Sl.PH,List.nil_append];omega
  obtain⟨s',h1,h2⟩:=hin i hi s hlen;refine⟨s',?_,by rw[h2,Ba hi]⟩;simp only[iM,j4 hi,cond_true,Fj hN hi hN.RX,ae,h1]) (fun s=>by simp only[iM,eE,lI,cond_false])
 have h2:s.l=KP t old now:=h2;have hlen:s.l.length<4611686018427387904:=by have:=jR (m:=8) (f:=KQ t old now) (fun h=>by have:=zM (t:=t) (old:=old) (now:=now) h;omega) (bh t.aR.l.length);rw[eE]at this;have e:(KP t old now).length<=8*t.aR.l.length:=this;rw[h2];omega
 have hsort:ny kq s=some (s.to (kq s.l.toArray).toList):=by unfold ny;rw[show Nat.blt s.l.length 4611686018427387904=true by rw[Nat.blt_eq];exact hlen];rfl
 have hsz:(kq s.l.toArray).toList.length=s.l.length:=by have:=(oe s.l.toArray).1.1;simpa using this
 have hlenS:su (s.to (kq s.l.toArray).toList) s=some ():=by cases s with|nil=>rfl|mk l=>have hsz:(kq l.toArray).toList.length=l.length:=hsz;show DM (kq l.toArray).toList l=some ();unfold DM;rw[if_pos hsz]
 refine⟨s.to (kq s.l.toArray).toList,?_,?_⟩
 .simp only[jK,BV hO,BV hN,ae,Bool.not_true,cond_false,h1,hsort,hlenS]
 .rw [<-h2];cases s with|nil=>have hsz:(kq [].toArray).toList.length=0:=hsz;exact(List.length_eq_zero_iff.1 hsz).symm|mk l=>rfl
end
end Go.Proofs.YtpnnnoagjcpmhaaDoor.U
