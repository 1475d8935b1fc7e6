/- The moves from old routes to new ones: what the program's Moves answers. Conditions: as stated. -/
import Derived.Test.YtoekkpmeeclpeaaGreatSK
open List renaming Pairwise->iF,getElem_mem->cW,length_append->au,length_range->bB,length_take->bw,mem_flatMap->bL,pairwise_flatMap->gN,pairwise_lt_range->fR,range->aG
open Option renaming bind_some->aa
open Go.Ev Go
noncomputable section
namespace Go.Proofs.YtoekkpmeeclpeaaGreat.S
theorem lH{α β:Type}{f:α->List β}{m:Nat}(hf:∀x,(f x).length<=m):∀l:List α,(l.flatMap f).length<=m*l.length:=by intro l;induction l with|nil=>simp|cons x l ih=>have:=hf x;simp only[List.flatMap_cons,au,List.length_cons,Nat.mul_add];omega
section
variable{t:am}{old now:Sl (Sl Int)}
def Lh(t:am)(old now:Sl (Sl Int))(h s:Nat):List aD:=if gA now h s≠gA old h s then[((s:Int),(h:Int),gA now h s,(jz t now h s:Int))]else[]
def mvH(t:am)(old now:Sl (Sl Int))(h:Nat):List aD:=(aG now.l.length).flatMap (Lh t old now h)
def Pv(t:am)(old now:Sl (Sl Int)):List aD:=(aG t.aU.l.length).flatMap (mvH t old now)
theorem Pw(h s:Nat):(Lh t old now h s).length<=1:=by unfold Lh;split<;>simp
theorem Nf(h:Nat):(mvH t old now h).length<=now.l.length:=by have:=lH (m:=1) (Pw (t:=t) (old:=old) (now:=now) h) (aG now.l.length);unfold mvH;simpa using this
theorem Cd{m:aD}:m∈Pv t old now<->∃h s,h<t.aU.l.length/\s<now.l.length/\gA now h s≠gA old h s/\m=((s:Int),(h:Int),gA now h s,(jz t now h s:Int)):=by
 simp only[Pv,mvH,Lh,bL,List.mem_range];constructor
 .rintro ⟨h,hh,s,hs,hm⟩;split at hm
  .rename_i hne;exact⟨h,s,hh,hs,hne,by simpa using hm⟩
  .simp at hm
 .rintro ⟨h,s,hh,hs,hne,rfl⟩;exact⟨h,hh,s,hs,by rw[if_pos hne];simp⟩
theorem uM{n i:Nat}(hi:i<n):gt (aG n) i=i:=by rw[dx (by simpa using hi)];simp
theorem VE(hO:jS t old)(hN:jS t now):∃s,t6 t old now=some (s,0)/\s.l=(me (Pv t old now).toArray).toList:=by
 have hsm:=hN.1.zW;have hho:=hN.1.sq;have hle:old.l.length=now.l.length:=by have:=hO.1.len;have:=hN.1.len;omega
 have hin:∀(h:Nat),h<t.aU.l.length->∀s0:Sl aD,s0.l.length<=1000->∃s,aJ (lT old now (h:Int) (.mk (Cz t now h))) (0,s0)=some s/\s.l=s0.l++mvH t old now h:=by
  intro h hh s0 h0;refine xR (f:=lT old now (h:Int) (.mk (Cz t now h))) (aG now.l.length) (Lh t old now h) s0 (by simp;omega) (fun i s hi hs=>?_) (fun s=>by simp only[lT,bB,ij,cond_false]);have hi:i<now.l.length:=by simpa using hi
  have hio:i<old.l.length:=by omega
  have hhn:h<(gt now.l i).l.length:=by rw[hN.1.dK hi];exact hh
  have hhO:h<(gt old.l i).l.length:=by rw[hO.1.dK hio];exact hh
  have hid:i<(Sl.mk (Cz t now h)).l.length:=by rw[Sl.lc,Hj];exact hi
  have hlen:s.l.length<=2000:=by have:=lH (m:=1) (Pw (t:=t) (old:=old) (now:=now) h) ((aG now.l.length).take i);rw[hs,au];rw[bw,bB]at this;omega
  rw[uM hi];by_cases hne:gA now h i=gA old h i
  .refine ⟨s,?_,by rw[Lh,if_neg (not_not_intro hne),List.append_nil]⟩;have e:((gt (gt now.l i).l h) !=(gt (gt old.l i).l h))=false:=by have hne:gt (gt now.l i).l h=gt (gt old.l i).l h:=hne;rw[hne];simp
   simp only[lT,fT hi,cond_true,aY hi,aY hio,aY hhn,aY hhO,aa,e,cond_false]
  .have e:((gt (gt now.l i).l h) !=(gt (gt old.l i).l h))=true:=by have hne:¬gt (gt now.l i).l h=gt (gt old.l i).l h:=hne;simpa using hne
   have hd:gt (Sl.mk (Cz t now h)).l i=(jz t now h i:Int):=by rw[Sl.lc,Z3 hi]
   refine⟨.mk (s.l++[((i:Int),(h:Int),gt (gt now.l i).l h,(jz t now h i:Int))]),?_,by rw[Lh,if_pos hne];rfl⟩;simp only[lT,fT hi,cond_true,aY hi,aY hio,aY hhn,aY hhO,aY hid,aa,e,hd];rw[kz (by rw[au,List.length_singleton];omega)];rfl
 obtain⟨s,h1,h2⟩:=xR (f:=nX t old now) (aG t.aU.l.length) (mvH t old now) .nil (by simp;omega) (fun i s hi hs=>by
  have hi:i<t.aU.l.length:=by simpa using hi
  have hlen:s.l.length<=1000:=by have:=lH (m:=8) (f:=mvH t old now) (fun h=>by have:=Nf (t:=t) (old:=old) (now:=now) h;omega) ((aG t.aU.l.length).take i);rw[hs];rw[bw,bB]at this;simp only[Sl.anf,List.nil_append];omega
  obtain⟨s',h1,h2⟩:=hin i hi s hlen;refine⟨s',?_,by rw[h2,uM hi]⟩;simp only[nX,fT hi,cond_true,TZ hN hi hN.pos,aa,h1]) (fun s=>by simp only[nX,bB,ij,cond_false])
 have h2:s.l=Pv t old now:=h2;have hlen:s.l.length<4611686018427387904:=by have:=lH (m:=8) (f:=mvH t old now) (fun h=>by have:=Nf (t:=t) (old:=old) (now:=now) h;omega) (aG t.aU.l.length);rw[bB]at this;have e:(Pv t old now).length<=8*t.aU.l.length:=this;rw[h2];omega
 have hsort:ar4 s=some (s.to (me s.l.toArray).toList):=by show zV me s=_;unfold zV;rw[show Nat.blt s.l.length 4611686018427387904=true by rw[Nat.blt_eq];exact hlen];rfl
 have hsz:(me s.l.toArray).toList.length=s.l.length:=by have:=(wY s.l.toArray).1.1;simpa using this
 have hlenS:py (s.to (me s.l.toArray).toList) s=some ():=by cases s with|nil=>rfl|mk l=>have hsz:(me l.toArray).toList.length=l.length:=hsz;show PH (me l.toArray).toList l=some ();unfold PH;rw[if_pos hsz]
 refine⟨s.to (me s.l.toArray).toList,?_,?_⟩
 .simp only[t6,PV hO,PV hN,aa,Bool.not_true,cond_false,h1,hsort,hlenS]
 .rw [<-h2];cases s with|nil=>have hsz:(me [].toArray).toList.length=0:=hsz;exact(List.length_eq_zero_iff.1 hsz).symm|mk l=>rfl
end
end Go.Proofs.YtoekkpmeeclpeaaGreat.S
open Go.Ev Go
namespace Go.Proofs.YtoekkpmeeclpeaaGreat.S
section
variable{t:am}{old now r:Sl (Sl Int)}{h:Nat}
theorem VB:(Pv t old now).Nodup:=by
 unfold Pv;rw[List.nodup_iff_pairwise_ne,gN]
 have hA:∀h s,∀x∈Lh t old now h s,x.1=(s:Int)/\x.2.1=(h:Int):=fun h s x hx=>by
  unfold Lh at hx;split at hx
  .obtain rfl:=List.mem_singleton.1 hx;exact⟨rfl,rfl⟩
  .simp at hx
 refine⟨fun h _=>?_,?_⟩
 .unfold mvH;rw[gN];refine⟨fun s _=>?_,?_⟩
  .unfold Lh;split<;>simp
  .refine iF.imp ?_ (fR (n:=now.l.length));intro a b hab x hx y hy e;have h1:=(hA h a x hx).1;have h2:=(hA h b y hy).1;rw[e]at h1;omega
 .refine iF.imp ?_ (fR (n:=t.aU.l.length));intro a b hab x hx y hy e;obtain⟨s1,_,hx⟩:=bL.1 hx;obtain⟨s2,_,hy⟩:=bL.1 hy;have h1:=(hA a s1 x hx).2;have h2:=(hA b s2 y hy).2;rw[e]at h1;omega
theorem Ni:(me (Pv t old now).toArray).toList.Pairwise Mw:=by
 rw[List.pairwise_iff_getElem];intro i j hi hj hij;have hn:=Jm (Pv t old now) hij hj;have hp:=CU (Pv t old now);have hnd:(me (Pv t old now).toArray).toList.Nodup:=hp.nodup_iff.2 VB;rw[dx hi,dx hj]at hn;generalize(me (Pv t old now).toArray).toList=l at*;have hma:l[i]∈Pv t old now:=hp.mem_iff.1 (cW _);have hmb:l[j]∈Pv t old now:=hp.mem_iff.1 (cW _);have hne:l[i]≠l[j]:=fun e=>by have:=(List.getElem_inj hnd).1 e;omega
 obtain⟨h1,s1,_,_,_,e1⟩:=Cd.1 hma;obtain⟨h2,s2,_,_,_,e2⟩:=Cd.1 hmb;rw[e1,e2]at hn hne|-;unfold Mw at hn|-;simp only at hn|-;by_cases hr:jz t now h1 s1=jz t now h2 s2
 .by_cases hs:s1=s2
  .by_cases hh:h1=h2
   .exact absurd (by rw[hs,hh]) hne
   .omega
  .omega
 .omega
end
end Go.Proofs.YtoekkpmeeclpeaaGreat.S
open Go.Ev Go
namespace Go.Proofs.YtoekkpmeeclpeaaGreat.S
section
variable{t:am}{old now:Sl (Sl Int)}
def tF(t:am)(old now:Sl (Sl Int)):List aD:=(me (Pv t old now).toArray).toList
theorem JU{m:aD}:m∈tF t old now<->m∈Pv t old now:=(CU _).mem_iff
theorem Nh(hN:jS t now):(tF t old now).length<=64:=by have hsm:=hN.1.zW;have hho:=hN.1.sq;rw[tF,(CU _).length_eq];have:=lH (m:=8) (f:=mvH t old now) (fun h=>by have:=Nf (t:=t) (old:=old) (now:=now) h;omega) (aG t.aU.l.length);rw[bB]at this;have e:(Pv t old now).length<=8*t.aU.l.length:=this;omega
theorem JT(hN:jS t now){m:aD}(hm:m∈tF t old now):0<=m.2.2.2/\m.2.2.2<t.ao/\m.2.2.2<8:=by obtain⟨h,s,hh,hs,_,rfl⟩:=Cd.1 (JU.1 hm);have:=hN.lt hs hh;have:=hN.1.zW;have:=hN.1.len;simp only;omega
end
end Go.Proofs.YtoekkpmeeclpeaaGreat.S
