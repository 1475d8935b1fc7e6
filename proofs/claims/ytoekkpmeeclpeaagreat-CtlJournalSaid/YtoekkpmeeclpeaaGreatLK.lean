/- The moves from old routes to new ones: what the program's Moves answers. Conditions: as stated. -/
import Derived.Test.YtoekkpmeeclpeaaGreatSK
open Array renaming length_toList->fe
open List renaming Pairwise->mF,getElem_mem->aZ,length_append->aA,length_range->dH,length_take->bU,mem_flatMap->cA,pairwise_flatMap->mO,pairwise_lt_range->lS,range->aK,take_length->eF
open Option renaming bind_some->af
open Go.Ev Go
noncomputable section
namespace Go.Proofs.YtoekkpmeeclpeaaGreat.S
theorem pQ{α β:Type}{f:α->List β}{m:Nat}(hf:∀x,(f x).length<=m):∀l:List α,(l.flatMap f).length<=m*l.length:=by intro l;induction l with|nil=>simp|cons x l ih=>have:=hf x;simp only[List.flatMap_cons,aA,List.length_cons,Nat.mul_add];omega
section
variable{t:ao}{old now:Sl (Sl Int)}
def E7(t:ao)(old now:Sl (Sl Int))(h s:Nat):List aE:=if jG now h s≠jG old h s then[((s:Int),(h:Int),jG now h s,(jf t now h s:Int))]else[]
def S8(t:ao)(old now:Sl (Sl Int))(h:Nat):List aE:=(aK now.l.length).flatMap (E7 t old now h)
def IP(t:ao)(old now:Sl (Sl Int)):List aE:=(aK t.bn.l.length).flatMap (S8 t old now)
theorem IQ(h s:Nat):(E7 t old now h s).length<=1:=by unfold E7;split<;>simp
theorem GH(h:Nat):(S8 t old now h).length<=now.l.length:=by have:=pQ (m:=1) (IQ (t:=t) (old:=old) (now:=now) h) (aK now.l.length);unfold S8;simpa using this
theorem Ax{m:aE}:m∈IP t old now<->∃h s,h<t.bn.l.length/\s<now.l.length/\jG now h s≠jG old h s/\m=((s:Int),(h:Int),jG now h s,(jf t now h s:Int)):=by
 simp only[IP,S8,E7,cA,List.mem_range];constructor
 .rintro ⟨h,hh,s,hs,hm⟩;split at hm
  .rename_i hne;exact⟨h,s,hh,hs,hne,by simpa using hm⟩
  .simp at hm
 .rintro ⟨h,s,hh,hs,hne,rfl⟩;exact⟨h,hh,s,hs,by rw[if_pos hne];simp⟩
theorem Ik{n i:Nat}(hi:i<n):gt (aK n) i=i:=by rw[dc (by simpa using hi)];simp
theorem Oi(hO:mY t old)(hN:mY t now):∃s,pO t old now=some (s,0)/\s.l=(jE (IP t old now).toArray).toList:=by
 have hsm:=hN.1.z7;have hho:=hN.1.AM;have hle:old.l.length=now.l.length:=by have:=hO.1.len;have:=hN.1.len;omega
 have hin:∀(h:Nat),h<t.bn.l.length->∀s0:Sl aE,s0.l.length<=1000->∃s,aU (jp old now (h:Int) (.mk (wW t now h))) (0,s0)=some s/\s.l=s0.l++S8 t old now h:=by
  intro h hh s0 h0;refine FR (f:=jp old now (h:Int) (.mk (wW t now h))) (aK now.l.length) (E7 t old now h) s0 (by simp;omega) (fun i s hi hs=>?_) (fun s=>by simp only[jp,dH,sS,cond_false]);have hi:i<now.l.length:=by simpa using hi
  have hio:i<old.l.length:=by omega
  have hhn:h<(gt now.l i).l.length:=by rw[hN.1.eP hi];exact hh
  have hhO:h<(gt old.l i).l.length:=by rw[hO.1.eP hio];exact hh
  have hid:i<(Sl.mk (wW t now h)).l.length:=by rw[Sl.sB,BK];exact hi
  have hlen:s.l.length<=2000:=by have:=pQ (m:=1) (IQ (t:=t) (old:=old) (now:=now) h) ((aK now.l.length).take i);rw[hs,aA];rw[bU,dH]at this;omega
  rw[Ik hi];by_cases hne:jG now h i=jG old h i
  .refine ⟨s,?_,by rw[E7,if_neg (not_not_intro hne),List.append_nil]⟩;have e:((gt (gt now.l i).l h) !=(gt (gt old.l i).l h))=false:=by have hne:gt (gt now.l i).l h=gt (gt old.l i).l h:=hne;rw[hne];simp
   simp only[jp,nM hi,cond_true,bV hi,bV hio,bV hhn,bV hhO,af,e,cond_false]
  .have e:((gt (gt now.l i).l h) !=(gt (gt old.l i).l h))=true:=by have hne:¬gt (gt now.l i).l h=gt (gt old.l i).l h:=hne;simpa using hne
   have hd:gt (Sl.mk (wW t now h)).l i=(jf t now h i:Int):=by rw[Sl.sB,R7 hi]
   refine⟨.mk (s.l++[((i:Int),(h:Int),gt (gt now.l i).l h,(jf t now h i:Int))]),?_,by rw[E7,if_pos hne];rfl⟩;simp only[jp,nM hi,cond_true,bV hi,bV hio,bV hhn,bV hhO,bV hid,af,e,hd];rw[nX (by rw[aA,List.length_singleton];omega)];rfl
 obtain⟨s,h1,h2⟩:=FR (f:=kX t old now) (aK t.bn.l.length) (S8 t old now) .nil (by simp;omega) (fun i s hi hs=>by
  have hi:i<t.bn.l.length:=by simpa using hi
  have hlen:s.l.length<=1000:=by have:=pQ (m:=8) (f:=S8 t old now) (fun h=>by have:=GH (t:=t) (old:=old) (now:=now) h;omega) ((aK t.bn.l.length).take i);rw[hs];rw[bU,dH]at this;simp only[Sl.abU,List.nil_append];omega
  obtain⟨s',h1,h2⟩:=hin i hi s hlen;refine⟨s',?_,by rw[h2,Ik hi]⟩;simp only[kX,nM hi,cond_true,MH hN hi hN.pos,af,h1]) (fun s=>by simp only[kX,dH,sS,cond_false])
 have h2:s.l=IP t old now:=h2;have hlen:s.l.length<4611686018427387904:=by have:=pQ (m:=8) (f:=S8 t old now) (fun h=>by have:=GH (t:=t) (old:=old) (now:=now) h;omega) (aK t.bn.l.length);rw[dH]at this;have e:(IP t old now).length<=8*t.bn.l.length:=this;rw[h2];omega
 have hsort:uA jE s=some (s.to (jE s.l.toArray).toList):=by unfold uA;rw[show Nat.blt s.l.length 4611686018427387904=true by rw[Nat.blt_eq];exact hlen];rfl
 have hsz:(jE s.l.toArray).toList.length=s.l.length:=by have:=(rT s.l.toArray).1.1;simpa using this
 have hlenS:m8 (s.to (jE s.l.toArray).toList) s=some ():=by cases s with|nil=>rfl|mk l=>have hsz:(jE l.toArray).toList.length=l.length:=hsz;show I2 (jE l.toArray).toList l=some ();unfold I2;rw[if_pos hsz]
 refine⟨s.to (jE s.l.toArray).toList,?_,?_⟩
 .simp only[pO,Jb hO,Jb hN,af,Bool.not_true,cond_false,h1,hsort,hlenS]
 .rw [<-h2];cases s with|nil=>have hsz:(jE [].toArray).toList.length=0:=hsz;exact(List.length_eq_zero_iff.1 hsz).symm|mk l=>rfl
end
end Go.Proofs.YtoekkpmeeclpeaaGreat.S
open Go.Ev Go
namespace Go.Proofs.YtoekkpmeeclpeaaGreat.S
section
variable{t:ao}{old now r:Sl (Sl Int)}{h:Nat}
theorem Od:(IP t old now).Nodup:=by
 unfold IP;rw[List.nodup_iff_pairwise_ne,mO]
 have hA:∀h s,∀x∈E7 t old now h s,x.1=(s:Int)/\x.2.1=(h:Int):=fun h s x hx=>by
  unfold E7 at hx;split at hx
  .obtain rfl:=List.mem_singleton.1 hx;exact⟨rfl,rfl⟩
  .simp at hx
 refine⟨fun h _=>?_,?_⟩
 .unfold S8;rw[mO];refine⟨fun s _=>?_,?_⟩
  .unfold E7;split<;>simp
  .refine mF.imp ?_ (lS (n:=now.l.length));intro a b hab x hx y hy e;have h1:=(hA h a x hx).1;have h2:=(hA h b y hy).1;rw[e]at h1;omega
 .refine mF.imp ?_ (lS (n:=t.bn.l.length));intro a b hab x hx y hy e;obtain⟨s1,_,hx⟩:=cA.1 hx;obtain⟨s2,_,hy⟩:=cA.1 hy;have h1:=(hA a s1 x hx).2;have h2:=(hA b s2 y hy).2;rw[e]at h1;omega
theorem xk(d:List aE):(jE d.toArray).toList.Perm d:=by
 have e:=(rT d.toArray).1;have h1:=e.2.2;have h2:(jE d.toArray).size=d.length:=by simpa using e.1
 simp only[List.size_toArray,Array.toList_extract,List.extract_eq_take_drop,Nat.sub_zero,List.drop_zero,eF]at h1;rwa[<-h2,<-fe,eF]at h1
theorem Dh(d:List aE){i j:Nat}(hij:i<j)(hj:j<(jE d.toArray).toList.length):¬J6 (gt (jE d.toArray).toList j) (gt (jE d.toArray).toList i):=by
 have e:=(rT d.toArray).2;have hsz:(jE d.toArray).size=d.toArray.size:=(rT d.toArray).1.1;rw[fe]at hj;have h1:=e i j (Nat.zero_le _) hij (by rw[<-hsz];exact hj);have g:∀k,k<(jE d.toArray).size->gt (jE d.toArray).toList k=(jE d.toArray)[k]!:=fun k hk=>by rw[dc (by simpa using hk),Array.getElem_toList,getElem!_pos _ k hk]
 rw[g j hj,g i (by omega)];intro hb;rw[C1.2 hb]at h1;simp at h1
theorem GJ:(jE (IP t old now).toArray).toList.Pairwise J6:=by
 rw[List.pairwise_iff_getElem];intro i j hi hj hij;have hn:=Dh (IP t old now) hij hj;have hp:=xk (IP t old now);have hnd:(jE (IP t old now).toArray).toList.Nodup:=hp.nodup_iff.2 Od;rw[dc hi,dc hj]at hn;generalize(jE (IP t old now).toArray).toList=l at*;have hma:l[i]∈IP t old now:=hp.mem_iff.1 (aZ _);have hmb:l[j]∈IP t old now:=hp.mem_iff.1 (aZ _);have hne:l[i]≠l[j]:=fun e=>by have:=(List.getElem_inj hnd).1 e;omega
 obtain⟨h1,s1,_,_,_,e1⟩:=Ax.1 hma;obtain⟨h2,s2,_,_,_,e2⟩:=Ax.1 hmb;rw[e1,e2]at hn hne|-;unfold J6 at hn|-;simp only at hn|-;by_cases hr:jf t now h1 s1=jf t now h2 s2
 .by_cases hs:s1=s2
  .by_cases hh:h1=h2
   .exact absurd (by rw[hs,hh]) hne
   .omega
  .omega
 .omega
end
end Go.Proofs.YtoekkpmeeclpeaaGreat.S
open Go.Ev Go
namespace Go.Proofs.YtoekkpmeeclpeaaGreat.S
section
variable{t:ao}{old now:Sl (Sl Int)}
def wy(t:ao)(old now:Sl (Sl Int)):List aE:=(jE (IP t old now).toArray).toList
theorem KP{m:aE}:m∈wy t old now<->m∈IP t old now:=(xk _).mem_iff
theorem KQ(hN:mY t now):(wy t old now).length<=64:=by have hsm:=hN.1.z7;have hho:=hN.1.AM;rw[wy,(xk _).length_eq];have:=pQ (m:=8) (f:=S8 t old now) (fun h=>by have:=GH (t:=t) (old:=old) (now:=now) h;omega) (aK t.bn.l.length);rw[dH]at this;have e:(IP t old now).length<=8*t.bn.l.length:=this;omega
theorem IR(hN:mY t now){m:aE}(hm:m∈wy t old now):0<=m.2.2.2/\m.2.2.2<t.au/\m.2.2.2<8:=by obtain⟨h,s,hh,hs,_,rfl⟩:=Ax.1 (KP.1 hm);have:=hN.lt hs hh;have:=hN.1.z7;have:=hN.1.len;simp only;omega
end
end Go.Proofs.YtoekkpmeeclpeaaGreat.S
