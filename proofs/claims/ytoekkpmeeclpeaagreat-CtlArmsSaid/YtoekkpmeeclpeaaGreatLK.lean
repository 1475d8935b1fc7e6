/- The moves from old routes to new ones: what the program's Moves answers. Conditions: as stated. -/
import Derived.Test.YtoekkpmeeclpeaaGreatSK
open Array renaming length_toList->eY
open List renaming Pairwise->lW,getElem_mem->aX,length_append->aA,length_range->dD,length_take->bV,mem_flatMap->cx,pairwise_flatMap->md,pairwise_lt_range->lz,range->aK,take_length->eB
open Option renaming bind_some->ad
open Go.Ev Go
noncomputable section
namespace Go.Proofs.YtoekkpmeeclpeaaGreat.S
theorem o7{α β:Type}{f:α->List β}{m:Nat}(hf:∀x,(f x).length<=m):∀l:List α,(l.flatMap f).length<=m*l.length:=by intro l;induction l with|nil=>simp|cons x l ih=>have:=hf x;simp only[List.flatMap_cons,aA,List.length_cons,Nat.mul_add];omega
section
variable{t:ao}{old now:Sl (Sl Int)}
def Et(t:ao)(old now:Sl (Sl Int))(h s:Nat):List aE:=if jw now h s≠jw old h s then[((s:Int),(h:Int),jw now h s,(iY t now h s:Int))]else[]
def Si(t:ao)(old now:Sl (Sl Int))(h:Nat):List aE:=(aK now.l.length).flatMap (Et t old now h)
def H_(t:ao)(old now:Sl (Sl Int)):List aE:=(aK t.bn.l.length).flatMap (Si t old now)
theorem Ia(h s:Nat):(Et t old now h s).length<=1:=by unfold Et;split<;>simp
theorem F5(h:Nat):(Si t old now h).length<=now.l.length:=by have:=o7 (m:=1) (Ia (t:=t) (old:=old) (now:=now) h) (aK now.l.length);unfold Si;simpa using this
theorem zG{m:aE}:m∈H_ t old now<->∃h s,h<t.bn.l.length/\s<now.l.length/\jw now h s≠jw old h s/\m=((s:Int),(h:Int),jw now h s,(iY t now h s:Int)):=by
 simp only[H_,Si,Et,cx,List.mem_range];constructor
 .rintro ⟨h,hh,s,hs,hm⟩;split at hm
  .rename_i hne;exact⟨h,s,hh,hs,hne,by simpa using hm⟩
  .simp at hm
 .rintro ⟨h,s,hh,hs,hne,rfl⟩;exact⟨h,hh,s,hs,by rw[if_pos hne];simp⟩
theorem Hr{n i:Nat}(hi:i<n):gt (aK n) i=i:=by rw[cU (by simpa using hi)];simp
theorem NE(hO:mr t old)(hN:mr t now):∃s,oY t old now=some (s,0)/\s.l=(jp (H_ t old now).toArray).toList:=by
 have hsm:=hN.1.Br;have hho:=hN.1.zT;have hle:old.l.length=now.l.length:=by have:=hO.1.len;have:=hN.1.len;omega
 have hin:∀(h:Nat),h<t.bn.l.length->∀s0:Sl aE,s0.l.length<=1000->∃s,aU (jd old now (h:Int) (.mk (wg t now h))) (0,s0)=some s/\s.l=s0.l++Si t old now h:=by
  intro h hh s0 h0;refine Fe (f:=jd old now (h:Int) (.mk (wg t now h))) (aK now.l.length) (Et t old now h) s0 (by simp;omega) (fun i s hi hs=>?_) (fun s=>by simp only[jd,dD,rS,cond_false]);have hi:i<now.l.length:=by simpa using hi
  have hio:i<old.l.length:=by omega
  have hhn:h<(gt now.l i).l.length:=by rw[hN.1.eO hi];exact hh
  have hhO:h<(gt old.l i).l.length:=by rw[hO.1.eO hio];exact hh
  have hid:i<(Sl.mk (wg t now h)).l.length:=by rw[Sl.qz,A5];exact hi
  have hlen:s.l.length<=2000:=by have:=o7 (m:=1) (Ia (t:=t) (old:=old) (now:=now) h) ((aK now.l.length).take i);rw[hs,aA];rw[bV,dD]at this;omega
  rw[Hr hi];by_cases hne:jw now h i=jw old h i
  .refine ⟨s,?_,by rw[Et,if_neg (not_not_intro hne),List.append_nil]⟩;have e:((gt (gt now.l i).l h) !=(gt (gt old.l i).l h))=false:=by have hne:gt (gt now.l i).l h=gt (gt old.l i).l h:=hne;rw[hne];simp
   simp only[jd,m9 hi,cond_true,bS hi,bS hio,bS hhn,bS hhO,ad,e,cond_false]
  .have e:((gt (gt now.l i).l h) !=(gt (gt old.l i).l h))=true:=by have hne:¬gt (gt now.l i).l h=gt (gt old.l i).l h:=hne;simpa using hne
   have hd:gt (Sl.mk (wg t now h)).l i=(iY t now h i:Int):=by rw[Sl.qz,Rk hi]
   refine⟨.mk (s.l++[((i:Int),(h:Int),gt (gt now.l i).l h,(iY t now h i:Int))]),?_,by rw[Et,if_pos hne];rfl⟩;simp only[jd,m9 hi,cond_true,bS hi,bS hio,bS hhn,bS hhO,bS hid,ad,e,hd];rw[nm (by rw[aA,List.length_singleton];omega)];rfl
 obtain⟨s,h1,h2⟩:=Fe (f:=kJ t old now) (aK t.bn.l.length) (Si t old now) .nil (by simp;omega) (fun i s hi hs=>by
  have hi:i<t.bn.l.length:=by simpa using hi
  have hlen:s.l.length<=1000:=by have:=o7 (m:=8) (f:=Si t old now) (fun h=>by have:=F5 (t:=t) (old:=old) (now:=now) h;omega) ((aK t.bn.l.length).take i);rw[hs];rw[bV,dD]at this;simp only[Sl.abl,List.nil_append];omega
  obtain⟨s',h1,h2⟩:=hin i hi s hlen;refine⟨s',?_,by rw[h2,Hr hi]⟩;simp only[kJ,m9 hi,cond_true,L3 hN hi hN.pos,ad,h1]) (fun s=>by simp only[kJ,dD,rS,cond_false])
 have h2:s.l=H_ t old now:=h2;have hlen:s.l.length<4611686018427387904:=by have:=o7 (m:=8) (f:=Si t old now) (fun h=>by have:=F5 (t:=t) (old:=old) (now:=now) h;omega) (aK t.bn.l.length);rw[dD]at this;have e:(H_ t old now).length<=8*t.bn.l.length:=this;rw[h2];omega
 have hsort:tM jp s=some (s.to (jp s.l.toArray).toList):=by unfold tM;rw[show Nat.blt s.l.length 4611686018427387904=true by rw[Nat.blt_eq];exact hlen];rfl
 have hsz:(jp s.l.toArray).toList.length=s.l.length:=by have:=(qV s.l.toArray).1.1;simpa using this
 have hlenS:my (s.to (jp s.l.toArray).toList) s=some ():=by cases s with|nil=>rfl|mk l=>have hsz:(jp l.toArray).toList.length=l.length:=hsz;show Ip (jp l.toArray).toList l=some ();unfold Ip;rw[if_pos hsz]
 refine⟨s.to (jp s.l.toArray).toList,?_,?_⟩
 .simp only[oY,Iy hO,Iy hN,ad,Bool.not_true,cond_false,h1,hsort,hlenS]
 .rw [<-h2];cases s with|nil=>have hsz:(jp [].toArray).toList.length=0:=hsz;exact(List.length_eq_zero_iff.1 hsz).symm|mk l=>rfl
end
end Go.Proofs.YtoekkpmeeclpeaaGreat.S
open Go.Ev Go
namespace Go.Proofs.YtoekkpmeeclpeaaGreat.S
section
variable{t:ao}{old now r:Sl (Sl Int)}{h:Nat}
theorem NA:(H_ t old now).Nodup:=by
 unfold H_;rw[List.nodup_iff_pairwise_ne,md]
 have hA:∀h s,∀x∈Et t old now h s,x.1=(s:Int)/\x.2.1=(h:Int):=fun h s x hx=>by
  unfold Et at hx;split at hx
  .obtain rfl:=List.mem_singleton.1 hx;exact⟨rfl,rfl⟩
  .simp at hx
 refine⟨fun h _=>?_,?_⟩
 .unfold Si;rw[md];refine⟨fun s _=>?_,?_⟩
  .unfold Et;split<;>simp
  .refine lW.imp ?_ (lz (n:=now.l.length));intro a b hab x hx y hy e;have h1:=(hA h a x hx).1;have h2:=(hA h b y hy).1;rw[e]at h1;omega
 .refine lW.imp ?_ (lz (n:=t.bn.l.length));intro a b hab x hx y hy e;obtain⟨s1,_,hx⟩:=cx.1 hx;obtain⟨s2,_,hy⟩:=cx.1 hy;have h1:=(hA a s1 x hx).2;have h2:=(hA b s2 y hy).2;rw[e]at h1;omega
theorem wK(d:List aE):(jp d.toArray).toList.Perm d:=by
 have e:=(qV d.toArray).1;have h1:=e.2.2;have h2:(jp d.toArray).size=d.length:=by simpa using e.1
 simp only[List.size_toArray,Array.toList_extract,List.extract_eq_take_drop,Nat.sub_zero,List.drop_zero,eB]at h1;rwa[<-h2,<-eY,eB]at h1
theorem CI(d:List aE){i j:Nat}(hij:i<j)(hj:j<(jp d.toArray).toList.length):¬Jq (gt (jp d.toArray).toList j) (gt (jp d.toArray).toList i):=by
 have e:=(qV d.toArray).2;have hsz:(jp d.toArray).size=d.toArray.size:=(qV d.toArray).1.1;rw[eY]at hj;have h1:=e i j (Nat.zero_le _) hij (by rw[<-hsz];exact hj);have g:∀k,k<(jp d.toArray).size->gt (jp d.toArray).toList k=(jp d.toArray)[k]!:=fun k hk=>by rw[cU (by simpa using hk),Array.getElem_toList,getElem!_pos _ k hk]
 rw[g j hj,g i (by omega)];intro hb;rw[Cs.2 hb]at h1;simp at h1
theorem F7:(jp (H_ t old now).toArray).toList.Pairwise Jq:=by
 rw[List.pairwise_iff_getElem];intro i j hi hj hij;have hn:=CI (H_ t old now) hij hj;have hp:=wK (H_ t old now);have hnd:(jp (H_ t old now).toArray).toList.Nodup:=hp.nodup_iff.2 NA;rw[cU hi,cU hj]at hn;generalize(jp (H_ t old now).toArray).toList=l at*;have hma:l[i]∈H_ t old now:=hp.mem_iff.1 (aX _);have hmb:l[j]∈H_ t old now:=hp.mem_iff.1 (aX _);have hne:l[i]≠l[j]:=fun e=>by have:=(List.getElem_inj hnd).1 e;omega
 obtain⟨h1,s1,_,_,_,e1⟩:=zG.1 hma;obtain⟨h2,s2,_,_,_,e2⟩:=zG.1 hmb;rw[e1,e2]at hn hne|-;unfold Jq at hn|-;simp only at hn|-;by_cases hr:iY t now h1 s1=iY t now h2 s2
 .by_cases hs:s1=s2
  .by_cases hh:h1=h2
   .exact absurd (by rw[hs,hh]) hne
   .omega
  .omega
 .omega
end
end Go.Proofs.YtoekkpmeeclpeaaGreat.S
open Go.Ev Go
namespace Go.Proofs.YtoekkpmeeclpeaaGreat.S
section
variable{t:ao}{old now:Sl (Sl Int)}
def vH(t:ao)(old now:Sl (Sl Int)):List aE:=(jp (H_ t old now).toArray).toList
theorem Kb{m:aE}:m∈vH t old now<->m∈H_ t old now:=(wK _).mem_iff
theorem Kc(hN:mr t now):(vH t old now).length<=64:=by have hsm:=hN.1.Br;have hho:=hN.1.zT;rw[vH,(wK _).length_eq];have:=o7 (m:=8) (f:=Si t old now) (fun h=>by have:=F5 (t:=t) (old:=old) (now:=now) h;omega) (aK t.bn.l.length);rw[dD]at this;have e:(H_ t old now).length<=8*t.bn.l.length:=this;omega
theorem Ib(hN:mr t now){m:aE}(hm:m∈vH t old now):0<=m.2.2.2/\m.2.2.2<t.au/\m.2.2.2<8:=by obtain⟨h,s,hh,hs,_,rfl⟩:=zG.1 (Kb.1 hm);have:=hN.lt hs hh;have:=hN.1.Br;have:=hN.1.len;simp only;omega
end
end Go.Proofs.YtoekkpmeeclpeaaGreat.S
