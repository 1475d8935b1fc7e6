/- Plans that are made: nothing is missing, nothing extra, no hole and no ring. Conditions: as stated. -/
import Derived.Test.YthcplpfiidlinaaDoorJG
import Derived.Test.YthcplpfiidlinaaDoorJLX
open Go.Ev Go
open Int renaming toNat_natCast->ei
open List renaming flatMap_eq_nil_iff->dD,getElem_map->gg,getElem_mem->ce,getElem_of_mem->cu,length_take->b_,mem_flatMap->bU,mem_range'_1->eg,mem_singleton->aq
open Option.some renaming inj->aa
namespace Go.Proofs.YthcplpfiidlinaaDoor.J
structure Au(ms:List ae)(R:List aj):Prop where
 Nh:(R.map fun x=>x.1).Pairwise (·<·)
 AX:∀x,x∈(R.map fun x=>x.1)<->∃m∈ms,m.2.2.2=x
 Rv:∀i,i<R.length->Bv ms (gt R i).1 (gt R i).2.2.l
theorem Nj.w{ms:List ae}{first gap:Int}{R:List aj}(h:Nj ms first gap R):Au ms R:=⟨h.Nh,h.AX,h.Rv⟩
theorem FR{α:Type}[Inhabited α]{l:List α}{x:α}(h:x∈l):∃i,i<l.length/\gt l i=x:=by obtain⟨i,hi,e⟩:=cu h;exact⟨i,hi,by rw[cR hi];exact e⟩
theorem Cn{α:Type}[Inhabited α]{l:List α}{i:Nat}(h:i<l.length):gt l i∈l:=by rw[cR h];exact ce _
theorem DI{α:Type}[Inhabited α]{l:List α}{k:Nat}{x:α}(h:x∈l.take k):∃i,i<k/\i<l.length/\gt l i=x:=by obtain⟨i,hi,e⟩:=cu h;rw[b_]at hi;rw[List.getElem_take]at e;exact⟨i,by omega,by omega,by rw[cR (by omega)];exact e⟩
theorem CL{α:Type}[Inhabited α]{l:List α}{i k:Nat}(h:i<k)(hl:i<l.length):gt l i∈l.take k:=by
 have hi:i<(l.take k).length:=by rw[b_];omega
 have e:gt l i=(l.take k)[i]'hi:=by rw[cR hl,List.getElem_take]
 rw[e];exact ce _
theorem Au.lt{ms:List ae}{R:List aj}(h:Au ms R){i j:Nat}(hij:i<j)(hj:j<R.length):(gt R i).1<(gt R j).1:=by have:=List.pairwise_iff_getElem.1 h.Nh i j (by simpa using by omega) (by simpa using hj) hij;rw[gg,gg]at this;rw[cR (by omega),cR hj];exact this
theorem Au.Qp{ms:List ae}{R:List aj}(h:Au ms R){i j:Nat}(hi:i<R.length)(hj:j<R.length)(hn:(gt R i).1<(gt R j).1):i<j:=by
 rcases Nat.lt_trichotomy i j with h1|rfl|h1
 .exact h1
 .omega
 .have:=h.lt h1 hi;omega
theorem Au.SS{ms:List ae}{R:List aj}(h:Au ms R){i:Nat}(hi:i<R.length){m:ae}(hm:m∈ms):oJ (gt R i) m=true<->m.2.2.2=(gt R i).1:=by
 unfold oJ;by_cases e:m.2.2.2=(gt R i).1
 .rw [e,beq_self_eq_true,cond_true];exact⟨fun _=>rfl,fun _=>decide_eq_true (((h.Rv i hi).AX _).2 ⟨m,hm,e,rfl⟩)⟩
 .rw [beq_false_of_ne e,cond_false];exact⟨fun q=>absurd q Bool.false_ne_true,fun q=>absurd q e⟩
theorem Au.lY{ms:List ae}{R:List aj}(h:Au ms R){m:ae}(hm:m∈ms):∃i,i<R.length/\(gt R i).1=m.2.2.2:=by obtain⟨r,hr,e⟩:=List.mem_map.1 ((h.AX _).2 ⟨m,hm,rfl⟩);obtain⟨i,hi,e2⟩:=FR hr;exact⟨i,hi,by rw[e2];exact e⟩
theorem Au.any{ms:List ae}{R:List aj}(h:Au ms R){m:ae}(hm:m∈ms):(R.any fun r=>oJ r m)=true:=by obtain⟨i,hi,e⟩:=h.lY hm;exact List.any_eq_true.2 ⟨gt R i,Cn hi,(h.SS hi hm).2 e.symm⟩
theorem Jy{l:List ae}{P:ae->Bool}{m:ae}(hnd:l.Nodup)(hm:m∈l)(hP:∀x∈l,P x=true<->x=m):(l.filter P).length=1:=by
 have e:l.filter P=l.filter (·==m):=List.filter_congr fun x hx=>by rw[Bool.eq_iff_iff,hP x hx,beq_iff_eq]
 rw[e,<-List.countP_eq_length_filter];have:=List.Nodup.count (a:=m) hnd;rw[if_pos hm]at this;exact this
theorem MF{l:List ae}{P:ae->Bool}(hP:∀x∈l,P x=false):(l.filter P).length=0:=by rw[List.filter_eq_nil_iff.2 fun x hx=>by rw[hP x hx];exact Bool.false_ne_true];rfl
section
variable{t:ah}{old now:Sl (Sl Int)}{R:List aj}{s h:Nat}
theorem uE{m:ae}:m∈cm t old now<->∃h s,h<t.bd.l.length/\s<now.l.length/\c_ now h s≠c_ old h s/\m=((s:Int),(h:Int),c_ now h s,(eL t now h s:Int)):=K9.trans xH
theorem yH:(cm t old now).Nodup:=((uX _).nodup_iff).2 AS
theorem K8{m:ae}(hm:m∈cm t old now)(h1:m.1=(s:Int))(h2:m.2.1=(h:Int)):m=((s:Int),(h:Int),c_ now h s,(eL t now h s:Int))/\c_ now h s≠c_ old h s/\s<now.l.length/\h<t.bd.l.length:=by
 obtain⟨h',s',a,b,c,rfl⟩:=uE.1 hm;have e1:s'=s:=by have h1:(s':Int)=(s:Int):=h1;omega
 have e2:h'=h:=by have h2:(h':Int)=(h:Int):=h2;omega
 subst e1 e2;exact⟨rfl,c,b,a⟩
theorem DY(hR:Au (cm t old now) R){m:ae}(hm:m∈cm t old now):F9 R (s:Int) (h:Int) (c_ now h s) m=true<->m=((s:Int),(h:Int),c_ now h s,(eL t now h s:Int)):=by
 unfold F9;constructor
 .intro q;cases c:((m.1==(s:Int))&&(m.2.1==(h:Int)))&&(m.2.2.1==c_ now h s)with|false=>rw[c]at q;cases q|true=>simp only[Bool.and_eq_true,beq_iff_eq]at c;exact(K8 hm c.1.1 c.1.2).1
 .intro e;rw[hR.any hm,e];simp
theorem Hl(hR:Au (cm t old now) R)(hs:s<now.l.length)(hh:h<t.bd.l.length){l:List ae}(hsub:∀x∈l,x∈cm t old now)(hnd:l.Nodup)(hl:c_ now h s≠c_ old h s->((s:Int),(h:Int),c_ now h s,(eL t now h s:Int))∈l):rS old now l R s h=false:=by
 unfold rS;by_cases hne:c_ now h s=c_ old h s
 .have e:(gt (gt now.l s).l h !=gt (gt old.l s).l h)=false:=by rw[show gt (gt now.l s).l h=c_ now h s from rfl,show gt (gt old.l s).l h=c_ old h s from rfl,hne];exact bne_self_eq_false _
  rw[e,Bool.false_and]
 .have e:pH R (s:Int) (h:Int) (gt (gt now.l s).l h) l=1:=Jy hnd (hl hne) fun x hx=>DY hR (hsub x hx);rw[e];have:(((1:Nat):Int) !=1)=false:=rfl;rw[this,Bool.and_false]
theorem AV(hR:Au (cm t old now) R)(r2:∀s,s<now.l.length->(gt now.l s).l.length=t.bd.l.length):w8 old now (cm t old now) R 0 now.l.length=[]:=by
 refine dD.2 fun s hs=>dD.2 fun h hh=>?_;rw[eg]at hs hh;have hsl:s<now.l.length:=by omega
 have hhl:h<t.bd.l.length:=by rw[<-r2 s hsl];omega
 rw[Hl hR hsl hhl (fun _ h=>h) yH fun hne=>uE.2 ⟨h,s,hhl,hsl,hne,rfl⟩];rfl
theorem zh(hR:Au (cm t old now) R)(l2:(now.l.length:Int)=t.br):wB t old now (cm t old now) R 0 (cm t old now).length=[]:=by
 refine dD.2 fun k hk=>?_;rw[eg]at hk;have hm:gt (cm t old now) k∈cm t old now:=Cn (by omega);obtain⟨h,s,a,b,c,e⟩:=uE.1 hm
 have hx:oN t old now R (gt (cm t old now) k)=false:=by
  unfold oN;rw[hR.any hm];rw[e];have hB:ud t ((s:Int),(h:Int),c_ now h s,(eL t now h s:Int))=true:=vp.2 ⟨⟨by simp,by show(s:Int)<_;omega⟩,by simp,by show(h:Int)<_;omega⟩;have q1:(gt (gt now.l ((s:Int)).toNat).l ((h:Int)).toNat !=c_ now h s)=false:=by rw[ei,ei];exact bne_self_eq_false _
  have q2:(gt (gt old.l ((s:Int)).toNat).l ((h:Int)).toNat==c_ now h s)=false:=by rw[ei,ei];exact beq_false_of_ne fun q=>c q.symm
  rw[hB];show(bif !true then true else bif(gt (gt now.l ((s:Int)).toNat).l ((h:Int)).toNat !=c_ now h s)then true else bif(gt (gt old.l ((s:Int)).toNat).l ((h:Int)).toNat==c_ now h s)then true else !true)=false;rw[q1,q2];rfl
 rw[hx];rfl
theorem Jb(hV:lr t){r:Sl (Sl Int)}(hh:h<t.bd.l.length)(H:zI t r h s):sJ t r h s=none:=by unfold sJ;cases hc:lW (oT (s:Int) (c_ r h s)) t.bW.l 0 with|none=>rfl|some q=>obtain⟨a,b,c⟩:=q;obtain⟨j,l,hl,hj,_⟩:=(KJ hV).1 hc;have:=F8 hV (List.mem_of_getElem? hl) (Cn hh) hj.AX;refine absurd ?_ this;unfold Mq;rw[aq,H.1,H.2]
theorem A2{r:Sl (Sl Int)}(hG:gx t r)(hh:h<t.bd.l.length)(hs:s<r.l.length):ue t h (s:Int) (c_ r h s)=false:=by
 unfold ue;by_cases h0:eL t r h s=0
 .have H:=Bf hG hh hs h0;have e:gt t.bd.l h=(((s:Int),c_ r h s):fS):=Prod.ext H.1 H.2;rw[decide_eq_true e,Bool.not_true,Bool.and_false]
 .obtain ⟨_,s',e1,_⟩:=Bg hG hh hs h0;rcases qE (h:=h) hG.1 s with⟨e2,_⟩|⟨y,b,c,_,_,e2⟩
  .rw [e2]at e1;cases e1
  .rw [e2];rfl
theorem A3{r:Sl (Sl Int)}(hG:gx t r)(hh:h<t.bd.l.length)(hs:s<r.l.length){a b c:Int}(hp:kQ t (s:Int) (c_ r h s)=(a,b,c,true)):∃s':Nat,a=(s':Int)/\s'<r.l.length/\eL t r h s=eL t r h s'+1:=by
 rcases qE (h:=h) hG.1 s with⟨_,e2⟩|⟨y,b',c',e1,hy,e2⟩
 .rw [e2]at hp;cases hp
 .rw [e2]at hp;obtain⟨rfl,_⟩:=Prod.mk.inj hp;by_cases h0:eL t r h s=0
  .rw [Jb hG.1.sy hh (Bf hG hh hs h0)]at e1;cases e1
  .obtain ⟨_,s',e3,hs',e4⟩:=Bg hG hh hs h0;rw[e3]at e1;obtain rfl:=aa e1;exact⟨s',rfl,hs',e4⟩
theorem Iu{r:aj}{x:Int}:∀(mv:List ae)(P:List (Sl Int)),s<P.length->(P.length:Int)=t.br->h<t.bd.l.length->
  x∈(gt (uB t r h mv P) s).l->x∈(gt P s).l\/∃m∈mv,vu r s h m=true/\m.2.2.1=x:=by
 intro mv;induction mv with
 |nil=>intro P _ _ _ hx;exact .inl hx
 |cons m mv ih=>
  intro P hs hA hh hx;have e:=O0 (r:=r) (m:=m) hs hA hh;rcases ih (wP t r h P m) (by rw[tf];exact hs) (by rw[tf];exact hA) hh hx with h1|⟨m',h1,h2,h3⟩
  .rw [e]at h1;cases hm:vu r s h m with
   |true=>
    rw[hm]at h1;rcases List.mem_append.1 h1 with h1|h1
    .exact .inl h1
    .exact .inr ⟨m,List.mem_cons_self,hm,(aq.1 h1).symm⟩
   |false=>rw[hm]at h1;exact .inl h1
  .exact .inr ⟨m',List.mem_cons_of_mem _ h1,h2,h3⟩
theorem KF(hR:Au (cm t old now) R)(l1:(old.l.length:Int)=t.br)(l2:(now.l.length:Int)=t.br)(r1:∀s,s<old.l.length->(gt old.l s).l.length=t.bd.l.length){k:Nat}(hk:k<R.length)(hs:s<old.l.length)(hh:h<t.bd.l.length){x:Int}
  (hx:x∈(gt (kP t (gt R k) h (cm t old now) (Ap t R (cm t old now) old.l k)) s).l):
  (x=c_ old h s/\(gt R k).1<=(eL t now h s:Int))\/(x=c_ now h s/\(eL t now h s:Int)<=(gt R k).1):=by
 have d1:s<(Ap t R (cm t old now) old.l k).length:=by rw[pg];exact hs
 have d2:((Ap t R (cm t old now) old.l k).length:Int)=t.br:=by rw[pg];exact l1
 have hsn:s<now.l.length:=by omega
 rcases Iu (cm t old now) _ (by simpa using d1) (by simpa using d2) hh hx with h1|⟨m,h1,h2,h3⟩
 .rw [cR (by simpa using d1)]at h1;simp only[gg,List.getElem_range,Sl.iO,aq]at h1;rcases OU (rd:=R) (mv:=cm t old now) (A:=old.l) hs l1 hh (r1 s hs) k (by omega)with⟨g1,g2⟩|⟨r,hr,m,g1,g2,g3⟩
  .rw [g1]at h1;have h1:x=c_ old h s:=h1;by_cases hd:(gt R k).1<=(eL t now h s:Int)
   .exact .inl ⟨h1,hd⟩
   .by_cases hne:c_ now h s=c_ old h s
    .exact .inr ⟨h1.trans hne.symm,by omega⟩
    .exfalso;have hm:((s:Int),(h:Int),c_ now h s,(eL t now h s:Int))∈cm t old now:=uE.2 ⟨h,s,hh,hsn,hne,rfl⟩;obtain⟨i,hi,e⟩:=hR.lY hm;have e:(gt R i).1=(eL t now h s:Int):=e;have hik:i<k:=hR.Qp hi hk (by omega);have hA:=yX.2 ⟨⟨rfl,rfl⟩,(hR.SS hi hm).2 e.symm⟩;rw[g2 _ (CL hik hi) _ hm]at hA;cases hA
  .rw [g3]at h1;obtain⟨⟨e1,e2⟩,e3⟩:=yX.1 g2;obtain⟨i,hik,hi,e4⟩:=DI hr;have e5:=(K8 g1 e1 e2).1;rw[<-e4,hR.SS hi g1]at e3;have:=hR.lt hik hk;rw[e5]at h1 e3;have e3:(eL t now h s:Int)=(gt R i).1:=e3;exact .inr ⟨h1,by omega⟩
 .obtain ⟨⟨e1,e2⟩,e3⟩:=yX.1 h2;have e5:=(K8 h1 e1 e2).1;rw[hR.SS hk h1]at e3;rw[e5]at h3 e3;have e3:(eL t now h s:Int)=(gt R k).1:=e3;exact .inr ⟨h3.symm,by omega⟩
theorem Iz{E:List aQ}{f:Nat->Nat}(hE:∀i j,Ed E i j->f j<f i){g:Nat}:∀{d i:Nat},O5 E g d i->f g+d<=f i:=by intro d i hp;induction hp with|zero=>exact Nat.le_refl _|kI e _ ih=>have:=hE _ _ e;omega
theorem N8{E:List aQ}{f:Nat->Nat}(hE:∀i j,Ed E i j->f j<f i)(n:Nat):¬SX n E:=by rintro⟨g,_,d,h1,_,h3⟩;have:=Iz hE h3;omega
theorem wX(hR:Au (cm t old now) R)(hO:gx t old)(hN:gx t now):tE t R (cm t old now) old.l 0 R.length=[]:=by
 have hsw:=hO.1.sy.sw;have l1:=hO.1.len;have l2:=hN.1.len;have r1:∀s,s<old.l.length->(gt old.l s).l.length=t.bd.l.length:=fun s hs=>hO.1.dj hs;refine dD.2 fun k hk=>dD.2 fun h hh=>?_;rw[eg]at hk hh;have hkl:k<R.length:=by omega
 have hhl:h<t.bd.l.length:=by omega
 have hPl:(kP t (gt R k) h (cm t old now) (Ap t R (cm t old now) old.l k)).length=old.l.length:=by rw[w7,pg]
 have hmay:∀s,s<old.l.length->∀x∈(gt (kP t (gt R k) h (cm t old now) (Ap t R (cm t old now) old.l k)) s).l,_:=fun s hs x hx=>KF hR l1 l2 r1 hkl hs hhl hx;generalize kP t (gt R k) h (cm t old now) (Ap t R (cm t old now) old.l k)=P at hPl hmay|-
 have n1:nP t h P 0 P.length=false:=by
  rw[<-Bool.not_eq_true];intro q;obtain⟨s,hs,q⟩:=List.any_eq_true.1 q;obtain⟨x,hx,q⟩:=List.any_eq_true.1 q;rw[eg]at hs;have hsl:s<old.l.length:=by omega
  rcases hmay s hsl x hx with⟨rfl,_⟩|⟨rfl,_⟩
  .rw [A2 hO hhl hsl]at q;cases q
  .rw [A2 hN hhl (by omega)]at q;cases q
 have n2:yK t P=false:=xY (N8 (f:=fun s=>if(eL t now h s:Int)<(gt R k).1 then eL t now h s else 8+eL t old h s) (fun i j he=>by
  obtain⟨e,he,e1,e2⟩:=he;obtain⟨s,h1,h2⟩:=bU.1 he;obtain⟨x,hx,h3⟩:=bU.1 h2;rw[eg]at h1;have hsl:s<old.l.length:=by omega
  unfold qS at h3;generalize hq:kQ t (s:Int) x=q at h3;obtain⟨a,b,c,d⟩:=q;cases d with
  |false=>cases h3
  |true=>
   obtain rfl:=aq.1 h3;have e1:(s:Int)=(i:Int):=e1;have e2:a=(j:Int):=e2;obtain rfl:s=i:=by omega
   rcases hmay s hsl x hx with⟨rfl,hd⟩|⟨rfl,hd⟩
   .obtain ⟨s',g1,g2,g3⟩:=A3 hO hhl hsl hq;obtain rfl:s'=j:=by omega
    have hl:=hN.lt (h:=h) (s:=s') (by omega) hhl;rw[if_neg (by omega:¬(eL t now h s:Int)<(gt R k).1)];split<;>omega
   .obtain ⟨s',g1,g2,g3⟩:=A3 hN hhl (show s<now.l.length by omega) hq;obtain rfl:s'=j:=by omega
    have hl:=hN.lt (h:=h) (s:=s) (by omega) hhl;rw[if_pos (by omega:(eL t now h s':Int)<(gt R k).1)];split<;>omega) _)
 unfold yV;rw[n1,n2];rfl
end
end Go.Proofs.YthcplpfiidlinaaDoor.J
