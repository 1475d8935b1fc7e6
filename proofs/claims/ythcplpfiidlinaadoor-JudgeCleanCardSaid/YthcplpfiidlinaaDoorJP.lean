/- Plans that are made: nothing is missing, nothing extra, no hole and no ring. Conditions: as stated. -/
import Derived.Test.YthcplpfiidlinaaDoorJG
import Derived.Test.YthcplpfiidlinaaDoorJLX
open Go.Ev Go
open Int renaming toNat_natCast->fP
open List renaming flatMap_eq_nil_iff->f_,getElem_map->gR,getElem_mem->bX,getElem_of_mem->cj,length_take->cF,mem_flatMap->cn,mem_range'_1->ig,mem_singleton->am
open Option.some renaming inj->aa
namespace Go.Proofs.YthcplpfiidlinaaDoor.J
structure Cr(ms:List ae)(R:List aj):Prop where
 OK:(R.map fun x=>x.1).Pairwise (·<·)
 BL:∀x,x∈(R.map fun x=>x.1)<->∃m∈ms,m.2.2.2=x
 SA:∀i,i<R.length->Bi ms (gt R i).1 (gt R i).2.2.l
theorem OW.w{ms:List ae}{first gap:Int}{R:List aj}(h:OW ms first gap R):Cr ms R:=⟨h.OK,h.BL,h.SA⟩
theorem K4{α:Type}[Inhabited α]{l:List α}{x:α}(h:x∈l):∃i,i<l.length/\gt l i=x:=by obtain⟨i,hi,e⟩:=cj h;exact⟨i,hi,by rw[cY hi];exact e⟩
theorem Gy{α:Type}[Inhabited α]{l:List α}{i:Nat}(h:i<l.length):gt l i∈l:=by rw[cY h];exact bX _
theorem K1{α:Type}[Inhabited α]{l:List α}{k:Nat}{x:α}(h:x∈l.take k):∃i,i<k/\i<l.length/\gt l i=x:=by obtain⟨i,hi,e⟩:=cj h;rw[cF]at hi;rw[List.getElem_take]at e;exact⟨i,by omega,by omega,by rw[cY (by omega)];exact e⟩
theorem JY{α:Type}[Inhabited α]{l:List α}{i k:Nat}(h:i<k)(hl:i<l.length):gt l i∈l.take k:=by
 have hi:i<(l.take k).length:=by rw[cF];omega
 have e:gt l i=(l.take k)[i]'hi:=by rw[cY hl,List.getElem_take]
 rw[e];exact bX _
theorem Cr.lt{ms:List ae}{R:List aj}(h:Cr ms R){i j:Nat}(hij:i<j)(hj:j<R.length):(gt R i).1<(gt R j).1:=by have:=List.pairwise_iff_getElem.1 h.OK i j (by simpa using by omega) (by simpa using hj) hij;rw[gR,gR]at this;rw[cY (by omega),cY hj];exact this
theorem Cr.Qh{ms:List ae}{R:List aj}(h:Cr ms R){i j:Nat}(hi:i<R.length)(hj:j<R.length)(hn:(gt R i).1<(gt R j).1):i<j:=by
 rcases Nat.lt_trichotomy i j with h1|rfl|h1
 .exact h1
 .omega
 .have:=h.lt h1 hi;omega
theorem Cr.SF{ms:List ae}{R:List aj}(h:Cr ms R){i:Nat}(hi:i<R.length){m:ae}(hm:m∈ms):oB (gt R i) m=true<->m.2.2.2=(gt R i).1:=by
 unfold oB;by_cases e:m.2.2.2=(gt R i).1
 .rw [e,beq_self_eq_true,cond_true];exact⟨fun _=>rfl,fun _=>decide_eq_true (((h.SA i hi).BL _).2 ⟨m,hm,e,rfl⟩)⟩
 .rw [beq_false_of_ne e,cond_false];exact⟨fun q=>absurd q Bool.false_ne_true,fun q=>absurd q e⟩
theorem Cr.lS{ms:List ae}{R:List aj}(h:Cr ms R){m:ae}(hm:m∈ms):∃i,i<R.length/\(gt R i).1=m.2.2.2:=by obtain⟨r,hr,e⟩:=List.mem_map.1 ((h.BL _).2 ⟨m,hm,rfl⟩);obtain⟨i,hi,e2⟩:=K4 hr;exact⟨i,hi,by rw[e2];exact e⟩
theorem Cr.any{ms:List ae}{R:List aj}(h:Cr ms R){m:ae}(hm:m∈ms):(R.any fun r=>oB r m)=true:=by obtain⟨i,hi,e⟩:=h.lS hm;exact List.any_eq_true.2 ⟨gt R i,Gy hi,(h.SF hi hm).2 e.symm⟩
theorem Jh{l:List ae}{P:ae->Bool}{m:ae}(hnd:l.Nodup)(hm:m∈l)(hP:∀x∈l,P x=true<->x=m):(l.filter P).length=1:=by
 have e:l.filter P=l.filter (·==m):=List.filter_congr fun x hx=>by rw[Bool.eq_iff_iff,hP x hx,beq_iff_eq]
 rw[e,<-List.countP_eq_length_filter];have:=List.Nodup.count (a:=m) hnd;rw[if_pos hm]at this;exact this
section
variable{t:ah}{old now:Sl (Sl Int)}{R:List aj}{s h:Nat}
theorem yE{m:ae}:m∈g_ t old now<->∃h s,h<t.bf.l.length/\s<now.l.length/\cZ now h s≠cZ old h s/\m=((s:Int),(h:Int),cZ now h s,(eJ t now h s:Int)):=KS.trans xB
theorem KR:(g_ t old now).Nodup:=((uT _).nodup_iff).2 AG
theorem KQ{m:ae}(hm:m∈g_ t old now)(h1:m.1=(s:Int))(h2:m.2.1=(h:Int)):m=((s:Int),(h:Int),cZ now h s,(eJ t now h s:Int))/\cZ now h s≠cZ old h s/\s<now.l.length/\h<t.bf.l.length:=by
 obtain⟨h',s',a,b,c,rfl⟩:=yE.1 hm;have e1:s'=s:=by have h1:(s':Int)=(s:Int):=h1;omega
 have e2:h'=h:=by have h2:(h':Int)=(h:Int):=h2;omega
 subst e1 e2;exact⟨rfl,c,b,a⟩
theorem Lz(hR:Cr (g_ t old now) R){m:ae}(hm:m∈g_ t old now):IU R (s:Int) (h:Int) (cZ now h s) m=true<->m=((s:Int),(h:Int),cZ now h s,(eJ t now h s:Int)):=by
 unfold IU;constructor
 .intro q;cases c:((m.1==(s:Int))&&(m.2.1==(h:Int)))&&(m.2.2.1==cZ now h s)with|false=>rw[c]at q;cases q|true=>simp only[Bool.and_eq_true,beq_iff_eq]at c;exact(KQ hm c.1.1 c.1.2).1
 .intro e;rw[hR.any hm,e];simp
theorem NY(hR:Cr (g_ t old now) R)(hs:s<now.l.length)(hh:h<t.bf.l.length){l:List ae}(hsub:∀x∈l,x∈g_ t old now)(hnd:l.Nodup)(hl:cZ now h s≠cZ old h s->((s:Int),(h:Int),cZ now h s,(eJ t now h s:Int))∈l):vh old now l R s h=false:=by
 unfold vh;by_cases hne:cZ now h s=cZ old h s
 .have e:(gt (gt now.l s).l h !=gt (gt old.l s).l h)=false:=by rw[show gt (gt now.l s).l h=cZ now h s from rfl,show gt (gt old.l s).l h=cZ old h s from rfl,hne];exact bne_self_eq_false _
  rw[e,Bool.false_and]
 .have e:qq R (s:Int) (h:Int) (gt (gt now.l s).l h) l=1:=Jh hnd (hl hne) fun x hx=>Lz hR (hsub x hx);rw[e];have:(((1:Nat):Int) !=1)=false:=rfl;rw[this,Bool.and_false]
theorem IG(hR:Cr (g_ t old now) R)(r2:∀s,s<now.l.length->(gt now.l s).l.length=t.bf.l.length):AK old now (g_ t old now) R 0 now.l.length=[]:=by
 refine f_.2 fun s hs=>f_.2 fun h hh=>?_;rw[ig]at hs hh;have hsl:s<now.l.length:=by omega
 have hhl:h<t.bf.l.length:=by rw[<-r2 s hsl];omega
 rw[NY hR hsl hhl (fun _ h=>h) KR fun hne=>yE.2 ⟨h,s,hhl,hsl,hne,rfl⟩];rfl
theorem F8(hR:Cr (g_ t old now) R)(l2:(now.l.length:Int)=t.bo):wt t old now (g_ t old now) R 0 (g_ t old now).length=[]:=by
 refine f_.2 fun k hk=>?_;rw[ig]at hk;have hm:gt (g_ t old now) k∈g_ t old now:=Gy (by omega);obtain⟨h,s,a,b,c,e⟩:=yE.1 hm
 have hx:oF t old now R (gt (g_ t old now) k)=false:=by
  unfold oF;rw[hR.any hm];rw[e];have hB:ua t ((s:Int),(h:Int),cZ now h s,(eJ t now h s:Int))=true:=vn.2 ⟨⟨by simp,by show(s:Int)<_;omega⟩,by simp,by show(h:Int)<_;omega⟩;have q1:(gt (gt now.l ((s:Int)).toNat).l ((h:Int)).toNat !=cZ now h s)=false:=by rw[fP,fP];exact bne_self_eq_false _
  have q2:(gt (gt old.l ((s:Int)).toNat).l ((h:Int)).toNat==cZ now h s)=false:=by rw[fP,fP];exact beq_false_of_ne fun q=>c q.symm
  rw[hB];show(bif !true then true else bif(gt (gt now.l ((s:Int)).toNat).l ((h:Int)).toNat !=cZ now h s)then true else bif(gt (gt old.l ((s:Int)).toNat).l ((h:Int)).toNat==cZ now h s)then true else !true)=false;rw[q1,q2];rfl
 rw[hx];rfl
theorem IV(hV:lh t){r:Sl (Sl Int)}(hh:h<t.bf.l.length)(H:zB t r h s):sC t r h s=none:=by unfold sC;cases hc:lQ (oM (s:Int) (cZ r h s)) t.bS.l 0 with|none=>rfl|some q=>obtain⟨a,b,c⟩:=q;obtain⟨j,l,hl,hj,_⟩:=(Kt hV).1 hc;have:=FX hV (List.mem_of_getElem? hl) (Gy hh) hj.BL;refine absurd ?_ this;unfold L9;rw[am,H.1,H.2]
theorem AQ{r:Sl (Sl Int)}(hG:gk t r)(hh:h<t.bf.l.length)(hs:s<r.l.length):ub t h (s:Int) (cZ r h s)=false:=by
 unfold ub;by_cases h0:eJ t r h s=0
 .have H:=A3 hG hh hs h0;have e:gt t.bf.l h=(((s:Int),cZ r h s):fK):=Prod.ext H.1 H.2;rw[decide_eq_true e,Bool.not_true,Bool.and_false]
 .obtain ⟨_,s',e1,_⟩:=A4 hG hh hs h0;rcases qB (h:=h) hG.1 s with⟨e2,_⟩|⟨y,b,c,_,_,e2⟩
  .rw [e2]at e1;cases e1
  .rw [e2];rfl
theorem AR{r:Sl (Sl Int)}(hG:gk t r)(hh:h<t.bf.l.length)(hs:s<r.l.length){a b c:Int}(hp:kL t (s:Int) (cZ r h s)=(a,b,c,true)):∃s':Nat,a=(s':Int)/\s'<r.l.length/\eJ t r h s=eJ t r h s'+1:=by
 rcases qB (h:=h) hG.1 s with⟨_,e2⟩|⟨y,b',c',e1,hy,e2⟩
 .rw [e2]at hp;cases hp
 .rw [e2]at hp;obtain⟨rfl,_⟩:=Prod.mk.inj hp;by_cases h0:eJ t r h s=0
  .rw [IV hG.1.tR hh (A3 hG hh hs h0)]at e1;cases e1
  .obtain ⟨_,s',e3,hs',e4⟩:=A4 hG hh hs h0;rw[e3]at e1;obtain rfl:=aa e1;exact⟨s',rfl,hs',e4⟩
theorem H_{r:aj}{x:Int}:∀(mv:List ae)(P:List (Sl Int)),s<P.length->(P.length:Int)=t.bo->h<t.bf.l.length->
  x∈(gt (uy t r h mv P) s).l->x∈(gt P s).l\/∃m∈mv,vq r s h m=true/\m.2.2.1=x:=by
 intro mv;induction mv with
 |nil=>intro P _ _ _ hx;exact .inl hx
 |cons m mv ih=>
  intro P hs hA hh hx;have e:=OR (r:=r) (m:=m) hs hA hh;rcases ih (wJ t r h P m) (by rw[sX];exact hs) (by rw[sX];exact hA) hh hx with h1|⟨m',h1,h2,h3⟩
  .rw [e]at h1;cases hm:vq r s h m with
   |true=>
    rw[hm]at h1;rcases List.mem_append.1 h1 with h1|h1
    .exact .inl h1
    .exact .inr ⟨m,List.mem_cons_self,hm,(am.1 h1).symm⟩
   |false=>rw[hm]at h1;exact .inl h1
  .exact .inr ⟨m',List.mem_cons_of_mem _ h1,h2,h3⟩
theorem Kp(hR:Cr (g_ t old now) R)(l1:(old.l.length:Int)=t.bo)(l2:(now.l.length:Int)=t.bo)(r1:∀s,s<old.l.length->(gt old.l s).l.length=t.bf.l.length){k:Nat}(hk:k<R.length)(hs:s<old.l.length)(hh:h<t.bf.l.length){x:Int}
  (hx:x∈(gt (kK t (gt R k) h (g_ t old now) (Ae t R (g_ t old now) old.l k)) s).l):
  (x=cZ old h s/\(gt R k).1<=(eJ t now h s:Int))\/(x=cZ now h s/\(eJ t now h s:Int)<=(gt R k).1):=by
 have d1:s<(Ae t R (g_ t old now) old.l k).length:=by rw[o6];exact hs
 have d2:((Ae t R (g_ t old now) old.l k).length:Int)=t.bo:=by rw[o6];exact l1
 have hsn:s<now.l.length:=by omega
 rcases H_ (g_ t old now) _ (by simpa using d1) (by simpa using d2) hh hx with h1|⟨m,h1,h2,h3⟩
 .rw [cY (by simpa using d1)]at h1;simp only[gR,List.getElem_range,Sl.iZ,am]at h1;rcases OJ (rd:=R) (mv:=g_ t old now) (A:=old.l) hs l1 hh (r1 s hs) k (by omega)with⟨g1,g2⟩|⟨r,hr,m,g1,g2,g3⟩
  .rw [g1]at h1;have h1:x=cZ old h s:=h1;by_cases hd:(gt R k).1<=(eJ t now h s:Int)
   .exact .inl ⟨h1,hd⟩
   .by_cases hne:cZ now h s=cZ old h s
    .exact .inr ⟨h1.trans hne.symm,by omega⟩
    .exfalso;have hm:((s:Int),(h:Int),cZ now h s,(eJ t now h s:Int))∈g_ t old now:=yE.2 ⟨h,s,hh,hsn,hne,rfl⟩;obtain⟨i,hi,e⟩:=hR.lS hm;have e:(gt R i).1=(eJ t now h s:Int):=e;have hik:i<k:=hR.Qh hi hk (by omega);have hA:=yU.2 ⟨⟨rfl,rfl⟩,(hR.SF hi hm).2 e.symm⟩;rw[g2 _ (JY hik hi) _ hm]at hA;cases hA
  .rw [g3]at h1;obtain⟨⟨e1,e2⟩,e3⟩:=yU.1 g2;obtain⟨i,hik,hi,e4⟩:=K1 hr;have e5:=(KQ g1 e1 e2).1;rw[<-e4,hR.SF hi g1]at e3;have:=hR.lt hik hk;rw[e5]at h1 e3;have e3:(eJ t now h s:Int)=(gt R i).1:=e3;exact .inr ⟨h1,by omega⟩
 .obtain ⟨⟨e1,e2⟩,e3⟩:=yU.1 h2;have e5:=(KQ h1 e1 e2).1;rw[hR.SF hk h1]at e3;rw[e5]at h3 e3;have e3:(eJ t now h s:Int)=(gt R k).1:=e3;exact .inr ⟨h3.symm,by omega⟩
theorem If{E:List aP}{f:Nat->Nat}(hE:∀i j,Ed E i j->f j<f i){g:Nat}:∀{d i:Nat},OX E g d i->f g+d<=f i:=by intro d i hp;induction hp with|zero=>exact Nat.le_refl _|kE e _ ih=>have:=hE _ _ e;omega
theorem NU{E:List aP}{f:Nat->Nat}(hE:∀i j,Ed E i j->f j<f i)(n:Nat):¬SJ n E:=by rintro⟨g,_,d,h1,_,h3⟩;have:=If hE h3;omega
theorem CX(hR:Cr (g_ t old now) R)(hO:gk t old)(hN:gk t now):tq t R (g_ t old now) old.l 0 R.length=[]:=by
 have hsw:=hO.1.tR.sw;have l1:=hO.1.len;have l2:=hN.1.len;have r1:∀s,s<old.l.length->(gt old.l s).l.length=t.bf.l.length:=fun s hs=>hO.1.di hs;refine f_.2 fun k hk=>f_.2 fun h hh=>?_;rw[ig]at hk hh;have hkl:k<R.length:=by omega
 have hhl:h<t.bf.l.length:=by omega
 have hPl:(kK t (gt R k) h (g_ t old now) (Ae t R (g_ t old now) old.l k)).length=old.l.length:=by rw[wU,o6]
 have hmay:∀s,s<old.l.length->∀x∈(gt (kK t (gt R k) h (g_ t old now) (Ae t R (g_ t old now) old.l k)) s).l,_:=fun s hs x hx=>Kp hR l1 l2 r1 hkl hs hhl hx;generalize kK t (gt R k) h (g_ t old now) (Ae t R (g_ t old now) old.l k)=P at hPl hmay|-
 have n1:nF t h P 0 P.length=false:=by
  rw[<-Bool.not_eq_true];intro q;obtain⟨s,hs,q⟩:=List.any_eq_true.1 q;obtain⟨x,hx,q⟩:=List.any_eq_true.1 q;rw[ig]at hs;have hsl:s<old.l.length:=by omega
  rcases hmay s hsl x hx with⟨rfl,_⟩|⟨rfl,_⟩
  .rw [AQ hO hhl hsl]at q;cases q
  .rw [AQ hN hhl (by omega)]at q;cases q
 have n2:yH t P=false:=xT (NU (f:=fun s=>if(eJ t now h s:Int)<(gt R k).1 then eJ t now h s else 8+eJ t old h s) (fun i j he=>by
  obtain⟨e,he,e1,e2⟩:=he;obtain⟨s,h1,h2⟩:=cn.1 he;obtain⟨x,hx,h3⟩:=cn.1 h2;rw[ig]at h1;have hsl:s<old.l.length:=by omega
  unfold qN at h3;generalize hq:kL t (s:Int) x=q at h3;obtain⟨a,b,c,d⟩:=q;cases d with
  |false=>cases h3
  |true=>
   obtain rfl:=am.1 h3;have e1:(s:Int)=(i:Int):=e1;have e2:a=(j:Int):=e2;obtain rfl:s=i:=by omega
   rcases hmay s hsl x hx with⟨rfl,hd⟩|⟨rfl,hd⟩
   .obtain ⟨s',g1,g2,g3⟩:=AR hO hhl hsl hq;obtain rfl:s'=j:=by omega
    have hl:=hN.lt (h:=h) (s:=s') (by omega) hhl;rw[if_neg (by omega:¬(eJ t now h s:Int)<(gt R k).1)];split<;>omega
   .obtain ⟨s',g1,g2,g3⟩:=AR hN hhl (show s<now.l.length by omega) hq;obtain rfl:s'=j:=by omega
    have hl:=hN.lt (h:=h) (s:=s) (by omega) hhl;rw[if_pos (by omega:(eJ t now h s':Int)<(gt R k).1)];split<;>omega) _)
 unfold yS;rw[n1,n2];rfl
end
end Go.Proofs.YthcplpfiidlinaaDoor.J
