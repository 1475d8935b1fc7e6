/- Plans that are made: nothing is missing, nothing extra, no hole and no ring. Conditions: as stated. -/
import Derived.Test.YthcplpfiidlinaaDoorJG
import Derived.Test.YthcplpfiidlinaaDoorJLX
open Go.Ev Go
open Int renaming toNat_natCast->d_
open List renaming flatMap_eq_nil_iff->dU,getElem_map->gg,getElem_mem->bZ,getElem_of_mem->cq,length_take->bY,mem_flatMap->bS,mem_range'_1->eZ,mem_singleton->aq
open Option.some renaming inj->aa
namespace Go.Proofs.YthcplpfiidlinaaDoor.J
structure Ak(ms:List ae)(R:List aj):Prop where
 Nd:(R.map fun x=>x.1).Pairwise (·<·)
 AM:∀x,x∈(R.map fun x=>x.1)<->∃m∈ms,m.2.2.2=x
 Rr:∀i,i<R.length->Bl ms (gt R i).1 (gt R i).2.2.l
theorem Nf.w{ms:List ae}{first gap:Int}{R:List aj}(h:Nf ms first gap R):Ak ms R:=⟨h.Nd,h.AM,h.Rr⟩
theorem FN{α:Type}[Inhabited α]{l:List α}{x:α}(h:x∈l):∃i,i<l.length/\gt l i=x:=by obtain⟨i,hi,e⟩:=cq h;exact⟨i,hi,by rw[cP hi];exact e⟩
theorem Cd{α:Type}[Inhabited α]{l:List α}{i:Nat}(h:i<l.length):gt l i∈l:=by rw[cP h];exact bZ _
theorem DC{α:Type}[Inhabited α]{l:List α}{k:Nat}{x:α}(h:x∈l.take k):∃i,i<k/\i<l.length/\gt l i=x:=by obtain⟨i,hi,e⟩:=cq h;rw[bY]at hi;rw[List.getElem_take]at e;exact⟨i,by omega,by omega,by rw[cP (by omega)];exact e⟩
theorem CD{α:Type}[Inhabited α]{l:List α}{i k:Nat}(h:i<k)(hl:i<l.length):gt l i∈l.take k:=by
 have hi:i<(l.take k).length:=by rw[bY];omega
 have e:gt l i=(l.take k)[i]'hi:=by rw[cP hl,List.getElem_take]
 rw[e];exact bZ _
theorem Ak.lt{ms:List ae}{R:List aj}(h:Ak ms R){i j:Nat}(hij:i<j)(hj:j<R.length):(gt R i).1<(gt R j).1:=by have:=List.pairwise_iff_getElem.1 h.Nd i j (by simpa using by omega) (by simpa using hj) hij;rw[gg,gg]at this;rw[cP (by omega),cP hj];exact this
theorem Ak.Qm{ms:List ae}{R:List aj}(h:Ak ms R){i j:Nat}(hi:i<R.length)(hj:j<R.length)(hn:(gt R i).1<(gt R j).1):i<j:=by
 rcases Nat.lt_trichotomy i j with h1|rfl|h1
 .exact h1
 .omega
 .have:=h.lt h1 hi;omega
theorem Ak.SK{ms:List ae}{R:List aj}(h:Ak ms R){i:Nat}(hi:i<R.length){m:ae}(hm:m∈ms):oF (gt R i) m=true<->m.2.2.2=(gt R i).1:=by
 unfold oF;by_cases e:m.2.2.2=(gt R i).1
 .rw [e,beq_self_eq_true,cond_true];exact⟨fun _=>rfl,fun _=>decide_eq_true (((h.Rr i hi).AM _).2 ⟨m,hm,e,rfl⟩)⟩
 .rw [beq_false_of_ne e,cond_false];exact⟨fun q=>absurd q Bool.false_ne_true,fun q=>absurd q e⟩
theorem Ak.lV{ms:List ae}{R:List aj}(h:Ak ms R){m:ae}(hm:m∈ms):∃i,i<R.length/\(gt R i).1=m.2.2.2:=by obtain⟨r,hr,e⟩:=List.mem_map.1 ((h.AM _).2 ⟨m,hm,rfl⟩);obtain⟨i,hi,e2⟩:=FN hr;exact⟨i,hi,by rw[e2];exact e⟩
theorem Ak.any{ms:List ae}{R:List aj}(h:Ak ms R){m:ae}(hm:m∈ms):(R.any fun r=>oF r m)=true:=by obtain⟨i,hi,e⟩:=h.lV hm;exact List.any_eq_true.2 ⟨gt R i,Cd hi,(h.SK hi hm).2 e.symm⟩
theorem Jt{l:List ae}{P:ae->Bool}{m:ae}(hnd:l.Nodup)(hm:m∈l)(hP:∀x∈l,P x=true<->x=m):(l.filter P).length=1:=by
 have e:l.filter P=l.filter (·==m):=List.filter_congr fun x hx=>by rw[Bool.eq_iff_iff,hP x hx,beq_iff_eq]
 rw[e,<-List.countP_eq_length_filter];have:=List.Nodup.count (a:=m) hnd;rw[if_pos hm]at this;exact this
theorem MC{l:List ae}{P:ae->Bool}(hP:∀x∈l,P x=false):(l.filter P).length=0:=by rw[List.filter_eq_nil_iff.2 fun x hx=>by rw[hP x hx];exact Bool.false_ne_true];rfl
section
variable{t:ah}{old now:Sl (Sl Int)}{R:List aj}{s h:Nat}
theorem uy{m:ae}:m∈ck t old now<->∃h s,h<t.bd.l.length/\s<now.l.length/\c9 now h s≠c9 old h s/\m=((s:Int),(h:Int),c9 now h s,(eH t now h s:Int)):=K6.trans xA
theorem yB:(ck t old now).Nodup:=((uS _).nodup_iff).2 AI
theorem K5{m:ae}(hm:m∈ck t old now)(h1:m.1=(s:Int))(h2:m.2.1=(h:Int)):m=((s:Int),(h:Int),c9 now h s,(eH t now h s:Int))/\c9 now h s≠c9 old h s/\s<now.l.length/\h<t.bd.l.length:=by
 obtain⟨h',s',a,b,c,rfl⟩:=uy.1 hm;have e1:s'=s:=by have h1:(s':Int)=(s:Int):=h1;omega
 have e2:h'=h:=by have h2:(h':Int)=(h:Int):=h2;omega
 subst e1 e2;exact⟨rfl,c,b,a⟩
theorem DS(hR:Ak (ck t old now) R){m:ae}(hm:m∈ck t old now):F5 R (s:Int) (h:Int) (c9 now h s) m=true<->m=((s:Int),(h:Int),c9 now h s,(eH t now h s:Int)):=by
 unfold F5;constructor
 .intro q;cases c:((m.1==(s:Int))&&(m.2.1==(h:Int)))&&(m.2.2.1==c9 now h s)with|false=>rw[c]at q;cases q|true=>simp only[Bool.and_eq_true,beq_iff_eq]at c;exact(K5 hm c.1.1 c.1.2).1
 .intro e;rw[hR.any hm,e];simp
theorem Hh(hR:Ak (ck t old now) R)(hs:s<now.l.length)(hh:h<t.bd.l.length){l:List ae}(hsub:∀x∈l,x∈ck t old now)(hnd:l.Nodup)(hl:c9 now h s≠c9 old h s->((s:Int),(h:Int),c9 now h s,(eH t now h s:Int))∈l):rN old now l R s h=false:=by
 unfold rN;by_cases hne:c9 now h s=c9 old h s
 .have e:(gt (gt now.l s).l h !=gt (gt old.l s).l h)=false:=by rw[show gt (gt now.l s).l h=c9 now h s from rfl,show gt (gt old.l s).l h=c9 old h s from rfl,hne];exact bne_self_eq_false _
  rw[e,Bool.false_and]
 .have e:pE R (s:Int) (h:Int) (gt (gt now.l s).l h) l=1:=Jt hnd (hl hne) fun x hx=>DS hR (hsub x hx);rw[e];have:(((1:Nat):Int) !=1)=false:=rfl;rw[this,Bool.and_false]
theorem IT(hR:Ak (ck t old now) R)(r2:∀s,s<now.l.length->(gt now.l s).l.length=t.bd.l.length):wV old now (ck t old now) R 0 now.l.length=[]:=by
 refine dU.2 fun s hs=>dU.2 fun h hh=>?_;rw[eZ]at hs hh;have hsl:s<now.l.length:=by omega
 have hhl:h<t.bd.l.length:=by rw[<-r2 s hsl];omega
 rw[Hh hR hsl hhl (fun _ h=>h) yB fun hne=>uy.2 ⟨h,s,hhl,hsl,hne,rfl⟩];rfl
theorem Gd(hR:Ak (ck t old now) R)(l2:(now.l.length:Int)=t.bq):wu t old now (ck t old now) R 0 (ck t old now).length=[]:=by
 refine dU.2 fun k hk=>?_;rw[eZ]at hk;have hm:gt (ck t old now) k∈ck t old now:=Cd (by omega);obtain⟨h,s,a,b,c,e⟩:=uy.1 hm
 have hx:oJ t old now R (gt (ck t old now) k)=false:=by
  unfold oJ;rw[hR.any hm];rw[e];have hB:uN t ((s:Int),(h:Int),c9 now h s,(eH t now h s:Int))=true:=vi.2 ⟨⟨by simp,by show(s:Int)<_;omega⟩,by simp,by show(h:Int)<_;omega⟩;have q1:(gt (gt now.l ((s:Int)).toNat).l ((h:Int)).toNat !=c9 now h s)=false:=by rw[d_,d_];exact bne_self_eq_false _
  have q2:(gt (gt old.l ((s:Int)).toNat).l ((h:Int)).toNat==c9 now h s)=false:=by rw[d_,d_];exact beq_false_of_ne fun q=>c q.symm
  rw[hB];show(bif !true then true else bif(gt (gt now.l ((s:Int)).toNat).l ((h:Int)).toNat !=c9 now h s)then true else bif(gt (gt old.l ((s:Int)).toNat).l ((h:Int)).toNat==c9 now h s)then true else !true)=false;rw[q1,q2];rfl
 rw[hx];rfl
theorem I7(hV:lk t){r:Sl (Sl Int)}(hh:h<t.bd.l.length)(H:zA t r h s):sD t r h s=none:=by unfold sD;cases hc:lT (oQ (s:Int) (c9 r h s)) t.bU.l 0 with|none=>rfl|some q=>obtain⟨a,b,c⟩:=q;obtain⟨j,l,hl,hj,_⟩:=(KG hV).1 hc;have:=F4 hV (List.mem_of_getElem? hl) (Cd hh) hj.AM;refine absurd ?_ this;unfold Mm;rw[aq,H.1,H.2]
theorem AS{r:Sl (Sl Int)}(hG:gx t r)(hh:h<t.bd.l.length)(hs:s<r.l.length):t_ t h (s:Int) (c9 r h s)=false:=by
 unfold t_;by_cases h0:eH t r h s=0
 .have H:=A5 hG hh hs h0;have e:gt t.bd.l h=(((s:Int),c9 r h s):fQ):=Prod.ext H.1 H.2;rw[decide_eq_true e,Bool.not_true,Bool.and_false]
 .obtain ⟨_,s',e1,_⟩:=A6 hG hh hs h0;rcases qB (h:=h) hG.1 s with⟨e2,_⟩|⟨y,b,c,_,_,e2⟩
  .rw [e2]at e1;cases e1
  .rw [e2];rfl
theorem AT{r:Sl (Sl Int)}(hG:gx t r)(hh:h<t.bd.l.length)(hs:s<r.l.length){a b c:Int}(hp:kN t (s:Int) (c9 r h s)=(a,b,c,true)):∃s':Nat,a=(s':Int)/\s'<r.l.length/\eH t r h s=eH t r h s'+1:=by
 rcases qB (h:=h) hG.1 s with⟨_,e2⟩|⟨y,b',c',e1,hy,e2⟩
 .rw [e2]at hp;cases hp
 .rw [e2]at hp;obtain⟨rfl,_⟩:=Prod.mk.inj hp;by_cases h0:eH t r h s=0
  .rw [I7 hG.1.tR hh (A5 hG hh hs h0)]at e1;cases e1
  .obtain ⟨_,s',e3,hs',e4⟩:=A6 hG hh hs h0;rw[e3]at e1;obtain rfl:=aa e1;exact⟨s',rfl,hs',e4⟩
theorem Im{r:aj}{x:Int}:∀(mv:List ae)(P:List (Sl Int)),s<P.length->(P.length:Int)=t.bq->h<t.bd.l.length->
  x∈(gt (uv t r h mv P) s).l->x∈(gt P s).l\/∃m∈mv,vn r s h m=true/\m.2.2.1=x:=by
 intro mv;induction mv with
 |nil=>intro P _ _ _ hx;exact .inl hx
 |cons m mv ih=>
  intro P hs hA hh hx;have e:=OY (r:=r) (m:=m) hs hA hh;rcases ih (wJ t r h P m) (by rw[sX];exact hs) (by rw[sX];exact hA) hh hx with h1|⟨m',h1,h2,h3⟩
  .rw [e]at h1;cases hm:vn r s h m with
   |true=>
    rw[hm]at h1;rcases List.mem_append.1 h1 with h1|h1
    .exact .inl h1
    .exact .inr ⟨m,List.mem_cons_self,hm,(aq.1 h1).symm⟩
   |false=>rw[hm]at h1;exact .inl h1
  .exact .inr ⟨m',List.mem_cons_of_mem _ h1,h2,h3⟩
theorem KC(hR:Ak (ck t old now) R)(l1:(old.l.length:Int)=t.bq)(l2:(now.l.length:Int)=t.bq)(r1:∀s,s<old.l.length->(gt old.l s).l.length=t.bd.l.length){k:Nat}(hk:k<R.length)(hs:s<old.l.length)(hh:h<t.bd.l.length){x:Int}
  (hx:x∈(gt (kM t (gt R k) h (ck t old now) (Ag t R (ck t old now) old.l k)) s).l):
  (x=c9 old h s/\(gt R k).1<=(eH t now h s:Int))\/(x=c9 now h s/\(eH t now h s:Int)<=(gt R k).1):=by
 have d1:s<(Ag t R (ck t old now) old.l k).length:=by rw[o_];exact hs
 have d2:((Ag t R (ck t old now) old.l k).length:Int)=t.bq:=by rw[o_];exact l1
 have hsn:s<now.l.length:=by omega
 rcases Im (ck t old now) _ (by simpa using d1) (by simpa using d2) hh hx with h1|⟨m,h1,h2,h3⟩
 .rw [cP (by simpa using d1)]at h1;simp only[gg,List.getElem_range,Sl.iM,aq]at h1;rcases OS (rd:=R) (mv:=ck t old now) (A:=old.l) hs l1 hh (r1 s hs) k (by omega)with⟨g1,g2⟩|⟨r,hr,m,g1,g2,g3⟩
  .rw [g1]at h1;have h1:x=c9 old h s:=h1;by_cases hd:(gt R k).1<=(eH t now h s:Int)
   .exact .inl ⟨h1,hd⟩
   .by_cases hne:c9 now h s=c9 old h s
    .exact .inr ⟨h1.trans hne.symm,by omega⟩
    .exfalso;have hm:((s:Int),(h:Int),c9 now h s,(eH t now h s:Int))∈ck t old now:=uy.2 ⟨h,s,hh,hsn,hne,rfl⟩;obtain⟨i,hi,e⟩:=hR.lV hm;have e:(gt R i).1=(eH t now h s:Int):=e;have hik:i<k:=hR.Qm hi hk (by omega);have hA:=yR.2 ⟨⟨rfl,rfl⟩,(hR.SK hi hm).2 e.symm⟩;rw[g2 _ (CD hik hi) _ hm]at hA;cases hA
  .rw [g3]at h1;obtain⟨⟨e1,e2⟩,e3⟩:=yR.1 g2;obtain⟨i,hik,hi,e4⟩:=DC hr;have e5:=(K5 g1 e1 e2).1;rw[<-e4,hR.SK hi g1]at e3;have:=hR.lt hik hk;rw[e5]at h1 e3;have e3:(eH t now h s:Int)=(gt R i).1:=e3;exact .inr ⟨h1,by omega⟩
 .obtain ⟨⟨e1,e2⟩,e3⟩:=yR.1 h2;have e5:=(K5 h1 e1 e2).1;rw[hR.SK hk h1]at e3;rw[e5]at h3 e3;have e3:(eH t now h s:Int)=(gt R k).1:=e3;exact .inr ⟨h3.symm,by omega⟩
theorem It{E:List aQ}{f:Nat->Nat}(hE:∀i j,Ed E i j->f j<f i){g:Nat}:∀{d i:Nat},O2 E g d i->f g+d<=f i:=by intro d i hp;induction hp with|zero=>exact Nat.le_refl _|kF e _ ih=>have:=hE _ _ e;omega
theorem N4{E:List aQ}{f:Nat->Nat}(hE:∀i j,Ed E i j->f j<f i)(n:Nat):¬SO n E:=by rintro⟨g,_,d,h1,_,h3⟩;have:=It hE h3;omega
theorem CX(hR:Ak (ck t old now) R)(hO:gx t old)(hN:gx t now):tq t R (ck t old now) old.l 0 R.length=[]:=by
 have hsw:=hO.1.tR.sw;have l1:=hO.1.len;have l2:=hN.1.len;have r1:∀s,s<old.l.length->(gt old.l s).l.length=t.bd.l.length:=fun s hs=>hO.1.dj hs;refine dU.2 fun k hk=>dU.2 fun h hh=>?_;rw[eZ]at hk hh;have hkl:k<R.length:=by omega
 have hhl:h<t.bd.l.length:=by omega
 have hPl:(kM t (gt R k) h (ck t old now) (Ag t R (ck t old now) old.l k)).length=old.l.length:=by rw[wU,o_]
 have hmay:∀s,s<old.l.length->∀x∈(gt (kM t (gt R k) h (ck t old now) (Ag t R (ck t old now) old.l k)) s).l,_:=fun s hs x hx=>KC hR l1 l2 r1 hkl hs hhl hx;generalize kM t (gt R k) h (ck t old now) (Ag t R (ck t old now) old.l k)=P at hPl hmay|-
 have n1:nL t h P 0 P.length=false:=by
  rw[<-Bool.not_eq_true];intro q;obtain⟨s,hs,q⟩:=List.any_eq_true.1 q;obtain⟨x,hx,q⟩:=List.any_eq_true.1 q;rw[eZ]at hs;have hsl:s<old.l.length:=by omega
  rcases hmay s hsl x hx with⟨rfl,_⟩|⟨rfl,_⟩
  .rw [AS hO hhl hsl]at q;cases q
  .rw [AS hN hhl (by omega)]at q;cases q
 have n2:yE t P=false:=xR (N4 (f:=fun s=>if(eH t now h s:Int)<(gt R k).1 then eH t now h s else 8+eH t old h s) (fun i j he=>by
  obtain⟨e,he,e1,e2⟩:=he;obtain⟨s,h1,h2⟩:=bS.1 he;obtain⟨x,hx,h3⟩:=bS.1 h2;rw[eZ]at h1;have hsl:s<old.l.length:=by omega
  unfold qP at h3;generalize hq:kN t (s:Int) x=q at h3;obtain⟨a,b,c,d⟩:=q;cases d with
  |false=>cases h3
  |true=>
   obtain rfl:=aq.1 h3;have e1:(s:Int)=(i:Int):=e1;have e2:a=(j:Int):=e2;obtain rfl:s=i:=by omega
   rcases hmay s hsl x hx with⟨rfl,hd⟩|⟨rfl,hd⟩
   .obtain ⟨s',g1,g2,g3⟩:=AT hO hhl hsl hq;obtain rfl:s'=j:=by omega
    have hl:=hN.lt (h:=h) (s:=s') (by omega) hhl;rw[if_neg (by omega:¬(eH t now h s:Int)<(gt R k).1)];split<;>omega
   .obtain ⟨s',g1,g2,g3⟩:=AT hN hhl (show s<now.l.length by omega) hq;obtain rfl:s'=j:=by omega
    have hl:=hN.lt (h:=h) (s:=s) (by omega) hhl;rw[if_pos (by omega:(eH t now h s':Int)<(gt R k).1)];split<;>omega) _)
 unfold yP;rw[n1,n2];rfl
end
end Go.Proofs.YthcplpfiidlinaaDoor.J
