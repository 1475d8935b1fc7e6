/- Plans that are made: nothing is missing, nothing extra, no hole and no ring. Conditions: as stated. -/
import Derived.Test.YthcplpfiidlinaaDoorJG
import Derived.Test.YthcplpfiidlinaaDoorJLX
open Int renaming toNat_natCast->eA
open List renaming flatMap_eq_nil_iff->dG,getElem_map->gk,getElem_mem->ce,getElem_of_mem->cu,length_take->b_,mem_flatMap->bU,mem_range'_1->ew,mem_singleton->ao
open Option.some renaming inj->aa
open Go.Ev Go
namespace Go.Proofs.YthcplpfiidlinaaDoor.J
structure AC(ms:List ae)(R:List aj):Prop where
 Nq:(R.map fun x=>x.1).Pairwise (·<·)
 A6:∀x,x∈(R.map fun x=>x.1)<->∃m∈ms,m.2.2.2=x
 RL:∀i,i<R.length->BE ms (gt R i).1 (gt R i).2.2.l
theorem Ns.w{ms:List ae}{first gap:Int}{R:List aj}(h:Ns ms first gap R):AC ms R:=⟨h.Nq,h.A6,h.RL⟩
theorem F5{α:Type}[Inhabited α]{l:List α}{x:α}(h:x∈l):∃i,i<l.length/\gt l i=x:=by obtain⟨i,hi,e⟩:=cu h;exact⟨i,hi,by rw[cR hi];exact e⟩
theorem Cy{α:Type}[Inhabited α]{l:List α}{i:Nat}(h:i<l.length):gt l i∈l:=by rw[cR h];exact ce _
theorem DW{α:Type}[Inhabited α]{l:List α}{k:Nat}{x:α}(h:x∈l.take k):∃i,i<k/\i<l.length/\gt l i=x:=by obtain⟨i,hi,e⟩:=cu h;rw[b_]at hi;rw[List.getElem_take]at e;exact⟨i,by omega,by omega,by rw[cR (by omega)];exact e⟩
theorem C0{α:Type}[Inhabited α]{l:List α}{i k:Nat}(h:i<k)(hl:i<l.length):gt l i∈l.take k:=by
 have hi:i<(l.take k).length:=by rw[b_];omega
 have e:gt l i=(l.take k)[i]'hi:=by rw[cR hl,List.getElem_take]
 rw[e];exact ce _
theorem AC.lt{ms:List ae}{R:List aj}(h:AC ms R){i j:Nat}(hij:i<j)(hj:j<R.length):(gt R i).1<(gt R j).1:=by have:=List.pairwise_iff_getElem.1 h.Nq i j (by simpa using by omega) (by simpa using hj) hij;rw[gk,gk]at this;rw[cR (by omega),cR hj];exact this
theorem AC.QB{ms:List ae}{R:List aj}(h:AC ms R){i j:Nat}(hi:i<R.length)(hj:j<R.length)(hn:(gt R i).1<(gt R j).1):i<j:=by
 rcases Nat.lt_trichotomy i j with h1|rfl|h1
 .exact h1
 .omega
 .have:=h.lt h1 hi;omega
theorem AC.S9{ms:List ae}{R:List aj}(h:AC ms R){i:Nat}(hi:i<R.length){m:ae}(hm:m∈ms):oO (gt R i) m=true<->m.2.2.2=(gt R i).1:=by
 unfold oO;by_cases e:m.2.2.2=(gt R i).1
 .rw [e,beq_self_eq_true,cond_true];exact⟨fun _=>rfl,fun _=>decide_eq_true (((h.RL i hi).A6 _).2 ⟨m,hm,e,rfl⟩)⟩
 .rw [beq_false_of_ne e,cond_false];exact⟨fun q=>absurd q Bool.false_ne_true,fun q=>absurd q e⟩
theorem AC.l_{ms:List ae}{R:List aj}(h:AC ms R){m:ae}(hm:m∈ms):∃i,i<R.length/\(gt R i).1=m.2.2.2:=by obtain⟨r,hr,e⟩:=List.mem_map.1 ((h.A6 _).2 ⟨m,hm,rfl⟩);obtain⟨i,hi,e2⟩:=F5 hr;exact⟨i,hi,by rw[e2];exact e⟩
theorem AC.any{ms:List ae}{R:List aj}(h:AC ms R){m:ae}(hm:m∈ms):(R.any fun r=>oO r m)=true:=by obtain⟨i,hi,e⟩:=h.l_ hm;exact List.any_eq_true.2 ⟨gt R i,Cy hi,(h.S9 hi hm).2 e.symm⟩
theorem JJ{l:List ae}{P:ae->Bool}{m:ae}(hnd:l.Nodup)(hm:m∈l)(hP:∀x∈l,P x=true<->x=m):(l.filter P).length=1:=by
 have e:l.filter P=l.filter (·==m):=List.filter_congr fun x hx=>by rw[Bool.eq_iff_iff,hP x hx,beq_iff_eq]
 rw[e,<-List.countP_eq_length_filter];have:=List.Nodup.count (a:=m) hnd;rw[if_pos hm]at this;exact this
theorem MO{l:List ae}{P:ae->Bool}(hP:∀x∈l,P x=false):(l.filter P).length=0:=by rw[List.filter_eq_nil_iff.2 fun x hx=>by rw[hP x hx];exact Bool.false_ne_true];rfl
section
variable{t:ah}{old now:Sl (Sl Int)}{R:List aj}{s h:Nat}
theorem uO{m:ae}:m∈cm t old now<->∃h s,h<t.bf.l.length/\s<now.l.length/\c_ now h s≠c_ old h s/\m=((s:Int),(h:Int),c_ now h s,(eR t now h s:Int)):=Li.trans xQ
theorem yS:(cm t old now).Nodup:=((vc _).nodup_iff).2 A1
theorem Lh{m:ae}(hm:m∈cm t old now)(h1:m.1=(s:Int))(h2:m.2.1=(h:Int)):m=((s:Int),(h:Int),c_ now h s,(eR t now h s:Int))/\c_ now h s≠c_ old h s/\s<now.l.length/\h<t.bf.l.length:=by
 obtain⟨h',s',a,b,c,rfl⟩:=uO.1 hm;have e1:s'=s:=by have h1:(s':Int)=(s:Int):=h1;omega
 have e2:h'=h:=by have h2:(h':Int)=(h:Int):=h2;omega
 subst e1 e2;exact⟨rfl,c,b,a⟩
theorem Eb(hR:AC (cm t old now) R){m:ae}(hm:m∈cm t old now):Gl R (s:Int) (h:Int) (c_ now h s) m=true<->m=((s:Int),(h:Int),c_ now h s,(eR t now h s:Int)):=by
 unfold Gl;constructor
 .intro q;cases c:((m.1==(s:Int))&&(m.2.1==(h:Int)))&&(m.2.2.1==c_ now h s)with|false=>rw[c]at q;cases q|true=>simp only[Bool.and_eq_true,beq_iff_eq]at c;exact(Lh hm c.1.1 c.1.2).1
 .intro e;rw[hR.any hm,e];simp
theorem Hx(hR:AC (cm t old now) R)(hs:s<now.l.length)(hh:h<t.bf.l.length){l:List ae}(hsub:∀x∈l,x∈cm t old now)(hnd:l.Nodup)(hl:c_ now h s≠c_ old h s->((s:Int),(h:Int),c_ now h s,(eR t now h s:Int))∈l):sd old now l R s h=false:=by
 unfold sd;by_cases hne:c_ now h s=c_ old h s
 .have e:(gt (gt now.l s).l h !=gt (gt old.l s).l h)=false:=by rw[show gt (gt now.l s).l h=c_ now h s from rfl,show gt (gt old.l s).l h=c_ old h s from rfl,hne];exact bne_self_eq_false _
  rw[e,Bool.false_and]
 .have e:pN R (s:Int) (h:Int) (gt (gt now.l s).l h) l=1:=JJ hnd (hl hne) fun x hx=>Eb hR (hsub x hx);rw[e];have:(((1:Nat):Int) !=1)=false:=rfl;rw[this,Bool.and_false]
theorem A4(hR:AC (cm t old now) R)(r2:∀s,s<now.l.length->(gt now.l s).l.length=t.bf.l.length):xh old now (cm t old now) R 0 now.l.length=[]:=by
 refine dG.2 fun s hs=>dG.2 fun h hh=>?_;rw[ew]at hs hh;have hsl:s<now.l.length:=by omega
 have hhl:h<t.bf.l.length:=by rw[<-r2 s hsl];omega
 rw[Hx hR hsl hhl (fun _ h=>h) yS fun hne=>uO.2 ⟨h,s,hhl,hsl,hne,rfl⟩];rfl
theorem zt(hR:AC (cm t old now) R)(l2:(now.l.length:Int)=t.br):wI t old now (cm t old now) R 0 (cm t old now).length=[]:=by
 refine dG.2 fun k hk=>?_;rw[ew]at hk;have hm:gt (cm t old now) k∈cm t old now:=Cy (by omega);obtain⟨h,s,a,b,c,e⟩:=uO.1 hm
 have hx:oS t old now R (gt (cm t old now) k)=false:=by
  unfold oS;rw[hR.any hm];rw[e];have hB:um t ((s:Int),(h:Int),c_ now h s,(eR t now h s:Int))=true:=vC.2 ⟨⟨by simp,by show(s:Int)<_;omega⟩,by simp,by show(h:Int)<_;omega⟩;have q1:(gt (gt now.l ((s:Int)).toNat).l ((h:Int)).toNat !=c_ now h s)=false:=by rw[eA,eA];exact bne_self_eq_false _
  have q2:(gt (gt old.l ((s:Int)).toNat).l ((h:Int)).toNat==c_ now h s)=false:=by rw[eA,eA];exact beq_false_of_ne fun q=>c q.symm
  rw[hB];show(bif !true then true else bif(gt (gt now.l ((s:Int)).toNat).l ((h:Int)).toNat !=c_ now h s)then true else bif(gt (gt old.l ((s:Int)).toNat).l ((h:Int)).toNat==c_ now h s)then true else !true)=false;rw[q1,q2];rfl
 rw[hx];rfl
theorem Jl(hV:lw t){r:Sl (Sl Int)}(hh:h<t.bf.l.length)(H:zS t r h s):sR t r h s=none:=by unfold sR;cases hc:lZ (oZ (s:Int) (c_ r h s)) t.bW.l 0 with|none=>rfl|some q=>obtain⟨a,b,c⟩:=q;obtain⟨j,l,hl,hj,_⟩:=(KT hV).1 hc;have:=Gk hV (List.mem_of_getElem? hl) (Cy hh) hj.A6;refine absurd ?_ this;unfold Mz;rw[ao,H.1,H.2]
theorem Ba{r:Sl (Sl Int)}(hG:gy t r)(hh:h<t.bf.l.length)(hs:s<r.l.length):uo t h (s:Int) (c_ r h s)=false:=by
 unfold uo;by_cases h0:eR t r h s=0
 .have H:=Bp hG hh hs h0;have e:gt t.bf.l h=(((s:Int),c_ r h s):fU):=Prod.ext H.1 H.2;rw[decide_eq_true e,Bool.not_true,Bool.and_false]
 .obtain ⟨_,s',e1,_⟩:=Bq hG hh hs h0;rcases qO (h:=h) hG.1 s with⟨e2,_⟩|⟨y,b,c,_,_,e2⟩
  .rw [e2]at e1;cases e1
  .rw [e2];rfl
theorem Bb{r:Sl (Sl Int)}(hG:gy t r)(hh:h<t.bf.l.length)(hs:s<r.l.length){a b c:Int}(hp:kT t (s:Int) (c_ r h s)=(a,b,c,true)):∃s':Nat,a=(s':Int)/\s'<r.l.length/\eR t r h s=eR t r h s'+1:=by
 rcases qO (h:=h) hG.1 s with⟨_,e2⟩|⟨y,b',c',e1,hy,e2⟩
 .rw [e2]at hp;cases hp
 .rw [e2]at hp;obtain⟨rfl,_⟩:=Prod.mk.inj hp;by_cases h0:eR t r h s=0
  .rw [Jl hG.1.sJ hh (Bp hG hh hs h0)]at e1;cases e1
  .obtain ⟨_,s',e3,hs',e4⟩:=Bq hG hh hs h0;rw[e3]at e1;obtain rfl:=aa e1;exact⟨s',rfl,hs',e4⟩
theorem IE{r:aj}{x:Int}:∀(mv:List ae)(P:List (Sl Int)),s<P.length->(P.length:Int)=t.br->h<t.bf.l.length->
  x∈(gt (uL t r h mv P) s).l->x∈(gt P s).l\/∃m∈mv,vF r s h m=true/\m.2.2.1=x:=by
 intro mv;induction mv with
 |nil=>intro P _ _ _ hx;exact .inl hx
 |cons m mv ih=>
  intro P hs hA hh hx;have e:=Pb (r:=r) (m:=m) hs hA hh;rcases ih (wW t r h P m) (by rw[tD];exact hs) (by rw[tD];exact hA) hh hx with h1|⟨m',h1,h2,h3⟩
  .rw [e]at h1;cases hm:vF r s h m with
   |true=>
    rw[hm]at h1;rcases List.mem_append.1 h1 with h1|h1
    .exact .inl h1
    .exact .inr ⟨m,List.mem_cons_self,hm,(ao.1 h1).symm⟩
   |false=>rw[hm]at h1;exact .inl h1
  .exact .inr ⟨m',List.mem_cons_of_mem _ h1,h2,h3⟩
theorem KP(hR:AC (cm t old now) R)(l1:(old.l.length:Int)=t.br)(l2:(now.l.length:Int)=t.br)(r1:∀s,s<old.l.length->(gt old.l s).l.length=t.bf.l.length){k:Nat}(hk:k<R.length)(hs:s<old.l.length)(hh:h<t.bf.l.length){x:Int}
  (hx:x∈(gt (kS t (gt R k) h (cm t old now) (Ay t R (cm t old now) old.l k)) s).l):
  (x=c_ old h s/\(gt R k).1<=(eR t now h s:Int))\/(x=c_ now h s/\(eR t now h s:Int)<=(gt R k).1):=by
 have d1:s<(Ay t R (cm t old now) old.l k).length:=by rw[pm];exact hs
 have d2:((Ay t R (cm t old now) old.l k).length:Int)=t.br:=by rw[pm];exact l1
 have hsn:s<now.l.length:=by omega
 rcases IE (cm t old now) _ (by simpa using d1) (by simpa using d2) hh hx with h1|⟨m,h1,h2,h3⟩
 .rw [cR (by simpa using d1)]at h1;simp only[gk,List.getElem_range,Sl.iP,ao]at h1;rcases O6 (rd:=R) (mv:=cm t old now) (A:=old.l) hs l1 hh (r1 s hs) k (by omega)with⟨g1,g2⟩|⟨r,hr,m,g1,g2,g3⟩
  .rw [g1]at h1;have h1:x=c_ old h s:=h1;by_cases hd:(gt R k).1<=(eR t now h s:Int)
   .exact .inl ⟨h1,hd⟩
   .by_cases hne:c_ now h s=c_ old h s
    .exact .inr ⟨h1.trans hne.symm,by omega⟩
    .exfalso;have hm:((s:Int),(h:Int),c_ now h s,(eR t now h s:Int))∈cm t old now:=uO.2 ⟨h,s,hh,hsn,hne,rfl⟩;obtain⟨i,hi,e⟩:=hR.l_ hm;have e:(gt R i).1=(eR t now h s:Int):=e;have hik:i<k:=hR.QB hi hk (by omega);have hA:=zg.2 ⟨⟨rfl,rfl⟩,(hR.S9 hi hm).2 e.symm⟩;rw[g2 _ (C0 hik hi) _ hm]at hA;cases hA
  .rw [g3]at h1;obtain⟨⟨e1,e2⟩,e3⟩:=zg.1 g2;obtain⟨i,hik,hi,e4⟩:=DW hr;have e5:=(Lh g1 e1 e2).1;rw[<-e4,hR.S9 hi g1]at e3;have:=hR.lt hik hk;rw[e5]at h1 e3;have e3:(eR t now h s:Int)=(gt R i).1:=e3;exact .inr ⟨h1,by omega⟩
 .obtain ⟨⟨e1,e2⟩,e3⟩:=zg.1 h2;have e5:=(Lh h1 e1 e2).1;rw[hR.S9 hk h1]at e3;rw[e5]at h3 e3;have e3:(eR t now h s:Int)=(gt R k).1:=e3;exact .inr ⟨h3.symm,by omega⟩
theorem IJ{E:List aQ}{f:Nat->Nat}(hE:∀i j,Ed E i j->f j<f i){g:Nat}:∀{d i:Nat},Ph E g d i->f g+d<=f i:=by intro d i hp;induction hp with|zero=>exact Nat.le_refl _|kM e _ ih=>have:=hE _ _ e;omega
theorem Oj{E:List aQ}{f:Nat->Nat}(hE:∀i j,Ed E i j->f j<f i)(n:Nat):¬Tc n E:=by rintro⟨g,_,d,h1,_,h3⟩;have:=IJ hE h3;omega
theorem w_(hR:AC (cm t old now) R)(hO:gy t old)(hN:gy t now):tO t R (cm t old now) old.l 0 R.length=[]:=by
 have hsw:=hO.1.sJ.sw;have l1:=hO.1.len;have l2:=hN.1.len;have r1:∀s,s<old.l.length->(gt old.l s).l.length=t.bf.l.length:=fun s hs=>hO.1.dl hs;refine dG.2 fun k hk=>dG.2 fun h hh=>?_;rw[ew]at hk hh;have hkl:k<R.length:=by omega
 have hhl:h<t.bf.l.length:=by omega
 have hPl:(kS t (gt R k) h (cm t old now) (Ay t R (cm t old now) old.l k)).length=old.l.length:=by rw[xg,pm]
 have hmay:∀s,s<old.l.length->∀x∈(gt (kS t (gt R k) h (cm t old now) (Ay t R (cm t old now) old.l k)) s).l,_:=fun s hs x hx=>KP hR l1 l2 r1 hkl hs hhl hx;generalize kS t (gt R k) h (cm t old now) (Ay t R (cm t old now) old.l k)=P at hPl hmay|-
 have n1:nU t h P 0 P.length=false:=by
  rw[<-Bool.not_eq_true];intro q;obtain⟨s,hs,q⟩:=List.any_eq_true.1 q;obtain⟨x,hx,q⟩:=List.any_eq_true.1 q;rw[ew]at hs;have hsl:s<old.l.length:=by omega
  rcases hmay s hsl x hx with⟨rfl,_⟩|⟨rfl,_⟩
  .rw [Ba hO hhl hsl]at q;cases q
  .rw [Ba hN hhl (by omega)]at q;cases q
 have n2:yV t P=false:=yf (Oj (f:=fun s=>if(eR t now h s:Int)<(gt R k).1 then eR t now h s else 8+eR t old h s) (fun i j he=>by
  obtain⟨e,he,e1,e2⟩:=he;obtain⟨s,h1,h2⟩:=bU.1 he;obtain⟨x,hx,h3⟩:=bU.1 h2;rw[ew]at h1;have hsl:s<old.l.length:=by omega
  unfold q_ at h3;generalize hq:kT t (s:Int) x=q at h3;obtain⟨a,b,c,d⟩:=q;cases d with
  |false=>cases h3
  |true=>
   obtain rfl:=ao.1 h3;have e1:(s:Int)=(i:Int):=e1;have e2:a=(j:Int):=e2;obtain rfl:s=i:=by omega
   rcases hmay s hsl x hx with⟨rfl,hd⟩|⟨rfl,hd⟩
   .obtain ⟨s',g1,g2,g3⟩:=Bb hO hhl hsl hq;obtain rfl:s'=j:=by omega
    have hl:=hN.lt (h:=h) (s:=s') (by omega) hhl;rw[if_neg (by omega:¬(eR t now h s:Int)<(gt R k).1)];split<;>omega
   .obtain ⟨s',g1,g2,g3⟩:=Bb hN hhl (show s<now.l.length by omega) hq;obtain rfl:s'=j:=by omega
    have hl:=hN.lt (h:=h) (s:=s) (by omega) hhl;rw[if_pos (by omega:(eR t now h s':Int)<(gt R k).1)];split<;>omega) _)
 unfold ze;rw[n1,n2];rfl
end
end Go.Proofs.YthcplpfiidlinaaDoor.J
