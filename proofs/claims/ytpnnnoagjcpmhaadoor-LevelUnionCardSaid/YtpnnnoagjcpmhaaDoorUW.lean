/- Routes: what the program's Walk, Far and Good answer, of routes that are good. Conditions: as stated. -/
import Derived.Test.YtpnnnoagjcpmhaaDoorUR
open Bool renaming eq_iff_iff->cH,not_false->dG,not_true->cg
open Classical renaming byContradiction->fL
open List renaming length_append->aG,length_range->eE,length_singleton->bK,mem_map->cz,mem_of_getElem?->aQ,range->bh
open Option renaming bind_some->ae
open Option.some renaming inj->aa,injEq->bl
open Go.Ev Go
noncomputable section
namespace Go.Proofs.YtpnnnoagjcpmhaaDoor.U
def gk(t:ah)(r:Sl (Sl Int)):Prop:=eV t r/\∀s,s<r.l.length->∀h,h<t.aR.l.length->∃k,gq t r h s k
section
variable{t:ah}{r:Sl (Sl Int)}{h:Nat}
theorem uQ(hS:rS t r):nD t r=some (tt (gk t r)):=by
 unfold nD;simp only[nC hS,ae];by_cases hV:eV t r
 rotate_left
 .rw [decide_eq_false hV,zm fun h=>hV h.1];rfl
 have hsm:=hV.o5;have hho:=hV.rM
 have hin:∀s:Nat,s<r.l.length->bL (jk t r (s:Int)) 0=some (bif tt (∀h,h<t.aR.l.length->∃k,gq t r h s k)then .inr ()else .inl false):=by
  intro s hs
  have h1:=uM (f:=jk t r (s:Int)) (bh t.aR.l.length) (fun _ h=>bif tt (∃k,gq t r h s k)then none else some false) () (by simp;omega) (fun i hi=>by
   have hi:i<t.aR.l.length:=by simpa using hi
   have hg:gt (bh t.aR.l.length) i=i:=by rw[eu (by simpa using hi)];simp
   rw[hg];by_cases hk:∃k,gq t r i s k
   .obtain ⟨k,hk⟩:=hk;obtain⟨l,h2,_⟩:=zC hS hV hi hs hk;rw[CQ ⟨k,hk⟩];simp only[jk,j4 hi,cond_true,h2,ae,bne_self_eq_false,cond_false]
   .obtain ⟨e,h2,h3⟩:=zB hS hV hi hs (fun k hh=>hk ⟨k,hh⟩);have h4:(e !=0)=true:=by simpa using h3
    rw[zm hk];simp only[jk,j4 hi,cond_true,h2,ae,h4,cond_false]) (by simp only[jk,eE,lI,cond_false])
  rw[h1];cases hc:lg (fun _ h=>bif tt (∃k,gq t r h s k)then none else some false) (bh t.aR.l.length) 0 with
  |none=>
   rw[CQ]
   .rfl
   intro h hh;have:=lP.1 hc h h (by simp[hh]);apply fL;intro hn;rw[zm hn]at this;simp at this
  |some b=>
   obtain⟨j,x,h2,h3,_⟩:=kT hc;have hx:x<t.aR.l.length:=by have:=aQ h2;simpa using this
   cases hq:tt (∃k,gq t r x s k)with
   |true=>rw[hq]at h3;simp at h3
   |false=>
    rw[hq]at h3;obtain rfl:false=b:=by simpa using h3
    rw[zm]
    .rfl
    exact fun hall=>vM.1 hq (hall x hx)
 have h1:=uM (f:=l_ t r) (bh r.l.length) (fun _ s=>bif tt (∀h,h<t.aR.l.length->∃k,gq t r h s k)then none else some false) () (by simp;omega) (fun i hi=>by
  have hi:i<r.l.length:=by simpa using hi
  have hg:gt (bh r.l.length) i=i:=by rw[eu (by simpa using hi)];simp
  rw[hg];simp only[l_,j4 hi,cond_true,hin i hi];by_cases hk:∀h,h<t.aR.l.length->∃k,gq t r h i k
  .rw [CQ hk];rfl
  .rw [zm hk];rfl) (by simp only[l_,eE,lI,cond_false])
 rw[decide_eq_true hV];simp only[cg,cond_false,h1];cases hc:lg (fun _ s=>bif tt (∀h,h<t.aR.l.length->∃k,gq t r h s k)then none else some false) (bh r.l.length) 0 with
 |none=>
  rw[CQ]
  .rfl
  .refine ⟨hV,fun s hs=>?_⟩;have:=lP.1 hc s s (by simp[hs]);apply fL;intro hn;rw[zm hn]at this;simp at this
 |some b=>
  obtain⟨j,x,h2,h3,_⟩:=kT hc;have hx:x<r.l.length:=by have:=aQ h2;simpa using this
  cases hq:tt (∀h,h<t.aR.l.length->∃k,gq t r h x k)with
  |true=>rw[hq]at h3;simp at h3
  |false=>
   rw[hq]at h3;obtain rfl:false=b:=by simpa using h3
   rw[zm fun hG=>vM.1 hq (hG.2 x hx)];rfl
def ei(t:ah)(r:Sl (Sl Int))(h s:Nat):Nat:=open Classical in if hk:∃k,gq t r h s k then Classical.choose hk else 0
theorem Fq{s k:Nat}(ha:gq t r h s k):ei t r h s=k:=by
 have hk:∃k,gq t r h s k:=⟨k,ha⟩
 unfold ei;rw[dif_pos hk];exact(Classical.choose_spec hk).K7 ha
theorem gk.ei(hG:gk t r){s:Nat}(hs:s<r.l.length)(hh:h<t.aR.l.length):gq t r h s (ei t r h s):=by obtain⟨k,hk⟩:=hG.2 s hs h hh;rw[Fq hk];exact hk
theorem gk.lt(hG:gk t r){s:Nat}(hs:s<r.l.length)(hh:h<t.aR.l.length):U.ei t r h s<r.l.length:=(hG.ei hs hh).lt hG.1 hs
def qj(t:ah)(r:Sl (Sl Int))(h:Nat):List Int:=(bh r.l.length).map fun s=>(ei t r h s:Int)
theorem ur:(qj t r h).length=r.l.length:=by simp[qj]
theorem J0{s:Nat}(hs:s<r.l.length):gt (qj t r h) s=(ei t r h s:Int):=by rw[eu (by rw[ur];exact hs)];simp[qj]
theorem D5{n:Nat}:((bh (n+1)).map fun s=>(ei t r h s:Int))=((bh n).map fun s=>(ei t r h s:Int))++[(ei t r h n:Int)]:=by rw[List.range_succ,List.map_append];rfl
theorem Fk(hh:h<t.aR.l.length):(((!true)||(decide ((h:Int)<0)))||(decide ((h:Int)>=(t.aR.l.length:Int))))=false:=by simp only[cg,Bool.false_or,Bool.or_eq_false_iff,decide_eq_false_iff_not];omega
theorem yp(hV:eV t r){s:Nat}(hs:s<r.l.length)(hh:h<t.aR.l.length):kI r (s:Int) (h:Int)=some (cK r h s,true):=by
 have h1:decide ((s:Int)<0)=false:=by rw[decide_eq_false_iff_not];omega
 have h2:decide ((s:Int)>=(r.l.length:Int))=false:=by rw[decide_eq_false_iff_not];omega
 have h3:decide ((h:Int)<0)=false:=by rw[decide_eq_false_iff_not];omega
 have hrl:=hV.cC hs;have h4:decide ((h:Int)>=((gt r.l s).l.length:Int))=false:=by rw[decide_eq_false_iff_not];omega
 have hhl:h<(gt r.l s).l.length:=by omega
 simp only[kI,h1,h2,h3,Bool.or_self,cond_false,bP hs,ae,h4,bP hhl,cK]
theorem F6(hV:eV t r)(hh:h<t.aR.l.length){s:Nat}(hs:s<r.l.length):
  lT t r (s:Int) (h:Int)=some ((kV t s (cK r h s)).1,(kV t s (cK r h s)).2.2.2):=by
 have hlk:=hV.rZ.BK;simp only[lT,yp hV hs hh,ae,cg,cond_false,Gb _ _ (show t.aW.l.length<9223372036854775808 by omega)]
def hC(l:List Nat):List Int:=l.map fun(x:Nat)=>(x:Int)
theorem nn(l:List Nat):(hC l).length=l.length:=by simp[hC]
theorem wP(l:List Nat)(i:Nat):gt (hC l) i=((gt l i:Nat):Int):=by simp only[gt,hC,List.getD_eq_getElem?_getD,List.getElem?_map];cases l[i]?<;>rfl
theorem GJ{l:List Nat}{k:Nat}:(k:Int)∈hC l<->k∈l:=by simp only[hC,cz];exact⟨fun⟨y,hy,e⟩=>by rw[show k=y by omega];exact hy,fun h=>⟨k,h,rfl⟩⟩
theorem GK(l:List Nat)(k:Nat):hC l++[(k:Int)]=hC (l++[k]):=by simp[hC]
theorem oS{s:Sl Int}(x:Int)(hb:s.l.length<9223372036854775808):c8 s x=some (decide (x∈s.l)):=by
 have h:=uM (f:=fh s x) s.l (fun i y=>if x=y then some (i:Int)else none) () hb (fun i hi=>by
  have e:(x==gt s.l i)=decide (x=gt s.l i):=by rw[cH];simp
  simp only[fh,j4 hi,cond_true,bP hi,ae,e];by_cases hc:x=gt s.l i
  .rw [if_pos hc,decide_eq_true hc];rfl
  .rw [if_neg hc,decide_eq_false hc];rfl) (by simp only[fh,lI,cond_false])
 simp only[c8,gb,h,ae];cases hs:lg (fun i y=>if x=y then some (i:Int)else none) s.l 0 with
 |none=>
  have hn:x∉s.l:=by intro hx;obtain⟨j,hj,e⟩:=List.getElem_of_mem hx;have:=lP.1 hs j s.l[j] (by simp[hj]);rw[if_pos e.symm]at this;simp at this
  rw[decide_eq_false hn];rfl
 |some b=>
  obtain⟨j,y,h1,h2,_⟩:=kT hs;split at h2
  .rename_i hx;obtain rfl:=aa h2;rw[decide_eq_true (by rw[hx];exact aQ h1)];simp only[ae,bl,decide_eq_true_eq];omega
  .simp at h2
theorem vH{l:List Nat}{x:Nat}(hb:l.length<1000000):gp (.mk (hC (l++[x])))=some (decide (x∈l)):=by
 have main:∀s:Sl Int,s=.mk (hC (l++[x]))->gp s=some (decide (x∈l)):=by
  intro s hs;have hsl:s.l=hC (l++[x]):=by rw[hs];rfl
  have hlen:s.l.length=l.length+1:=by rw[hsl,nn];simp
  have h0:decide ((s.l.length:Int)>0)=true:=by rw[decide_eq_true_eq];omega
  have hw:wr .i64 ((s.l.length:Int)-1)=(l.length:Int):=by rw[hlen,uH (by omega) (by omega)];omega
  have hcut:rF s.l 0 (l.length:Int)=some (hC l):=by rw[nq];refine⟨⟨Int.le_refl _,by omega,by omega⟩,?_⟩;rw[hsl];simp[hC]
  have hi:l.length<s.l.length:=by omega
  have hg:gt s.l l.length=(x:Int):=by rw[hsl,wP,eu (by simp)];simp
  have hto:s.to (hC l)=.mk (hC l):=by rw[hs];rfl
  have hc:=oS (s:=.mk (hC l)) (x:Int) (by rw[Sl.m8,nn];omega);have hm:decide ((x:Int)∈(Sl.mk (hC l)).l)=decide (x∈l):=by rw[cH,decide_eq_true_eq,decide_eq_true_eq];exact GJ
  rw[hm]at hc;simp only[gp,h0,cond_true,hw,hcut,ae,bP hi,hto,hg,hc]
 exact main _ rfl
theorem BT(s:Nat):decide ((gt t.aR.l h)=(⟨(s:Int),cK r h s⟩:dl))=decide (qq t r h s):=by rw[cH,decide_eq_true_eq,decide_eq_true_eq (p:=qq t r h s)];unfold qq;generalize gt t.aR.l h=x;obtain⟨a,b⟩:=x;exact Prod.mk.injEq ..▸Iff.rfl
theorem Jr{o:List Nat}{k:Nat}:gt (o++[k]) o.length=k:=by rw[eu (by simp)];simp
theorem HF(hV:eV t r)(hh:h<t.aR.l.length):∀(m:Nat)(l:List Nat)(x:Nat),x<r.l.length->(∀y∈l,∃j,m<j/\gq t r h y j)->gq t r h x m->l.length+m<1000->
  ∃w:List Int,bL (iz t r (h:Int)) (.mk (hC (l++[x])))=some (.inl (0,.mk w))/\w.length=l.length+m+1:=by
 intro m;induction m with
 |zero=>
  intro l x hx hl ha hb;have hno:x∉l:=fun hm=>by obtain⟨j,h1,h2⟩:=hl x hm;have:=h2.K7 ha;omega
  have htw:=vH (l:=l) (x:=x) (by omega);rw[decide_eq_false hno]at htw;have hlen:(Sl.mk (hC (l++[x]))).l.length=l.length+1:=by rw[Sl.m8,nn];simp
  have hw:wr .i64 (((Sl.mk (hC (l++[x]))).l.length:Int)-1)=(l.length:Int):=by rw[hlen,uH (by omega) (by omega)];omega
  have hi:l.length<(Sl.mk (hC (l++[x]))).l.length:=by omega
  have hg:gt (Sl.mk (hC (l++[x]))).l l.length=(x:Int):=by rw[Sl.m8,wP,Jr]
  have hhr:h<(gt r.l x).l.length:=by rw[hV.cC hx];exact hh
  have hport:gt (gt r.l x).l h=cK r h x:=rfl;cases ha with|wQ hH=>refine⟨_,cS (by simp only[iz,htw,ae,dG,cond_true,hw,bP hi,bP hh,hg,bP hx,bP hhr,hport,BT,decide_eq_true hH];rfl),by rw[nn];simp⟩
 |succ m ih=>
  intro l x hx hl ha hb;have hno:x∉l:=fun hm=>by obtain⟨j,h1,h2⟩:=hl x hm;have:=h2.K7 ha;omega
  have htw:=vH (l:=l) (x:=x) (by omega);rw[decide_eq_false hno]at htw;have hlen:(Sl.mk (hC (l++[x]))).l.length=l.length+1:=by rw[Sl.m8,nn];simp
  have hw:wr .i64 (((Sl.mk (hC (l++[x]))).l.length:Int)-1)=(l.length:Int):=by rw[hlen,uH (by omega) (by omega)];omega
  have hi:l.length<(Sl.mk (hC (l++[x]))).l.length:=by omega
  have hg:gt (Sl.mk (hC (l++[x]))).l l.length=(x:Int):=by rw[Sl.m8,wP,Jr]
  have hhr:h<(gt r.l x).l.length:=by rw[hV.cC hx];exact hh
  have hport:gt (gt r.l x).l h=cK r h x:=rfl;have ha0:=ha;cases ha with
  |@iD _ y _ hH hn ha'=>
   rcases o_ (h:=h) hV x with⟨e1,_⟩|⟨y',b,c,e1,hy,e2⟩
   .rw [e1]at hn;cases hn
   .rw [e1]at hn;obtain rfl:=aa hn
    obtain⟨w,h1,h2⟩:=ih (l++[x]) y' hy (fun z hz=>by
     rcases List.mem_append.1 hz with hz|hz
     .obtain ⟨j,q1,q2⟩:=hl z hz;exact⟨j,by omega,q2⟩
     .obtain rfl:=List.mem_singleton.1 hz;exact⟨m+1,by omega,ha0⟩) ha' (by rw[aG,bK];omega)
    refine⟨w,?_,by rw[h2,aG,bK];omega⟩;rw[dV (a':=.mk (hC (l++[x]++[y'])))]
    .exact h1
    .have hcap:jT ((Sl.mk (hC (l++[x]))).l++[(y':Int)])=some (hC (l++[x]++[y'])):=by rw[Sl.m8,jt (by rw[aG,nn];simp;omega),GK]
     simp only[iz,htw,ae,dG,cond_true,hw,bP hi,bP hh,hg,bP hx,bP hhr,hport,BT,decide_eq_false hH,cond_false,F6 hV hh hx,e2,cg,hcap]
theorem pM(hV:eV t r):gL t r=some true:=by have hsm:=hV.o5;rw[A8 (by omega) (fun cC hm=>by have:=(hV.aj cC hm).1;have:=hV.rZ.rM;omega),decide_eq_true hV]
theorem FF(hV:eV t r)(hh:h<t.aR.l.length){s k:Nat}(hs:s<r.l.length)(ha:gq t r h s k):∃w:List Int,lR t r (s:Int) (h:Int)=some (.mk w,0)/\w.length=k+1:=by have hk:=ha.lt hV hs;have hsm:=hV.o5;obtain⟨w,h1,h2⟩:=HF hV hh k [] s hs (fun y hy=>by simp at hy) ha (by simp;omega);have h1:bL (iz t r (h:Int)) (.mk [(s:Int)])=_:=h1;exact⟨w,by simp only[lR,yp hV hs hh,pM hV,ae,cg,cond_false,h1],by simpa using h2⟩
theorem Fj(hG:gk t r)(hh:h<t.aR.l.length)(hn:0<r.l.length):lU t r (h:Int)=some (.mk (qj t r h)):=by
 have hsm:=hG.1.o5
 have main:∀(d i:Nat),i+d=r.l.length->∀s:Sl Int,s.l=((bh i).map fun s=>(ei t r h s:Int))->(0<i\/0<d)->(0<i->s=.mk s.l)->bL (iY t r (h:Int)) ((i:Int),s)=some (.mk (qj t r h)):=by
  intro d;induction d with
  |zero=>
   intro i hi s hs hp hmk;obtain rfl:i=r.l.length:=by omega
   rw[cS (b:=s) (by simp only[iY,lI,cond_false]),hmk (by omega),hs];rfl
  |succ d ih=>
   intro i hi s hs hp hmk;have hlt:i<r.l.length:=by omega
   have ha:=hG.ei hlt hh;have hb:=hG.lt hlt hh;obtain⟨l,h1,h2⟩:=FF hG.1 hh hlt ha;have hw:wr .i64 (((Sl.mk l).l.length:Int)-1)=(ei t r h i:Int):=by rw[Sl.m8,h2,uH (by omega) (by omega)];omega
   have hsl:s.l.length=i:=by rw[hs];simp
   rw[dV (a':=(((i+1:Nat):Int),.mk (s.l++[(ei t r h i:Int)]))) (by simp only[iY,j4 hlt,cond_true,h1,ae,hw,jt (show(s.l++[(ei t r h i:Int)]).length<=2147483648 by rw[aG,bK];omega),oE (show i<9223372036854775807 by omega)])];exact ih (i+1) (by omega) _ (by rw[Sl.m8,hs,D5]) (.inl (by omega)) (fun _=>rfl)
 have h1:bL (iY t r (h:Int)) (0,Sl.nil)=_:=main r.l.length 0 (by omega) .nil rfl (.inr hn) (fun h=>by omega);simp only[lU,pM hG.1,ae,Fk hh,cond_false,h1]
theorem gk.RX(hG:gk t r):0<r.l.length:=by have:=hG.1.len;have:=hG.1.rZ.sw;omega
theorem BV(hG:gk t r):kJ t r=some true:=by
 have hsm:=hG.1.o5;have hho:=hG.1.rM
 have h1:=uM (f:=jj t r) (β:=Bool) (γ:=Unit) (bh t.aR.l.length) (fun _ _=>none) () (by simp;omega) (fun i hi=>by
  have hi:i<t.aR.l.length:=by simpa using hi
  have hno:(-1:Int)∉(Sl.mk (qj t r i)).l:=fun hm=>by obtain⟨s,_,e⟩:=cz.1 hm;omega
  have hc:=oS (s:=.mk (qj t r i)) (-1) (by rw[Sl.m8,ur];omega);rw[decide_eq_false hno]at hc;simp only[jj,j4 hi,cond_true,Fj hG hi hG.RX,ae,hc,cond_false]) (by simp only[jj,eE,lI,cond_false])
 have h2:lg (β:=Bool) (fun(_ _:Nat)=>none) (bh t.aR.l.length) 0=none:=lP.2 fun _ _ _=>rfl;rw[h2]at h1;simp only[kJ,pM hG.1,ae,cg,cond_false,h1]
end
end Go.Proofs.YtpnnnoagjcpmhaaDoor.U
