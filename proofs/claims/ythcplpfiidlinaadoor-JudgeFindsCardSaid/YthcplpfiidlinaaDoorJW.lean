/- Routes: what the program's Walk, Far and r_ answer, of routes that are good. Conditions: as stated. -/
import Derived.Test.YthcplpfiidlinaaDoorJR
open Go.Ev Go
noncomputable section
open Bool renaming eq_iff_iff->dq,not_false->eI,not_true->ce
open List renaming length_append->av,length_singleton->bo,mem_map->ci,range->aK
open Option renaming bind_some->af
open Option.some renaming inj->aa,injEq->bl
namespace Go.Proofs.YthcplpfiidlinaaDoor.J
def gx(t:ah)(r:Sl (Sl Int)):Prop:=jk t r/\∀s,s<r.l.length->∀h,h<t.bd.l.length->∃k,iY t r h s k
section
variable{t:ah}{r:Sl (Sl Int)}{h:Nat}
def eH(t:ah)(r:Sl (Sl Int))(h s:Nat):Nat:=open Classical in if hk:∃k,iY t r h s k then Classical.choose hk else 0
theorem B3{s k:Nat}(ha:iY t r h s k):eH t r h s=k:=by
 have hk:∃k,iY t r h s k:=⟨k,ha⟩
 unfold eH;rw[dif_pos hk];exact(Classical.choose_spec hk).Np ha
theorem gx.eH(hG:gx t r){s:Nat}(hs:s<r.l.length)(hh:h<t.bd.l.length):iY t r h s (eH t r h s):=by obtain⟨k,hk⟩:=hG.2 s hs h hh;rw[B3 hk];exact hk
theorem gx.lt(hG:gx t r){s:Nat}(hs:s<r.l.length)(hh:h<t.bd.l.length):J.eH t r h s<r.l.length:=(hG.eH hs hh).lt hG.1 hs
def rQ(t:ah)(r:Sl (Sl Int))(h:Nat):List Int:=(aK r.l.length).map fun s=>(eH t r h s:Int)
theorem wy:(rQ t r h).length=r.l.length:=by simp[rQ]
theorem Mr{s:Nat}(hs:s<r.l.length):gt (rQ t r h) s=(eH t r h s:Int):=by rw[cP (by rw[wy];exact hs)];simp[rQ]
theorem Gj{n:Nat}:((aK (n+1)).map fun s=>(eH t r h s:Int))=((aK n).map fun s=>(eH t r h s:Int))++[(eH t r h n:Int)]:=by rw[List.range_succ,List.map_append];rfl
theorem Hx(hh:h<t.bd.l.length):(((!true)||(decide ((h:Int)<0)))||(decide ((h:Int)>=(t.bd.l.length:Int))))=false:=by simp only[ce,Bool.false_or,Bool.or_eq_false_iff,decide_eq_false_iff_not];omega
theorem tn(hV:jk t r){s:Nat}(hs:s<r.l.length)(hh:h<t.bd.l.length):mo r (s:Int) (h:Int)=some (c9 r h s,true):=by
 have h1:decide ((s:Int)<0)=false:=by rw[decide_eq_false_iff_not];omega
 have h2:decide ((s:Int)>=(r.l.length:Int))=false:=by rw[decide_eq_false_iff_not];omega
 have h3:decide ((h:Int)<0)=false:=by rw[decide_eq_false_iff_not];omega
 have hrl:=hV.dj hs;have h4:decide ((h:Int)>=((gt r.l s).l.length:Int))=false:=by rw[decide_eq_false_iff_not];omega
 have hhl:h<(gt r.l s).l.length:=by omega
 simp only[mo,h1,h2,h3,Bool.or_self,cond_false,bp hs,af,h4,bp hhl,c9]
theorem vY(hV:jk t r)(hh:h<t.bd.l.length){s:Nat}(hs:s<r.l.length):
  nG t r (s:Int) (h:Int)=some ((kN t s (c9 r h s)).1,(kN t s (c9 r h s)).2.2.2):=by
 have hlk:=hV.tR.Hl;simp only[nG,tn hV hs hh,af,ce,cond_false,AD _ _ (show t.bU.l.length<9223372036854775808 by omega)]
def gB(l:List Nat):List Int:=l.map fun(x:Nat)=>(x:Int)
theorem mE(l:List Nat):(gB l).length=l.length:=by simp[gB]
theorem vj(l:List Nat)(i:Nat):gt (gB l) i=((gt l i:Nat):Int):=by simp only[gt,gB,List.getD_eq_getElem?_getD,List.getElem?_map];cases l[i]?<;>rfl
theorem I3{l:List Nat}{k:Nat}:(k:Int)∈gB l<->k∈l:=by simp only[gB,ci];exact⟨fun⟨y,hy,e⟩=>by rw[show k=y by omega];exact hy,fun h=>⟨k,h,rfl⟩⟩
theorem AO(l:List Nat)(k:Nat):gB l++[(k:Int)]=gB (l++[k]):=by simp[gB]
theorem l_{s:Sl Int}(x:Int)(hb:s.l.length<9223372036854775808):cN s x=some (decide (x∈s.l)):=by
 have h:=wP (f:=f_ s x) s.l (fun i y=>if x=y then some (i:Int)else none) () hb (fun i hi=>by
  have e:(x==gt s.l i)=decide (x=gt s.l i):=by rw[dq];simp
  simp only[f_,js hi,cond_true,bp hi,af,e];by_cases hc:x=gt s.l i
  .rw [if_pos hc,decide_eq_true hc];rfl
  .rw [if_neg hc,decide_eq_false hc];rfl) (by simp only[f_,kH,cond_false])
 simp only[cN,hC,h,af];cases hs:lT (fun i y=>if x=y then some (i:Int)else none) s.l 0 with
 |none=>
  have hn:x∉s.l:=by intro hx;obtain⟨j,hj,e⟩:=List.getElem_of_mem hx;have:=nD.1 hs j s.l[j] (by simp[hj]);rw[if_pos e.symm]at this;simp at this
  rw[decide_eq_false hn];rfl
 |some b=>
  obtain⟨j,y,h1,h2,_⟩:=nC hs;split at h2
  .rename_i hx;obtain rfl:=aa h2;rw[decide_eq_true (by rw[hx];exact List.mem_of_getElem? h1)];simp only[af,bl,decide_eq_true_eq];omega
  .simp at h2
theorem uj{l:List Nat}{x:Nat}(hb:l.length<1000000):iq (.mk (gB (l++[x])))=some (decide (x∈l)):=by
 have main:∀s:Sl Int,s=.mk (gB (l++[x]))->iq s=some (decide (x∈l)):=by
  intro s hs;have hsl:s.l=gB (l++[x]):=by rw[hs];rfl
  have hlen:s.l.length=l.length+1:=by rw[hsl,mE];simp
  have h0:decide ((s.l.length:Int)>0)=true:=by rw[decide_eq_true_eq];omega
  have hw:wr .i64 ((s.l.length:Int)-1)=(l.length:Int):=by rw[hlen,ie (by omega) (by omega)];omega
  have hcut:qr s.l 0 (l.length:Int)=some (gB l):=by rw[nT];refine⟨⟨Int.le_refl _,by omega,by omega⟩,?_⟩;rw[hsl];simp[gB]
  have hi:l.length<s.l.length:=by omega
  have hg:gt s.l l.length=(x:Int):=by rw[hsl,vj,cP (by simp)];simp
  have hto:s.to (gB l)=.mk (gB l):=by rw[hs];rfl
  have hc:=l_ (s:=.mk (gB l)) (x:Int) (by rw[Sl.iM,mE];omega);have hm:decide ((x:Int)∈(Sl.mk (gB l)).l)=decide (x∈l):=by rw[dq,decide_eq_true_eq,decide_eq_true_eq];exact I3
  rw[hm]at hc;simp only[iq,h0,cond_true,hw,hcut,af,bp hi,hto,hg,hc]
 exact main _ rfl
theorem vk(s:Nat):decide ((gt t.bd.l h)=(⟨(s:Int),c9 r h s⟩:fQ))=decide (zA t r h s):=by rw[dq,decide_eq_true_eq,decide_eq_true_eq (p:=zA t r h s)];unfold zA;generalize gt t.bd.l h=x;obtain⟨a,b⟩:=x;exact Prod.mk.injEq ..▸Iff.rfl
theorem F7{o:List Nat}{k:Nat}:gt (o++[k]) o.length=k:=by rw[cP (by simp)];simp
theorem J1(hV:jk t r)(hh:h<t.bd.l.length):∀(m:Nat)(l:List Nat)(x:Nat),x<r.l.length->(∀y∈l,∃j,m<j/\iY t r h y j)->iY t r h x m->l.length+m<1000->
  ∃w:List Int,bD (dX t r (h:Int)) (.mk (gB (l++[x])))=some (.inl (0,.mk w))/\w.length=l.length+m+1:=by
 intro m;induction m with
 |zero=>
  intro l x hx hl ha hb;have hno:x∉l:=fun hm=>by obtain⟨j,h1,h2⟩:=hl x hm;have:=h2.Np ha;omega
  have htw:=uj (l:=l) (x:=x) (by omega);rw[decide_eq_false hno]at htw;have hlen:(Sl.mk (gB (l++[x]))).l.length=l.length+1:=by rw[Sl.iM,mE];simp
  have hw:wr .i64 (((Sl.mk (gB (l++[x]))).l.length:Int)-1)=(l.length:Int):=by rw[hlen,ie (by omega) (by omega)];omega
  have hi:l.length<(Sl.mk (gB (l++[x]))).l.length:=by omega
  have hg:gt (Sl.mk (gB (l++[x]))).l l.length=(x:Int):=by rw[Sl.iM,vj,F7]
  have hhr:h<(gt r.l x).l.length:=by rw[hV.dj hx];exact hh
  have hport:gt (gt r.l x).l h=c9 r h x:=rfl;cases ha with|BU hH=>refine⟨_,cA (by simp only[dX,htw,af,eI,cond_true,hw,bp hi,bp hh,hg,bp hx,bp hhr,hport,vk,decide_eq_true hH];rfl),by rw[mE];simp⟩
 |succ m ih=>
  intro l x hx hl ha hb;have hno:x∉l:=fun hm=>by obtain⟨j,h1,h2⟩:=hl x hm;have:=h2.Np ha;omega
  have htw:=uj (l:=l) (x:=x) (by omega);rw[decide_eq_false hno]at htw;have hlen:(Sl.mk (gB (l++[x]))).l.length=l.length+1:=by rw[Sl.iM,mE];simp
  have hw:wr .i64 (((Sl.mk (gB (l++[x]))).l.length:Int)-1)=(l.length:Int):=by rw[hlen,ie (by omega) (by omega)];omega
  have hi:l.length<(Sl.mk (gB (l++[x]))).l.length:=by omega
  have hg:gt (Sl.mk (gB (l++[x]))).l l.length=(x:Int):=by rw[Sl.iM,vj,F7]
  have hhr:h<(gt r.l x).l.length:=by rw[hV.dj hx];exact hh
  have hport:gt (gt r.l x).l h=c9 r h x:=rfl;have ha0:=ha;cases ha with
  |@kF _ y _ hH hn ha'=>
   rcases qB (h:=h) hV x with⟨e1,_⟩|⟨y',b,c,e1,hy,e2⟩
   .rw [e1]at hn;cases hn
   .rw [e1]at hn;obtain rfl:=aa hn
    obtain⟨w,h1,h2⟩:=ih (l++[x]) y' hy (fun z hz=>by
     rcases List.mem_append.1 hz with hz|hz
     .obtain ⟨j,q1,q2⟩:=hl z hz;exact⟨j,by omega,q2⟩
     .obtain rfl:=List.mem_singleton.1 hz;exact⟨m+1,by omega,ha0⟩) ha' (by rw[av,bo];omega)
    refine⟨w,?_,by rw[h2,av,bo];omega⟩;rw[dl (a':=.mk (gB (l++[x]++[y'])))]
    .exact h1
    .have hcap:iF ((Sl.mk (gB (l++[x]))).l++[(y':Int)])=some (gB (l++[x]++[y'])):=by rw[Sl.iM,ij (by rw[av,mE];simp;omega),AO]
     simp only[dX,htw,af,eI,cond_true,hw,bp hi,bp hh,hg,bp hx,bp hhr,hport,vk,decide_eq_false hH,cond_false,vY hV hh hx,e2,ce,hcap]
theorem mn(hV:jk t r):jr t r=some true:=by have hsm:=hV.su;rw[wQ (by omega) (fun dj hm=>by have:=(hV.ao dj hm).1;have:=hV.tR.rO;omega),decide_eq_true hV]
theorem Al(hV:jk t r)(hh:h<t.bd.l.length){s k:Nat}(hs:s<r.l.length)(ha:iY t r h s k):∃w:List Int,jA t r (s:Int) (h:Int)=some (.mk w,0)/\w.length=k+1:=by have hk:=ha.lt hV hs;have hsm:=hV.su;obtain⟨w,h1,h2⟩:=J1 hV hh k [] s hs (fun y hy=>by simp at hy) ha (by simp;omega);have h1:bD (dX t r (h:Int)) (.mk [(s:Int)])=_:=h1;exact⟨w,by simp only[jA,tn hV hs hh,mn hV,af,ce,cond_false,h1],by simpa using h2⟩
theorem Hw(hG:gx t r)(hh:h<t.bd.l.length)(hn:0<r.l.length):lw t r (h:Int)=some (.mk (rQ t r h)):=by
 have hsm:=hG.1.su
 have main:∀(d i:Nat),i+d=r.l.length->∀s:Sl Int,s.l=((aK i).map fun s=>(eH t r h s:Int))->(0<i\/0<d)->(0<i->s=.mk s.l)->bD (gz t r (h:Int)) ((i:Int),s)=some (.mk (rQ t r h)):=by
  intro d;induction d with
  |zero=>
   intro i hi s hs hp hmk;obtain rfl:i=r.l.length:=by omega
   rw[cA (b:=s) (by simp only[gz,kH,cond_false]),hmk (by omega),hs];rfl
  |succ d ih=>
   intro i hi s hs hp hmk;have hlt:i<r.l.length:=by omega
   have ha:=hG.eH hlt hh;have hb:=hG.lt hlt hh;obtain⟨l,h1,h2⟩:=Al hG.1 hh hlt ha;have hw:wr .i64 (((Sl.mk l).l.length:Int)-1)=(eH t r h i:Int):=by rw[Sl.iM,h2,ie (by omega) (by omega)];omega
   have hsl:s.l.length=i:=by rw[hs];simp
   rw[dl (a':=(((i+1:Nat):Int),.mk (s.l++[(eH t r h i:Int)]))) (by simp only[gz,js hlt,cond_true,h1,af,hw,ij (show(s.l++[(eH t r h i:Int)]).length<=2147483648 by rw[av,bo];omega),kY (show i<9223372036854775807 by omega)])];exact ih (i+1) (by omega) _ (by rw[Sl.iM,hs,Gj]) (.inl (by omega)) (fun _=>rfl)
 have h1:bD (gz t r (h:Int)) (0,Sl.nil)=_:=main r.l.length 0 (by omega) .nil rfl (.inr hn) (fun h=>by omega);simp only[lw,mn hG.1,af,Hx hh,cond_false,h1]
theorem gx.UT(hG:gx t r):0<r.l.length:=by have:=hG.1.len;have:=hG.1.tR.sw;omega
theorem yV(hG:gx t r):ir t r=some true:=by
 have hsm:=hG.1.su;have hho:=hG.1.rO
 have h1:=wP (f:=gW t r) (β:=Bool) (γ:=Unit) (aK t.bd.l.length) (fun _ _=>none) () (by simp;omega) (fun i hi=>by
  have hi:i<t.bd.l.length:=by simpa using hi
  have hno:(-1:Int)∉(Sl.mk (rQ t r i)).l:=fun hm=>by obtain⟨s,_,e⟩:=ci.1 hm;omega
  have hc:=l_ (s:=.mk (rQ t r i)) (-1) (by rw[Sl.iM,wy];omega);rw[decide_eq_false hno]at hc;simp only[gW,js hi,cond_true,Hw hG hi hG.UT,af,hc,cond_false]) (by simp only[gW,List.length_range,kH,cond_false])
 have h2:lT (β:=Bool) (fun(_ _:Nat)=>none) (aK t.bd.l.length) 0=none:=nD.2 fun _ _ _=>rfl;rw[h2]at h1;simp only[ir,mn hG.1,af,ce,cond_false,h1]
end
end Go.Proofs.YthcplpfiidlinaaDoor.J
