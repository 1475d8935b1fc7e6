/- Routes: what the program's Walk, Far and sq answer, of routes that are good. Conditions: as stated. -/
import Derived.Test.YthcplpfiidlinaaDoorJR
open Go.Ev Go
noncomputable section
open Bool renaming eq_iff_iff->du,not_false->eO,not_true->ce
open List renaming length_append->av,length_singleton->bo,mem_map->ci,range->aL
open Option renaming bind_some->af
open Option.some renaming inj->aa,injEq->bm
namespace Go.Proofs.YthcplpfiidlinaaDoor.J
def gy(t:ah)(r:Sl (Sl Int)):Prop:=jl t r/\∀s,s<r.l.length->∀h,h<t.bf.l.length->∃k,iZ t r h s k
section
variable{t:ah}{r:Sl (Sl Int)}{h:Nat}
def eN(t:ah)(r:Sl (Sl Int))(h s:Nat):Nat:=open Classical in if hk:∃k,iZ t r h s k then Classical.choose hk else 0
theorem Cd{s k:Nat}(ha:iZ t r h s k):eN t r h s=k:=by
 have hk:∃k,iZ t r h s k:=⟨k,ha⟩
 unfold eN;rw[dif_pos hk];exact(Classical.choose_spec hk).NA ha
theorem gy.eN(hG:gy t r){s:Nat}(hs:s<r.l.length)(hh:h<t.bf.l.length):iZ t r h s (eN t r h s):=by obtain⟨k,hk⟩:=hG.2 s hs h hh;rw[Cd hk];exact hk
theorem gy.lt(hG:gy t r){s:Nat}(hs:s<r.l.length)(hh:h<t.bf.l.length):J.eN t r h s<r.l.length:=(hG.eN hs hh).lt hG.1 hs
def rZ(t:ah)(r:Sl (Sl Int))(h:Nat):List Int:=(aL r.l.length).map fun s=>(eN t r h s:Int)
theorem wH:(rZ t r h).length=r.l.length:=by simp[rZ]
theorem My{s:Nat}(hs:s<r.l.length):gt (rZ t r h) s=(eN t r h s:Int):=by rw[cQ (by rw[wH];exact hs)];simp[rZ]
theorem Gx{n:Nat}:((aL (n+1)).map fun s=>(eN t r h s:Int))=((aL n).map fun s=>(eN t r h s:Int))++[(eN t r h n:Int)]:=by rw[List.range_succ,List.map_append];rfl
theorem HF(hh:h<t.bf.l.length):(((!true)||(decide ((h:Int)<0)))||(decide ((h:Int)>=(t.bf.l.length:Int))))=false:=by simp only[ce,Bool.false_or,Bool.or_eq_false_iff,decide_eq_false_iff_not];omega
theorem tH(hV:jl t r){s:Nat}(hs:s<r.l.length)(hh:h<t.bf.l.length):mz r (s:Int) (h:Int)=some (c9 r h s,true):=by
 have h1:decide ((s:Int)<0)=false:=by rw[decide_eq_false_iff_not];omega
 have h2:decide ((s:Int)>=(r.l.length:Int))=false:=by rw[decide_eq_false_iff_not];omega
 have h3:decide ((h:Int)<0)=false:=by rw[decide_eq_false_iff_not];omega
 have hrl:=hV.dj hs;have h4:decide ((h:Int)>=((gt r.l s).l.length:Int))=false:=by rw[decide_eq_false_iff_not];omega
 have hhl:h<(gt r.l s).l.length:=by omega
 simp only[mz,h1,h2,h3,Bool.or_self,cond_false,bp hs,af,h4,bp hhl,c9]
theorem wg(hV:jl t r)(hh:h<t.bf.l.length){s:Nat}(hs:s<r.l.length):
  nJ t r (s:Int) (h:Int)=some ((kQ t s (c9 r h s)).1,(kQ t s (c9 r h s)).2.2.2):=by
 have hlk:=hV.t7.Hv;simp only[nJ,tH hV hs hh,af,ce,cond_false,AN _ _ (show t.bU.l.length<9223372036854775808 by omega)]
def gC(l:List Nat):List Int:=l.map fun(x:Nat)=>(x:Int)
theorem mK(l:List Nat):(gC l).length=l.length:=by simp[gC]
theorem vy(l:List Nat)(i:Nat):gt (gC l) i=((gt l i:Nat):Int):=by simp only[gt,gC,List.getD_eq_getElem?_getD,List.getElem?_map];cases l[i]?<;>rfl
theorem Ja{l:List Nat}{k:Nat}:(k:Int)∈gC l<->k∈l:=by simp only[gC,ci];exact⟨fun⟨y,hy,e⟩=>by rw[show k=y by omega];exact hy,fun h=>⟨k,h,rfl⟩⟩
theorem AZ(l:List Nat)(k:Nat):gC l++[(k:Int)]=gC (l++[k]):=by simp[gC]
theorem me{s:Sl Int}(x:Int)(hb:s.l.length<9223372036854775808):cN s x=some (decide (x∈s.l)):=by
 have h:=wX (f:=ge s x) s.l (fun i y=>if x=y then some (i:Int)else none) () hb (fun i hi=>by
  have e:(x==gt s.l i)=decide (x=gt s.l i):=by rw[du];simp
  simp only[ge,jt hi,cond_true,bp hi,af,e];by_cases hc:x=gt s.l i
  .rw [if_pos hc,decide_eq_true hc];rfl
  .rw [if_neg hc,decide_eq_false hc];rfl) (by simp only[ge,kL,cond_false])
 simp only[cN,h_,h,af];cases hs:lW (fun i y=>if x=y then some (i:Int)else none) s.l 0 with
 |none=>
  have hn:x∉s.l:=by intro hx;obtain⟨j,hj,e⟩:=List.getElem_of_mem hx;have:=nG.1 hs j s.l[j] (by simp[hj]);rw[if_pos e.symm]at this;simp at this
  rw[decide_eq_false hn];rfl
 |some b=>
  obtain⟨j,y,h1,h2,_⟩:=nF hs;split at h2
  .rename_i hx;obtain rfl:=aa h2;rw[decide_eq_true (by rw[hx];exact List.mem_of_getElem? h1)];simp only[af,bm,decide_eq_true_eq];omega
  .simp at h2
theorem uw{l:List Nat}{x:Nat}(hb:l.length<1000000):ir (.mk (gC (l++[x])))=some (decide (x∈l)):=by
 have main:∀s:Sl Int,s=.mk (gC (l++[x]))->ir s=some (decide (x∈l)):=by
  intro s hs;have hsl:s.l=gC (l++[x]):=by rw[hs];rfl
  have hlen:s.l.length=l.length+1:=by rw[hsl,mK];simp
  have h0:decide ((s.l.length:Int)>0)=true:=by rw[decide_eq_true_eq];omega
  have hw:wr .i64 ((s.l.length:Int)-1)=(l.length:Int):=by rw[hlen,ig (by omega) (by omega)];omega
  have hcut:qB s.l 0 (l.length:Int)=some (gC l):=by rw[nV];refine⟨⟨Int.le_refl _,by omega,by omega⟩,?_⟩;rw[hsl];simp[gC]
  have hi:l.length<s.l.length:=by omega
  have hg:gt s.l l.length=(x:Int):=by rw[hsl,vy,cQ (by simp)];simp
  have hto:s.to (gC l)=.mk (gC l):=by rw[hs];rfl
  have hc:=me (s:=.mk (gC l)) (x:Int) (by rw[Sl.iN,mK];omega);have hm:decide ((x:Int)∈(Sl.mk (gC l)).l)=decide (x∈l):=by rw[du,decide_eq_true_eq,decide_eq_true_eq];exact Ja
  rw[hm]at hc;simp only[ir,h0,cond_true,hw,hcut,af,bp hi,hto,hg,hc]
 exact main _ rfl
theorem vz(s:Nat):decide ((gt t.bf.l h)=(⟨(s:Int),c9 r h s⟩:fR))=decide (zL t r h s):=by rw[du,decide_eq_true_eq,decide_eq_true_eq (p:=zL t r h s)];unfold zL;generalize gt t.bf.l h=x;obtain⟨a,b⟩:=x;exact Prod.mk.injEq ..▸Iff.rfl
theorem Gh{o:List Nat}{k:Nat}:gt (o++[k]) o.length=k:=by rw[cQ (by simp)];simp
theorem J_(hV:jl t r)(hh:h<t.bf.l.length):∀(m:Nat)(l:List Nat)(x:Nat),x<r.l.length->(∀y∈l,∃j,m<j/\iZ t r h y j)->iZ t r h x m->l.length+m<1000->
  ∃w:List Int,bE (eh t r (h:Int)) (.mk (gC (l++[x])))=some (.inl (0,.mk w))/\w.length=l.length+m+1:=by
 intro m;induction m with
 |zero=>
  intro l x hx hl ha hb;have hno:x∉l:=fun hm=>by obtain⟨j,h1,h2⟩:=hl x hm;have:=h2.NA ha;omega
  have htw:=uw (l:=l) (x:=x) (by omega);rw[decide_eq_false hno]at htw;have hlen:(Sl.mk (gC (l++[x]))).l.length=l.length+1:=by rw[Sl.iN,mK];simp
  have hw:wr .i64 (((Sl.mk (gC (l++[x]))).l.length:Int)-1)=(l.length:Int):=by rw[hlen,ig (by omega) (by omega)];omega
  have hi:l.length<(Sl.mk (gC (l++[x]))).l.length:=by omega
  have hg:gt (Sl.mk (gC (l++[x]))).l l.length=(x:Int):=by rw[Sl.iN,vy,Gh]
  have hhr:h<(gt r.l x).l.length:=by rw[hV.dj hx];exact hh
  have hport:gt (gt r.l x).l h=c9 r h x:=rfl;cases ha with|B3 hH=>refine⟨_,cA (by simp only[eh,htw,af,eO,cond_true,hw,bp hi,bp hh,hg,bp hx,bp hhr,hport,vz,decide_eq_true hH];rfl),by rw[mK];simp⟩
 |succ m ih=>
  intro l x hx hl ha hb;have hno:x∉l:=fun hm=>by obtain⟨j,h1,h2⟩:=hl x hm;have:=h2.NA ha;omega
  have htw:=uw (l:=l) (x:=x) (by omega);rw[decide_eq_false hno]at htw;have hlen:(Sl.mk (gC (l++[x]))).l.length=l.length+1:=by rw[Sl.iN,mK];simp
  have hw:wr .i64 (((Sl.mk (gC (l++[x]))).l.length:Int)-1)=(l.length:Int):=by rw[hlen,ig (by omega) (by omega)];omega
  have hi:l.length<(Sl.mk (gC (l++[x]))).l.length:=by omega
  have hg:gt (Sl.mk (gC (l++[x]))).l l.length=(x:Int):=by rw[Sl.iN,vy,Gh]
  have hhr:h<(gt r.l x).l.length:=by rw[hV.dj hx];exact hh
  have hport:gt (gt r.l x).l h=c9 r h x:=rfl;have ha0:=ha;cases ha with
  |@kJ _ y _ hH hn ha'=>
   rcases qL (h:=h) hV x with⟨e1,_⟩|⟨y',b,c,e1,hy,e2⟩
   .rw [e1]at hn;cases hn
   .rw [e1]at hn;obtain rfl:=aa hn
    obtain⟨w,h1,h2⟩:=ih (l++[x]) y' hy (fun z hz=>by
     rcases List.mem_append.1 hz with hz|hz
     .obtain ⟨j,q1,q2⟩:=hl z hz;exact⟨j,by omega,q2⟩
     .obtain rfl:=List.mem_singleton.1 hz;exact⟨m+1,by omega,ha0⟩) ha' (by rw[av,bo];omega)
    refine⟨w,?_,by rw[h2,av,bo];omega⟩;rw[dl (a':=.mk (gC (l++[x]++[y'])))]
    .exact h1
    .have hcap:iG ((Sl.mk (gC (l++[x]))).l++[(y':Int)])=some (gC (l++[x]++[y'])):=by rw[Sl.iN,ik (by rw[av,mK];simp;omega),AZ]
     simp only[eh,htw,af,eO,cond_true,hw,bp hi,bp hh,hg,bp hx,bp hhr,hport,vz,decide_eq_false hH,cond_false,wg hV hh hx,e2,ce,hcap]
theorem my(hV:jl t r):js t r=some true:=by have hsm:=hV.sG;rw[wY (by omega) (fun dj hm=>by have:=(hV.aq dj hm).1;have:=hV.t7.rX;omega),decide_eq_true hV]
theorem Aw(hV:jl t r)(hh:h<t.bf.l.length){s k:Nat}(hs:s<r.l.length)(ha:iZ t r h s k):∃w:List Int,jE t r (s:Int) (h:Int)=some (.mk w,0)/\w.length=k+1:=by have hk:=ha.lt hV hs;have hsm:=hV.sG;obtain⟨w,h1,h2⟩:=J_ hV hh k [] s hs (fun y hy=>by simp at hy) ha (by simp;omega);have h1:bE (eh t r (h:Int)) (.mk [(s:Int)])=_:=h1;exact⟨w,by simp only[jE,tH hV hs hh,my hV,af,ce,cond_false,h1],by simpa using h2⟩
theorem HE(hG:gy t r)(hh:h<t.bf.l.length)(hn:0<r.l.length):lA t r (h:Int)=some (.mk (rZ t r h)):=by
 have hsm:=hG.1.sG
 have main:∀(d i:Nat),i+d=r.l.length->∀s:Sl Int,s.l=((aL i).map fun s=>(eN t r h s:Int))->(0<i\/0<d)->(0<i->s=.mk s.l)->bE (gA t r (h:Int)) ((i:Int),s)=some (.mk (rZ t r h)):=by
  intro d;induction d with
  |zero=>
   intro i hi s hs hp hmk;obtain rfl:i=r.l.length:=by omega
   rw[cA (b:=s) (by simp only[gA,kL,cond_false]),hmk (by omega),hs];rfl
  |succ d ih=>
   intro i hi s hs hp hmk;have hlt:i<r.l.length:=by omega
   have ha:=hG.eN hlt hh;have hb:=hG.lt hlt hh;obtain⟨l,h1,h2⟩:=Aw hG.1 hh hlt ha;have hw:wr .i64 (((Sl.mk l).l.length:Int)-1)=(eN t r h i:Int):=by rw[Sl.iN,h2,ig (by omega) (by omega)];omega
   have hsl:s.l.length=i:=by rw[hs];simp
   rw[dl (a':=(((i+1:Nat):Int),.mk (s.l++[(eN t r h i:Int)]))) (by simp only[gA,jt hlt,cond_true,h1,af,hw,ik (show(s.l++[(eN t r h i:Int)]).length<=2147483648 by rw[av,bo];omega),k7 (show i<9223372036854775807 by omega)])];exact ih (i+1) (by omega) _ (by rw[Sl.iN,hs,Gx]) (.inl (by omega)) (fun _=>rfl)
 have h1:bE (gA t r (h:Int)) (0,Sl.nil)=_:=main r.l.length 0 (by omega) .nil rfl (.inr hn) (fun h=>by omega);simp only[lA,my hG.1,af,HF hh,cond_false,h1]
theorem gy.U5(hG:gy t r):0<r.l.length:=by have:=hG.1.len;have:=hG.1.t7.sw;omega
theorem zf(hG:gy t r):iu t r=some true:=by
 have hsm:=hG.1.sG;have hho:=hG.1.rX
 have h1:=wX (f:=gY t r) (β:=Bool) (γ:=Unit) (aL t.bf.l.length) (fun _ _=>none) () (by simp;omega) (fun i hi=>by
  have hi:i<t.bf.l.length:=by simpa using hi
  have hno:(-1:Int)∉(Sl.mk (rZ t r i)).l:=fun hm=>by obtain⟨s,_,e⟩:=ci.1 hm;omega
  have hc:=me (s:=.mk (rZ t r i)) (-1) (by rw[Sl.iN,wH];omega);rw[decide_eq_false hno]at hc;simp only[gY,jt hi,cond_true,HE hG hi hG.U5,af,hc,cond_false]) (by simp only[gY,List.length_range,kL,cond_false])
 have h2:lW (β:=Bool) (fun(_ _:Nat)=>none) (aL t.bf.l.length) 0=none:=nG.2 fun _ _ _=>rfl;rw[h2]at h1;simp only[iu,my hG.1,af,ce,cond_false,h1]
end
end Go.Proofs.YthcplpfiidlinaaDoor.J
