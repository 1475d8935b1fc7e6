/- Routes: what the program's Walk, Far and sh answer, of routes that are good. Conditions: as stated. -/
import Derived.Test.YthcplpfiidlinaaDoorJR
open Go.Ev Go
noncomputable section
open Bool renaming eq_iff_iff->dq,not_false->dQ,not_true->bS
open List renaming length_append->av,length_singleton->bp,mem_map->cj,range->aK
open Option renaming bind_some->af
open Option.some renaming inj->aa,injEq->bm
namespace Go.Proofs.YthcplpfiidlinaaDoor.J
def gx(t:ah)(r:Sl (Sl Int)):Prop:=jl t r/\∀s,s<r.l.length->∀h,h<t.bd.l.length->∃k,i_ t r h s k
section
variable{t:ah}{r:Sl (Sl Int)}{h:Nat}
def eL(t:ah)(r:Sl (Sl Int))(h s:Nat):Nat:=open Classical in if hk:∃k,i_ t r h s k then Classical.choose hk else 0
theorem Cd{s k:Nat}(ha:i_ t r h s k):eL t r h s=k:=by
 have hk:∃k,i_ t r h s k:=⟨k,ha⟩
 unfold eL;rw[dif_pos hk];exact(Classical.choose_spec hk).Nt ha
theorem gx.eL(hG:gx t r){s:Nat}(hs:s<r.l.length)(hh:h<t.bd.l.length):i_ t r h s (eL t r h s):=by obtain⟨k,hk⟩:=hG.2 s hs h hh;rw[Cd hk];exact hk
theorem gx.lt(hG:gx t r){s:Nat}(hs:s<r.l.length)(hh:h<t.bd.l.length):J.eL t r h s<r.l.length:=(hG.eL hs hh).lt hG.1 hs
def rV(t:ah)(r:Sl (Sl Int))(h:Nat):List Int:=(aK r.l.length).map fun s=>(eL t r h s:Int)
theorem wF:(rV t r h).length=r.l.length:=by simp[rV]
theorem Mu{s:Nat}(hs:s<r.l.length):gt (rV t r h) s=(eL t r h s:Int):=by rw[cR (by rw[wF];exact hs)];simp[rV]
theorem Gm{n:Nat}:((aK (n+1)).map fun s=>(eL t r h s:Int))=((aK n).map fun s=>(eL t r h s:Int))++[(eL t r h n:Int)]:=by rw[List.range_succ,List.map_append];rfl
theorem HD(hh:h<t.bd.l.length):(((!true)||(decide ((h:Int)<0)))||(decide ((h:Int)>=(t.bd.l.length:Int))))=false:=by simp only[bS,Bool.false_or,Bool.or_eq_false_iff,decide_eq_false_iff_not];omega
theorem tD(hV:jl t r){s:Nat}(hs:s<r.l.length)(hh:h<t.bd.l.length):mw r (s:Int) (h:Int)=some (c_ r h s,true):=by
 have h1:decide ((s:Int)<0)=false:=by rw[decide_eq_false_iff_not];omega
 have h2:decide ((s:Int)>=(r.l.length:Int))=false:=by rw[decide_eq_false_iff_not];omega
 have h3:decide ((h:Int)<0)=false:=by rw[decide_eq_false_iff_not];omega
 have hrl:=hV.dj hs;have h4:decide ((h:Int)>=((gt r.l s).l.length:Int))=false:=by rw[decide_eq_false_iff_not];omega
 have hhl:h<(gt r.l s).l.length:=by omega
 simp only[mw,h1,h2,h3,Bool.or_self,cond_false,bq hs,af,h4,bq hhl,c_]
theorem wd(hV:jl t r)(hh:h<t.bd.l.length){s:Nat}(hs:s<r.l.length):
  nJ t r (s:Int) (h:Int)=some ((kQ t s (c_ r h s)).1,(kQ t s (c_ r h s)).2.2.2):=by
 have hlk:=hV.sy.Hs;simp only[nJ,tD hV hs hh,af,bS,cond_false,AM _ _ (show t.bW.l.length<9223372036854775808 by omega)]
def gC(l:List Nat):List Int:=l.map fun(x:Nat)=>(x:Int)
theorem mJ(l:List Nat):(gC l).length=l.length:=by simp[gC]
theorem vq(l:List Nat)(i:Nat):gt (gC l) i=((gt l i:Nat):Int):=by simp only[gt,gC,List.getD_eq_getElem?_getD,List.getElem?_map];cases l[i]?<;>rfl
theorem I8{l:List Nat}{k:Nat}:(k:Int)∈gC l<->k∈l:=by simp only[gC,cj];exact⟨fun⟨y,hy,e⟩=>by rw[show k=y by omega];exact hy,fun h=>⟨k,h,rfl⟩⟩
theorem AZ(l:List Nat)(k:Nat):gC l++[(k:Int)]=gC (l++[k]):=by simp[gC]
theorem md{s:Sl Int}(x:Int)(hb:s.l.length<9223372036854775808):cO s x=some (decide (x∈s.l)):=by
 have h:=wV (f:=ga s x) s.l (fun i y=>if x=y then some (i:Int)else none) () hb (fun i hi=>by
  have e:(x==gt s.l i)=decide (x=gt s.l i):=by rw[dq];simp
  simp only[ga,jt hi,cond_true,bq hi,af,e];by_cases hc:x=gt s.l i
  .rw [if_pos hc,decide_eq_true hc];rfl
  .rw [if_neg hc,decide_eq_false hc];rfl) (by simp only[ga,kK,cond_false])
 simp only[cO,h_,h,af];cases hs:lW (fun i y=>if x=y then some (i:Int)else none) s.l 0 with
 |none=>
  have hn:x∉s.l:=by intro hx;obtain⟨j,hj,e⟩:=List.getElem_of_mem hx;have:=nG.1 hs j s.l[j] (by simp[hj]);rw[if_pos e.symm]at this;simp at this
  rw[decide_eq_false hn];rfl
 |some b=>
  obtain⟨j,y,h1,h2,_⟩:=nF hs;split at h2
  .rename_i hx;obtain rfl:=aa h2;rw[decide_eq_true (by rw[hx];exact List.mem_of_getElem? h1)];simp only[af,bm,decide_eq_true_eq];omega
  .simp at h2
theorem uq{l:List Nat}{x:Nat}(hb:l.length<1000000):ir (.mk (gC (l++[x])))=some (decide (x∈l)):=by
 have main:∀s:Sl Int,s=.mk (gC (l++[x]))->ir s=some (decide (x∈l)):=by
  intro s hs;have hsl:s.l=gC (l++[x]):=by rw[hs];rfl
  have hlen:s.l.length=l.length+1:=by rw[hsl,mJ];simp
  have h0:decide ((s.l.length:Int)>0)=true:=by rw[decide_eq_true_eq];omega
  have hw:wr .i64 ((s.l.length:Int)-1)=(l.length:Int):=by rw[hlen,ig (by omega) (by omega)];omega
  have hcut:qu s.l 0 (l.length:Int)=some (gC l):=by rw[nX];refine⟨⟨Int.le_refl _,by omega,by omega⟩,?_⟩;rw[hsl];simp[gC]
  have hi:l.length<s.l.length:=by omega
  have hg:gt s.l l.length=(x:Int):=by rw[hsl,vq,cR (by simp)];simp
  have hto:s.to (gC l)=.mk (gC l):=by rw[hs];rfl
  have hc:=md (s:=.mk (gC l)) (x:Int) (by rw[Sl.iO,mJ];omega);have hm:decide ((x:Int)∈(Sl.mk (gC l)).l)=decide (x∈l):=by rw[dq,decide_eq_true_eq,decide_eq_true_eq];exact I8
  rw[hm]at hc;simp only[ir,h0,cond_true,hw,hcut,af,bq hi,hto,hg,hc]
 exact main _ rfl
theorem vr(s:Nat):decide ((gt t.bd.l h)=(⟨(s:Int),c_ r h s⟩:fS))=decide (zI t r h s):=by rw[dq,decide_eq_true_eq,decide_eq_true_eq (p:=zI t r h s)];unfold zI;generalize gt t.bd.l h=x;obtain⟨a,b⟩:=x;exact Prod.mk.injEq ..▸Iff.rfl
theorem Ga{o:List Nat}{k:Nat}:gt (o++[k]) o.length=k:=by rw[cR (by simp)];simp
theorem J5(hV:jl t r)(hh:h<t.bd.l.length):∀(m:Nat)(l:List Nat)(x:Nat),x<r.l.length->(∀y∈l,∃j,m<j/\i_ t r h y j)->i_ t r h x m->l.length+m<1000->
  ∃w:List Int,bD (d_ t r (h:Int)) (.mk (gC (l++[x])))=some (.inl (0,.mk w))/\w.length=l.length+m+1:=by
 intro m;induction m with
 |zero=>
  intro l x hx hl ha hb;have hno:x∉l:=fun hm=>by obtain⟨j,h1,h2⟩:=hl x hm;have:=h2.Nt ha;omega
  have htw:=uq (l:=l) (x:=x) (by omega);rw[decide_eq_false hno]at htw;have hlen:(Sl.mk (gC (l++[x]))).l.length=l.length+1:=by rw[Sl.iO,mJ];simp
  have hw:wr .i64 (((Sl.mk (gC (l++[x]))).l.length:Int)-1)=(l.length:Int):=by rw[hlen,ig (by omega) (by omega)];omega
  have hi:l.length<(Sl.mk (gC (l++[x]))).l.length:=by omega
  have hg:gt (Sl.mk (gC (l++[x]))).l l.length=(x:Int):=by rw[Sl.iO,vq,Ga]
  have hhr:h<(gt r.l x).l.length:=by rw[hV.dj hx];exact hh
  have hport:gt (gt r.l x).l h=c_ r h x:=rfl;cases ha with|B5 hH=>refine⟨_,cB (by simp only[d_,htw,af,dQ,cond_true,hw,bq hi,bq hh,hg,bq hx,bq hhr,hport,vr,decide_eq_true hH];rfl),by rw[mJ];simp⟩
 |succ m ih=>
  intro l x hx hl ha hb;have hno:x∉l:=fun hm=>by obtain⟨j,h1,h2⟩:=hl x hm;have:=h2.Nt ha;omega
  have htw:=uq (l:=l) (x:=x) (by omega);rw[decide_eq_false hno]at htw;have hlen:(Sl.mk (gC (l++[x]))).l.length=l.length+1:=by rw[Sl.iO,mJ];simp
  have hw:wr .i64 (((Sl.mk (gC (l++[x]))).l.length:Int)-1)=(l.length:Int):=by rw[hlen,ig (by omega) (by omega)];omega
  have hi:l.length<(Sl.mk (gC (l++[x]))).l.length:=by omega
  have hg:gt (Sl.mk (gC (l++[x]))).l l.length=(x:Int):=by rw[Sl.iO,vq,Ga]
  have hhr:h<(gt r.l x).l.length:=by rw[hV.dj hx];exact hh
  have hport:gt (gt r.l x).l h=c_ r h x:=rfl;have ha0:=ha;cases ha with
  |@kI _ y _ hH hn ha'=>
   rcases qE (h:=h) hV x with⟨e1,_⟩|⟨y',b,c,e1,hy,e2⟩
   .rw [e1]at hn;cases hn
   .rw [e1]at hn;obtain rfl:=aa hn
    obtain⟨w,h1,h2⟩:=ih (l++[x]) y' hy (fun z hz=>by
     rcases List.mem_append.1 hz with hz|hz
     .obtain ⟨j,q1,q2⟩:=hl z hz;exact⟨j,by omega,q2⟩
     .obtain rfl:=List.mem_singleton.1 hz;exact⟨m+1,by omega,ha0⟩) ha' (by rw[av,bp];omega)
    refine⟨w,?_,by rw[h2,av,bp];omega⟩;rw[dl (a':=.mk (gC (l++[x]++[y'])))]
    .exact h1
    .have hcap:iH ((Sl.mk (gC (l++[x]))).l++[(y':Int)])=some (gC (l++[x]++[y'])):=by rw[Sl.iO,ik (by rw[av,mJ];simp;omega),AZ]
     simp only[d_,htw,af,dQ,cond_true,hw,bq hi,bq hh,hg,bq hx,bq hhr,hport,vr,decide_eq_false hH,cond_false,wd hV hh hx,e2,bS,hcap]
theorem mu(hV:jl t r):js t r=some true:=by have hsm:=hV.sC;rw[wW (by omega) (fun dj hm=>by have:=(hV.ao dj hm).1;have:=hV.sy.rT;omega),decide_eq_true hV]
theorem Aw(hV:jl t r)(hh:h<t.bd.l.length){s k:Nat}(hs:s<r.l.length)(ha:i_ t r h s k):∃w:List Int,jB t r (s:Int) (h:Int)=some (.mk w,0)/\w.length=k+1:=by have hk:=ha.lt hV hs;have hsm:=hV.sC;obtain⟨w,h1,h2⟩:=J5 hV hh k [] s hs (fun y hy=>by simp at hy) ha (by simp;omega);have h1:bD (d_ t r (h:Int)) (.mk [(s:Int)])=_:=h1;exact⟨w,by simp only[jB,tD hV hs hh,mu hV,af,bS,cond_false,h1],by simpa using h2⟩
theorem HC(hG:gx t r)(hh:h<t.bd.l.length)(hn:0<r.l.length):lD t r (h:Int)=some (.mk (rV t r h)):=by
 have hsm:=hG.1.sC
 have main:∀(d i:Nat),i+d=r.l.length->∀s:Sl Int,s.l=((aK i).map fun s=>(eL t r h s:Int))->(0<i\/0<d)->(0<i->s=.mk s.l)->bD (gA t r (h:Int)) ((i:Int),s)=some (.mk (rV t r h)):=by
  intro d;induction d with
  |zero=>
   intro i hi s hs hp hmk;obtain rfl:i=r.l.length:=by omega
   rw[cB (b:=s) (by simp only[gA,kK,cond_false]),hmk (by omega),hs];rfl
  |succ d ih=>
   intro i hi s hs hp hmk;have hlt:i<r.l.length:=by omega
   have ha:=hG.eL hlt hh;have hb:=hG.lt hlt hh;obtain⟨l,h1,h2⟩:=Aw hG.1 hh hlt ha;have hw:wr .i64 (((Sl.mk l).l.length:Int)-1)=(eL t r h i:Int):=by rw[Sl.iO,h2,ig (by omega) (by omega)];omega
   have hsl:s.l.length=i:=by rw[hs];simp
   rw[dl (a':=(((i+1:Nat):Int),.mk (s.l++[(eL t r h i:Int)]))) (by simp only[gA,jt hlt,cond_true,h1,af,hw,ik (show(s.l++[(eL t r h i:Int)]).length<=2147483648 by rw[av,bp];omega),k9 (show i<9223372036854775807 by omega)])];exact ih (i+1) (by omega) _ (by rw[Sl.iO,hs,Gm]) (.inl (by omega)) (fun _=>rfl)
 have h1:bD (gA t r (h:Int)) (0,Sl.nil)=_:=main r.l.length 0 (by omega) .nil rfl (.inr hn) (fun h=>by omega);simp only[lD,mu hG.1,af,HD hh,cond_false,h1]
theorem gx.UY(hG:gx t r):0<r.l.length:=by have:=hG.1.len;have:=hG.1.sy.sw;omega
theorem y9(hG:gx t r):iu t r=some true:=by
 have hsm:=hG.1.sC;have hho:=hG.1.rT
 have h1:=wV (f:=gY t r) (β:=Bool) (γ:=Unit) (aK t.bd.l.length) (fun _ _=>none) () (by simp;omega) (fun i hi=>by
  have hi:i<t.bd.l.length:=by simpa using hi
  have hno:(-1:Int)∉(Sl.mk (rV t r i)).l:=fun hm=>by obtain⟨s,_,e⟩:=cj.1 hm;omega
  have hc:=md (s:=.mk (rV t r i)) (-1) (by rw[Sl.iO,wF];omega);rw[decide_eq_false hno]at hc;simp only[gY,jt hi,cond_true,HC hG hi hG.UY,af,hc,cond_false]) (by simp only[gY,List.length_range,kK,cond_false])
 have h2:lW (β:=Bool) (fun(_ _:Nat)=>none) (aK t.bd.l.length) 0=none:=nG.2 fun _ _ _=>rfl;rw[h2]at h1;simp only[iu,mu hG.1,af,bS,cond_false,h1]
end
end Go.Proofs.YthcplpfiidlinaaDoor.J
