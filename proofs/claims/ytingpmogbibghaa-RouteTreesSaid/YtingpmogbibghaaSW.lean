/- Routes: what Walk, Far and Good answer, of routes that are good. Conditions: as stated. -/
import Derived.Test.YtingpmogbibghaaSR
open Bool renaming eq_iff_iff->gY,not_false->oG,not_true->ir
open List renaming length_append->au,mem_map->bv,range->bN
open Option renaming bind_some->ae
open Option.some renaming inj->aa,injEq->ce
open Go.Ev Go
noncomputable section
namespace Go.Proofs.Ytingpmogbibghaa.S
def Xz(t:aj)(r:Sl (Sl Int)):Prop:=WU t r/\∀s,s<r.l.length->∀h,h<t.bg.l.length->∃k,uZ t r h s k
section
variable{t:aj}{r:Sl (Sl Int)}{h:Nat}
def pL(t:aj)(r:Sl (Sl Int))(h s:Nat):Nat:=open Classical in if hk:∃k,uZ t r h s k then Classical.choose hk else 0
theorem Yn{s k:Nat}(ha:uZ t r h s k):pL t r h s=k:=by
 have hk:∃k,uZ t r h s k:=⟨k,ha⟩
 unfold pL;rw[dif_pos hk];exact(Classical.choose_spec hk).Yf ha
theorem Xz.pL(hG:Xz t r){s:Nat}(hs:s<r.l.length)(hh:h<t.bg.l.length):uZ t r h s (pL t r h s):=by obtain⟨k,hk⟩:=hG.2 s hs h hh;rw[Yn hk];exact hk
theorem Xz.lt(hG:Xz t r){s:Nat}(hs:s<r.l.length)(hh:h<t.bg.l.length):S.pL t r h s<r.l.length:=(hG.pL hs hh).lt hG.1 hs
def XT(t:aj)(r:Sl (Sl Int))(h:Nat):List Int:=(bN r.l.length).map fun s=>(pL t r h s:Int)
theorem Ya:(XT t r h).length=r.l.length:=by simp[XT]
theorem X1{n:Nat}:((bN (n+1)).map fun s=>(pL t r h s:Int))=((bN n).map fun s=>(pL t r h s:Int))++[(pL t r h n:Int)]:=by rw[List.range_succ,List.map_append];rfl
theorem Ym(hh:h<t.bg.l.length):(((!true)||(decide ((h:Int)<0)))||(decide ((h:Int)>=(t.bg.l.length:Int))))=false:=by simp only[ir,Bool.false_or,Bool.or_eq_false_iff,decide_eq_false_iff_not];omega
theorem XR(hV:WU t r){s:Nat}(hs:s<r.l.length)(hh:h<t.bg.l.length):W0 r (s:Int) (h:Int)=some (W6 r h s,true):=by
 have h1:decide ((s:Int)<0)=false:=by rw[decide_eq_false_iff_not];omega
 have h2:decide ((s:Int)>=(r.l.length:Int))=false:=by rw[decide_eq_false_iff_not];omega
 have h3:decide ((h:Int)<0)=false:=by rw[decide_eq_false_iff_not];omega
 have hrl:=hV.bw hs;have h4:decide ((h:Int)>=((gt r.l s).l.length:Int))=false:=by rw[decide_eq_false_iff_not];omega
 have hhl:h<(gt r.l s).l.length:=by omega
 simp only[W0,h1,h2,h3,Bool.or_self,cond_false,nA hs,ae,h4,nA hhl,W6]
theorem X6(hV:WU t r)(hh:h<t.bg.l.length){s:Nat}(hs:s<r.l.length):
  W8 t r (s:Int) (h:Int)=some ((LF t s (W6 r h s)).1,(LF t s (W6 r h s)).2.2.2):=by
 have hlk:=hV.X0.yi;simp only[W8,XR hV hs hh,ae,ir,cond_false,X8 _ _ (show t.aP.l.length<9223372036854775808 by omega)]
def WJ(l:List Nat):List Int:=l.map fun(x:Nat)=>(x:Int)
theorem Xe(l:List Nat):(WJ l).length=l.length:=by simp[WJ]
theorem XM(l:List Nat)(i:Nat):gt (WJ l) i=((gt l i:Nat):Int):=by simp only[gt,WJ,List.getD_eq_getElem?_getD,List.getElem?_map];cases l[i]?<;>rfl
theorem X9{l:List Nat}{k:Nat}:(k:Int)∈WJ l<->k∈l:=by simp only[WJ,bv];exact⟨fun⟨y,hy,e⟩=>by rw[show k=y by omega];exact hy,fun h=>⟨k,h,rfl⟩⟩
theorem X_(l:List Nat)(k:Nat):WJ l++[(k:Int)]=WJ (l++[k]):=by simp[WJ]
theorem Xu{s:Sl Int}(x:Int)(hb:s.l.length<9223372036854775808):eu s x=some (decide (x∈s.l)):=by
 have h:=BG (f:=gC s x) s.l (fun i y=>if x=y then some (i:Int)else none) () hb (fun i hi=>by
  have e:(x==gt s.l i)=decide (x=gt s.l i):=by rw[gY];simp
  simp only[gC,vD hi,cond_true,nA hi,ae,e];by_cases hc:x=gt s.l i
  .rw [if_pos hc,decide_eq_true hc];rfl
  .rw [if_neg hc,decide_eq_false hc];rfl) (by simp only[gC,Bl,cond_false])
 simp only[eu,iv,h,ae];cases hs:mB (fun i y=>if x=y then some (i:Int)else none) s.l 0 with
 |none=>
  have hn:x∉s.l:=by intro hx;obtain⟨j,hj,e⟩:=List.getElem_of_mem hx;have:=BF.1 hs j s.l[j] (by simp[hj]);rw[if_pos e.symm]at this;simp at this
  rw[decide_eq_false hn];rfl
 |some b=>
  obtain⟨j,y,h1,h2,_⟩:=qj hs;split at h2
  .rename_i hx;obtain rfl:=aa h2;rw[decide_eq_true (by rw[hx];exact List.mem_of_getElem? h1)];simp only[ae,ce,decide_eq_true_eq];omega
  .simp at h2
theorem XH{l:List Nat}{x:Nat}(hb:l.length<1000000):WI (.mk (WJ (l++[x])))=some (decide (x∈l)):=by
 have main:∀s:Sl Int,s=.mk (WJ (l++[x]))->WI s=some (decide (x∈l)):=by
  intro s hs;have hsl:s.l=WJ (l++[x]):=by rw[hs];rfl
  have hlen:s.l.length=l.length+1:=by rw[hsl,Xe];simp
  have h0:decide ((s.l.length:Int)>0)=true:=by rw[decide_eq_true_eq];omega
  have hw:wr .i64 ((s.l.length:Int)-1)=(l.length:Int):=by rw[hlen,vR (by omega) (by omega)];omega
  have hcut:o5 s.l 0 (l.length:Int)=some (WJ l):=by rw[sD];refine⟨⟨Int.le_refl _,by omega,by omega⟩,?_⟩;rw[hsl];simp[WJ]
  have hi:l.length<s.l.length:=by omega
  have hg:gt s.l l.length=(x:Int):=by rw[hsl,XM,oM (by simp)];simp
  have hto:s.to (WJ l)=.mk (WJ l):=by rw[hs];rfl
  have hc:=Xu (s:=.mk (WJ l)) (x:Int) (by rw[Sl.Wo,Xe];omega);have hm:decide ((x:Int)∈(Sl.mk (WJ l)).l)=decide (x∈l):=by rw[gY,decide_eq_true_eq,decide_eq_true_eq];exact X9
  rw[hm]at hc;simp only[WI,h0,cond_true,hw,hcut,ae,nA hi,hto,hg,hc]
 exact main _ rfl
theorem XY(s:Nat):decide ((gt t.bg.l h)=(⟨(s:Int),W6 r h s⟩:dQ))=decide (X2 t r h s):=by rw[gY,decide_eq_true_eq,decide_eq_true_eq (p:=X2 t r h s)];unfold X2;generalize gt t.bg.l h=x;obtain⟨a,b⟩:=x;exact Prod.mk.injEq ..▸Iff.rfl
theorem Yd{o:List Nat}{k:Nat}:gt (o++[k]) o.length=k:=by rw[oM (by simp)];simp
theorem Yb(hV:WU t r)(hh:h<t.bg.l.length):∀(m:Nat)(l:List Nat)(x:Nat),x<r.l.length->(∀y∈l,∃j,m<j/\uZ t r h y j)->uZ t r h x m->l.length+m<1000->
  ∃w:List Int,aY (WL t r (h:Int)) (.mk (WJ (l++[x])))=some (.inl (0,.mk w))/\w.length=l.length+m+1:=by
 intro m;induction m with
 |zero=>
  intro l x hx hl ha hb;have hno:x∉l:=fun hm=>by obtain⟨j,h1,h2⟩:=hl x hm;have:=h2.Yf ha;omega
  have htw:=XH (l:=l) (x:=x) (by omega);rw[decide_eq_false hno]at htw;have hlen:(Sl.mk (WJ (l++[x]))).l.length=l.length+1:=by rw[Sl.Wo,Xe];simp
  have hw:wr .i64 (((Sl.mk (WJ (l++[x]))).l.length:Int)-1)=(l.length:Int):=by rw[hlen,vR (by omega) (by omega)];omega
  have hi:l.length<(Sl.mk (WJ (l++[x]))).l.length:=by omega
  have hg:gt (Sl.mk (WJ (l++[x]))).l l.length=(x:Int):=by rw[Sl.Wo,XM,Yd]
  have hhr:h<(gt r.l x).l.length:=by rw[hV.bw hx];exact hh
  have hport:gt (gt r.l x).l h=W6 r h x:=rfl;cases ha with|XZ hH=>refine⟨_,bH (by simp only[WL,htw,ae,oG,cond_true,hw,nA hi,nA hh,hg,nA hx,nA hhr,hport,XY,decide_eq_true hH];rfl),by rw[Xe];simp⟩
 |succ m ih=>
  intro l x hx hl ha hb;have hno:x∉l:=fun hm=>by obtain⟨j,h1,h2⟩:=hl x hm;have:=h2.Yf ha;omega
  have htw:=XH (l:=l) (x:=x) (by omega);rw[decide_eq_false hno]at htw;have hlen:(Sl.mk (WJ (l++[x]))).l.length=l.length+1:=by rw[Sl.Wo,Xe];simp
  have hw:wr .i64 (((Sl.mk (WJ (l++[x]))).l.length:Int)-1)=(l.length:Int):=by rw[hlen,vR (by omega) (by omega)];omega
  have hi:l.length<(Sl.mk (WJ (l++[x]))).l.length:=by omega
  have hg:gt (Sl.mk (WJ (l++[x]))).l l.length=(x:Int):=by rw[Sl.Wo,XM,Yd]
  have hhr:h<(gt r.l x).l.length:=by rw[hV.bw hx];exact hh
  have hport:gt (gt r.l x).l h=W6 r h x:=rfl;have ha0:=ha;cases ha with
  |@nW _ y _ hH hn ha'=>
   rcases XS (h:=h) hV x with⟨e1,_⟩|⟨y',b,c,e1,hy,e2⟩
   .rw [e1]at hn;cases hn
   .rw [e1]at hn;obtain rfl:=aa hn
    obtain⟨w,h1,h2⟩:=ih (l++[x]) y' hy (fun z hz=>by
     rcases List.mem_append.1 hz with hz|hz
     .obtain ⟨j,q1,q2⟩:=hl z hz;exact⟨j,by omega,q2⟩
     .obtain rfl:=List.mem_singleton.1 hz;exact⟨m+1,by omega,ha0⟩) ha' (by rw[au,List.length_singleton];omega)
    refine⟨w,?_,by rw[h2,au,List.length_singleton];omega⟩;rw[cz (a':=.mk (WJ (l++[x]++[y'])))]
    .exact h1
    .have hcap:m_ ((Sl.mk (WJ (l++[x]))).l++[(y':Int)])=some (WJ (l++[x]++[y'])):=by rw[Sl.Wo,Dr (by rw[au,Xe];simp;omega),X_]
     simp only[WL,htw,ae,oG,cond_true,hw,nA hi,nA hh,hg,nA hx,nA hhr,hport,XY,decide_eq_false hH,cond_false,X6 hV hh hx,e2,ir,hcap]
theorem Xv(hV:WU t r):WK t r=some true:=by have hsm:=hV.X3;rw[XX (by omega) (fun bw hm=>by have:=(hV.WA bw hm).1;have:=hV.X0.P5;omega),decide_eq_true hV]
theorem X4(hV:WU t r)(hh:h<t.bg.l.length){s k:Nat}(hs:s<r.l.length)(ha:uZ t r h s k):∃w:List Int,WW t r (s:Int) (h:Int)=some (.mk w,0)/\w.length=k+1:=by have hk:=ha.lt hV hs;have hsm:=hV.X3;obtain⟨w,h1,h2⟩:=Yb hV hh k [] s hs (fun y hy=>by simp at hy) ha (by simp;omega);have h1:aY (WL t r (h:Int)) (.mk [(s:Int)])=_:=h1;exact⟨w,by simp only[WW,XR hV hs hh,Xv hV,ae,ir,cond_false,h1],by simpa using h2⟩
theorem Yl(hG:Xz t r)(hh:h<t.bg.l.length)(hn:0<r.l.length):Xd t r (h:Int)=some (.mk (XT t r h)):=by
 have hsm:=hG.1.X3
 have main:∀(d i:Nat),i+d=r.l.length->∀s:Sl Int,s.l=((bN i).map fun s=>(pL t r h s:Int))->(0<i\/0<d)->(0<i->s=.mk s.l)->aY (WR t r (h:Int)) ((i:Int),s)=some (.mk (XT t r h)):=by
  intro d;induction d with
  |zero=>
   intro i hi s hs hp hmk;obtain rfl:i=r.l.length:=by omega
   rw[bH (b:=s) (by simp only[WR,Bl,cond_false]),hmk (by omega),hs];rfl
  |succ d ih=>
   intro i hi s hs hp hmk;have hlt:i<r.l.length:=by omega
   have ha:=hG.pL hlt hh;have hb:=hG.lt hlt hh;obtain⟨l,h1,h2⟩:=X4 hG.1 hh hlt ha;have hw:wr .i64 (((Sl.mk l).l.length:Int)-1)=(pL t r h i:Int):=by rw[Sl.Wo,h2,vR (by omega) (by omega)];omega
   have hsl:s.l.length=i:=by rw[hs];simp
   rw[cz (a':=(((i+1:Nat):Int),.mk (s.l++[(pL t r h i:Int)]))) (by simp only[WR,vD hlt,cond_true,h1,ae,hw,Dr (show(s.l++[(pL t r h i:Int)]).length<=2147483648 by rw[au,List.length_singleton];omega),ze (show i<9223372036854775807 by omega)])];exact ih (i+1) (by omega) _ (by rw[Sl.Wo,hs,X1]) (.inl (by omega)) (fun _=>rfl)
 have h1:aY (WR t r (h:Int)) (0,Sl.nil)=_:=main r.l.length 0 (by omega) .nil rfl (.inr hn) (fun h=>by omega);simp only[Xd,Xv hG.1,ae,Ym hh,cond_false,h1]
theorem Xz.YS(hG:Xz t r):0<r.l.length:=by have:=hG.1.len;have:=hG.1.X0.sw;omega
theorem Ye(hG:Xz t r):WX t r=some true:=by
 have hsm:=hG.1.X3;have hho:=hG.1.P5
 have h1:=BG (f:=WT t r) (β:=Bool) (γ:=Unit) (bN t.bg.l.length) (fun _ _=>none) () (by simp;omega) (fun i hi=>by
  have hi:i<t.bg.l.length:=by simpa using hi
  have hno:(-1:Int)∉(Sl.mk (XT t r i)).l:=fun hm=>by obtain⟨s,_,e⟩:=bv.1 hm;omega
  have hc:=Xu (s:=.mk (XT t r i)) (-1) (by rw[Sl.Wo,Ya];omega);rw[decide_eq_false hno]at hc;simp only[WT,vD hi,cond_true,Yl hG hi hG.YS,ae,hc,cond_false]) (by simp only[WT,List.length_range,Bl,cond_false])
 have h2:mB (β:=Bool) (fun(_ _:Nat)=>none) (bN t.bg.l.length) 0=none:=BF.2 fun _ _ _=>rfl;rw[h2]at h1;simp only[WX,Xv hG.1,ae,ir,cond_false,h1]
end
end Go.Proofs.Ytingpmogbibghaa.S
