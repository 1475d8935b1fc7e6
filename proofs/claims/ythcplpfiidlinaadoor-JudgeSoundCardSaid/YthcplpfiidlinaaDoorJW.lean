/- Routes: what the program's Walk, Far and Ba answer, of routes that are good. Conditions: as stated. -/
import Derived.Test.YthcplpfiidlinaaDoorJR
open Go.Ev Go
noncomputable section
open Bool renaming eq_iff_iff->cW,not_false->fg,not_true->cF
open List renaming length_append->aF,length_singleton->bD,mem_map->cN,range->bi
open Option renaming bind_some->ae
open Option.some renaming inj->aa,injEq->bq
namespace Go.Proofs.YthcplpfiidlinaaDoor.J
def mE(t:ah)(r:Sl (Sl Int)):Prop:=iH t r/\∀s,s<r.l.length->∀h,h<t.a_.l.length->∃k,ip t r h s k
section
variable{t:ah}{r:Sl (Sl Int)}{h:Nat}
def jo(t:ah)(r:Sl (Sl Int))(h s:Nat):Nat:=open Classical in if hk:∃k,ip t r h s k then Classical.choose hk else 0
theorem FQ{s k:Nat}(ha:ip t r h s k):jo t r h s=k:=by
 have hk:∃k,ip t r h s k:=⟨k,ha⟩
 unfold jo;rw[dif_pos hk];exact(Classical.choose_spec hk).KT ha
theorem mE.jo(hG:mE t r){s:Nat}(hs:s<r.l.length)(hh:h<t.a_.l.length):ip t r h s (jo t r h s):=by obtain⟨k,hk⟩:=hG.2 s hs h hh;rw[FQ hk];exact hk
theorem mE.lt(hG:mE t r){s:Nat}(hs:s<r.l.length)(hh:h<t.a_.l.length):J.jo t r h s<r.l.length:=(hG.jo hs hh).lt hG.1 hs
def zU(t:ah)(r:Sl (Sl Int))(h:Nat):List Int:=(bi r.l.length).map fun s=>(jo t r h s:Int)
theorem Hq:(zU t r h).length=r.l.length:=by simp[zU]
theorem EJ{n:Nat}:((bi (n+1)).map fun s=>(jo t r h s:Int))=((bi n).map fun s=>(jo t r h s:Int))++[(jo t r h n:Int)]:=by rw[List.range_succ,List.map_append];rfl
theorem FL(hh:h<t.a_.l.length):(((!true)||(decide ((h:Int)<0)))||(decide ((h:Int)>=(t.a_.l.length:Int))))=false:=by simp only[cF,Bool.false_or,Bool.or_eq_false_iff,decide_eq_false_iff_not];omega
theorem sq(hV:iH t r){s:Nat}(hs:s<r.l.length)(hh:h<t.a_.l.length):lE r (s:Int) (h:Int)=some (jO r h s,true):=by
 have h1:decide ((s:Int)<0)=false:=by rw[decide_eq_false_iff_not];omega
 have h2:decide ((s:Int)>=(r.l.length:Int))=false:=by rw[decide_eq_false_iff_not];omega
 have h3:decide ((h:Int)<0)=false:=by rw[decide_eq_false_iff_not];omega
 have hrl:=hV.cY hs;have h4:decide ((h:Int)>=((gt r.l s).l.length:Int))=false:=by rw[decide_eq_false_iff_not];omega
 have hhl:h<(gt r.l s).l.length:=by omega
 simp only[lE,h1,h2,h3,Bool.or_self,cond_false,bI hs,ae,h4,bI hhl,jO]
theorem ve(hV:iH t r)(hh:h<t.a_.l.length){s:Nat}(hs:s<r.l.length):
  mL t r (s:Int) (h:Int)=some ((jA t s (jO r h s)).1,(jA t s (jO r h s)).2.2.2):=by
 have hlk:=hV.wg.FD;simp only[mL,sq hV hs hh,ae,cF,cond_false,zw _ _ (show t.bT.l.length<9223372036854775808 by omega)]
def fY(l:List Nat):List Int:=l.map fun(x:Nat)=>(x:Int)
theorem lP(l:List Nat):(fY l).length=l.length:=by simp[fY]
theorem uA(l:List Nat)(i:Nat):gt (fY l) i=((gt l i:Nat):Int):=by simp only[gt,fY,List.getD_eq_getElem?_getD,List.getElem?_map];cases l[i]?<;>rfl
theorem G1{l:List Nat}{k:Nat}:(k:Int)∈fY l<->k∈l:=by simp only[fY,cN];exact⟨fun⟨y,hy,e⟩=>by rw[show k=y by omega];exact hy,fun h=>⟨k,h,rfl⟩⟩
theorem zF(l:List Nat)(k:Nat):fY l++[(k:Int)]=fY (l++[k]):=by simp[fY]
theorem m8{s:Sl Int}(x:Int)(hb:s.l.length<9223372036854775808):cL s x=some (decide (x∈s.l)):=by
 have h:=sQ (f:=fM s x) s.l (fun i y=>if x=y then some (i:Int)else none) () hb (fun i hi=>by
  have e:(x==gt s.l i)=decide (x=gt s.l i):=by rw[cW];simp
  simp only[fM,jm hi,cond_true,bI hi,ae,e];by_cases hc:x=gt s.l i
  .rw [if_pos hc,decide_eq_true hc];rfl
  .rw [if_neg hc,decide_eq_false hc];rfl) (by simp only[fM,j4,cond_false])
 simp only[cL,gI,h,ae];cases hs:kw (fun i y=>if x=y then some (i:Int)else none) s.l 0 with
 |none=>
  have hn:x∉s.l:=by intro hx;obtain⟨j,hj,e⟩:=List.getElem_of_mem hx;have:=lM.1 hs j s.l[j] (by simp[hj]);rw[if_pos e.symm]at this;simp at this
  rw[decide_eq_false hn];rfl
 |some b=>
  obtain⟨j,y,h1,h2,_⟩:=mI hs;split at h2
  .rename_i hx;obtain rfl:=aa h2;rw[decide_eq_true (by rw[hx];exact List.mem_of_getElem? h1)];simp only[ae,bq,decide_eq_true_eq];omega
  .simp at h2
theorem tj{l:List Nat}{x:Nat}(hb:l.length<1000000):gU (.mk (fY (l++[x])))=some (decide (x∈l)):=by
 have main:∀s:Sl Int,s=.mk (fY (l++[x]))->gU s=some (decide (x∈l)):=by
  intro s hs;have hsl:s.l=fY (l++[x]):=by rw[hs];rfl
  have hlen:s.l.length=l.length+1:=by rw[hsl,lP];simp
  have h0:decide ((s.l.length:Int)>0)=true:=by rw[decide_eq_true_eq];omega
  have hw:wr .i64 ((s.l.length:Int)-1)=(l.length:Int):=by rw[hlen,nT (by omega) (by omega)];omega
  have hcut:sO s.l 0 (l.length:Int)=some (fY l):=by rw[oD];refine⟨⟨Int.le_refl _,by omega,by omega⟩,?_⟩;rw[hsl];simp[fY]
  have hi:l.length<s.l.length:=by omega
  have hg:gt s.l l.length=(x:Int):=by rw[hsl,uA,eA (by simp)];simp
  have hto:s.to (fY l)=.mk (fY l):=by rw[hs];rfl
  have hc:=m8 (s:=.mk (fY l)) (x:Int) (by rw[Sl.kT,lP];omega);have hm:decide ((x:Int)∈(Sl.mk (fY l)).l)=decide (x∈l):=by rw[cW,decide_eq_true_eq,decide_eq_true_eq];exact G1
  rw[hm]at hc;simp only[gU,h0,cond_true,hw,hcut,ae,bI hi,hto,hg,hc]
 exact main _ rfl
theorem uB(s:Nat):decide ((gt t.a_.l h)=(⟨(s:Int),jO r h s⟩:fH))=decide (y_ t r h s):=by rw[cW,decide_eq_true_eq,decide_eq_true_eq (p:=y_ t r h s)];unfold y_;generalize gt t.a_.l h=x;obtain⟨a,b⟩:=x;exact Prod.mk.injEq ..▸Iff.rfl
theorem Ew{o:List Nat}{k:Nat}:gt (o++[k]) o.length=k:=by rw[eA (by simp)];simp
theorem HZ(hV:iH t r)(hh:h<t.a_.l.length):∀(m:Nat)(l:List Nat)(x:Nat),x<r.l.length->(∀y∈l,∃j,m<j/\ip t r h y j)->ip t r h x m->l.length+m<1000->
  ∃w:List Int,br (dQ t r (h:Int)) (.mk (fY (l++[x])))=some (.inl (0,.mk w))/\w.length=l.length+m+1:=by
 intro m;induction m with
 |zero=>
  intro l x hx hl ha hb;have hno:x∉l:=fun hm=>by obtain⟨j,h1,h2⟩:=hl x hm;have:=h2.KT ha;omega
  have htw:=tj (l:=l) (x:=x) (by omega);rw[decide_eq_false hno]at htw;have hlen:(Sl.mk (fY (l++[x]))).l.length=l.length+1:=by rw[Sl.kT,lP];simp
  have hw:wr .i64 (((Sl.mk (fY (l++[x]))).l.length:Int)-1)=(l.length:Int):=by rw[hlen,nT (by omega) (by omega)];omega
  have hi:l.length<(Sl.mk (fY (l++[x]))).l.length:=by omega
  have hg:gt (Sl.mk (fY (l++[x]))).l l.length=(x:Int):=by rw[Sl.kT,uA,Ew]
  have hhr:h<(gt r.l x).l.length:=by rw[hV.cY hx];exact hh
  have hport:gt (gt r.l x).l h=jO r h x:=rfl;cases ha with|Cw hH=>refine⟨_,ci (by simp only[dQ,htw,ae,fg,cond_true,hw,bI hi,bI hh,hg,bI hx,bI hhr,hport,uB,decide_eq_true hH];rfl),by rw[lP];simp⟩
 |succ m ih=>
  intro l x hx hl ha hb;have hno:x∉l:=fun hm=>by obtain⟨j,h1,h2⟩:=hl x hm;have:=h2.KT ha;omega
  have htw:=tj (l:=l) (x:=x) (by omega);rw[decide_eq_false hno]at htw;have hlen:(Sl.mk (fY (l++[x]))).l.length=l.length+1:=by rw[Sl.kT,lP];simp
  have hw:wr .i64 (((Sl.mk (fY (l++[x]))).l.length:Int)-1)=(l.length:Int):=by rw[hlen,nT (by omega) (by omega)];omega
  have hi:l.length<(Sl.mk (fY (l++[x]))).l.length:=by omega
  have hg:gt (Sl.mk (fY (l++[x]))).l l.length=(x:Int):=by rw[Sl.kT,uA,Ew]
  have hhr:h<(gt r.l x).l.length:=by rw[hV.cY hx];exact hh
  have hport:gt (gt r.l x).l h=jO r h x:=rfl;have ha0:=ha;cases ha with
  |@jK _ y _ hH hn ha'=>
   rcases su (h:=h) hV x with⟨e1,_⟩|⟨y',b,c,e1,hy,e2⟩
   .rw [e1]at hn;cases hn
   .rw [e1]at hn;obtain rfl:=aa hn
    obtain⟨w,h1,h2⟩:=ih (l++[x]) y' hy (fun z hz=>by
     rcases List.mem_append.1 hz with hz|hz
     .obtain ⟨j,q1,q2⟩:=hl z hz;exact⟨j,by omega,q2⟩
     .obtain rfl:=List.mem_singleton.1 hz;exact⟨m+1,by omega,ha0⟩) ha' (by rw[aF,bD];omega)
    refine⟨w,?_,by rw[h2,aF,bD];omega⟩;rw[cG (a':=.mk (fY (l++[x]++[y'])))]
    .exact h1
    .have hcap:h_ ((Sl.mk (fY (l++[x]))).l++[(y':Int)])=some (fY (l++[x]++[y'])):=by rw[Sl.kT,js (by rw[aF,lP];simp;omega),zF]
     simp only[dQ,htw,ae,fg,cond_true,hw,bI hi,bI hh,hg,bI hx,bI hhr,hport,uB,decide_eq_false hH,cond_false,ve hV hh hx,e2,cF,hcap]
theorem lD(hV:iH t r):iV t r=some true:=by have hsm:=hV.wY;rw[vS (by omega) (fun cY hm=>by have:=(hV.am cY hm).1;have:=hV.wg.rM;omega),decide_eq_true hV]
theorem zb(hV:iH t r)(hh:h<t.a_.l.length){s k:Nat}(hs:s<r.l.length)(ha:ip t r h s k):∃w:List Int,jc t r (s:Int) (h:Int)=some (.mk w,0)/\w.length=k+1:=by have hk:=ha.lt hV hs;have hsm:=hV.wY;obtain⟨w,h1,h2⟩:=HZ hV hh k [] s hs (fun y hy=>by simp at hy) ha (by simp;omega);have h1:br (dQ t r (h:Int)) (.mk [(s:Int)])=_:=h1;exact⟨w,by simp only[jc,sq hV hs hh,lD hV,ae,cF,cond_false,h1],by simpa using h2⟩
theorem LS(hG:mE t r)(hh:h<t.a_.l.length)(hn:0<r.l.length):lN t r (h:Int)=some (.mk (zU t r h)):=by
 have hsm:=hG.1.wY
 have main:∀(d i:Nat),i+d=r.l.length->∀s:Sl Int,s.l=((bi i).map fun s=>(jo t r h s:Int))->(0<i\/0<d)->(0<i->s=.mk s.l)->br (fW t r (h:Int)) ((i:Int),s)=some (.mk (zU t r h)):=by
  intro d;induction d with
  |zero=>
   intro i hi s hs hp hmk;obtain rfl:i=r.l.length:=by omega
   rw[ci (b:=s) (by simp only[fW,j4,cond_false]),hmk (by omega),hs];rfl
  |succ d ih=>
   intro i hi s hs hp hmk;have hlt:i<r.l.length:=by omega
   have ha:=hG.jo hlt hh;have hb:=hG.lt hlt hh;obtain⟨l,h1,h2⟩:=zb hG.1 hh hlt ha;have hw:wr .i64 (((Sl.mk l).l.length:Int)-1)=(jo t r h i:Int):=by rw[Sl.kT,h2,nT (by omega) (by omega)];omega
   have hsl:s.l.length=i:=by rw[hs];simp
   rw[cG (a':=(((i+1:Nat):Int),.mk (s.l++[(jo t r h i:Int)]))) (by simp only[fW,jm hlt,cond_true,h1,ae,hw,js (show(s.l++[(jo t r h i:Int)]).length<=2147483648 by rw[aF,bD];omega),kz (show i<9223372036854775807 by omega)])];exact ih (i+1) (by omega) _ (by rw[Sl.kT,hs,EJ]) (.inl (by omega)) (fun _=>rfl)
 have h1:br (fW t r (h:Int)) (0,Sl.nil)=_:=main r.l.length 0 (by omega) .nil rfl (.inr hn) (fun h=>by omega);simp only[lN,lD hG.1,ae,FL hh,cond_false,h1]
theorem mE.RS(hG:mE t r):0<r.l.length:=by have:=hG.1.len;have:=hG.1.wg.sw;omega
theorem JC(hG:mE t r):iC t r=some true:=by
 have hsm:=hG.1.wY;have hho:=hG.1.rM
 have h1:=sQ (f:=gD t r) (β:=Bool) (γ:=Unit) (bi t.a_.l.length) (fun _ _=>none) () (by simp;omega) (fun i hi=>by
  have hi:i<t.a_.l.length:=by simpa using hi
  have hno:(-1:Int)∉(Sl.mk (zU t r i)).l:=fun hm=>by obtain⟨s,_,e⟩:=cN.1 hm;omega
  have hc:=m8 (s:=.mk (zU t r i)) (-1) (by rw[Sl.kT,Hq];omega);rw[decide_eq_false hno]at hc;simp only[gD,jm hi,cond_true,LS hG hi hG.RS,ae,hc,cond_false]) (by simp only[gD,List.length_range,j4,cond_false])
 have h2:kw (β:=Bool) (fun(_ _:Nat)=>none) (bi t.a_.l.length) 0=none:=lM.2 fun _ _ _=>rfl;rw[h2]at h1;simp only[iC,lD hG.1,ae,cF,cond_false,h1]
end
end Go.Proofs.YthcplpfiidlinaaDoor.J
