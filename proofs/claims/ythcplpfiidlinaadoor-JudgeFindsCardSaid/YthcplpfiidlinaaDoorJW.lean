/- Routes: what the program's Walk, Far and Good answer, of routes that are good. Conditions: as stated. -/
import Derived.Test.YthcplpfiidlinaaDoorJR
open Bool renaming eq_iff_iff->dv,not_false->dV,not_true->bS
open List renaming length_append->av,length_singleton->bp,mem_map->cj,range->aL
open Option renaming bind_some->af
open Option.some renaming inj->aa,injEq->bn
open Go.Ev Go
noncomputable section
namespace Go.Proofs.YthcplpfiidlinaaDoor.J
def gy(t:ah)(r:Sl (Sl Int)):Prop:=jo t r/\∀s,s<r.l.length->∀h,h<t.bf.l.length->∃k,ja t r h s k
section
variable{t:ah}{r:Sl (Sl Int)}{h:Nat}
def eR(t:ah)(r:Sl (Sl Int))(h s:Nat):Nat:=open Classical in if hk:∃k,ja t r h s k then Classical.choose hk else 0
theorem Cn{s k:Nat}(ha:ja t r h s k):eR t r h s=k:=by
 have hk:∃k,ja t r h s k:=⟨k,ha⟩
 unfold eR;rw[dif_pos hk];exact(Classical.choose_spec hk).NF ha
theorem gy.eR(hG:gy t r){s:Nat}(hs:s<r.l.length)(hh:h<t.bf.l.length):ja t r h s (eR t r h s):=by obtain⟨k,hk⟩:=hG.2 s hs h hh;rw[Cn hk];exact hk
theorem gy.lt(hG:gy t r){s:Nat}(hs:s<r.l.length)(hh:h<t.bf.l.length):J.eR t r h s<r.l.length:=(hG.eR hs hh).lt hG.1 hs
def sg(t:ah)(r:Sl (Sl Int))(h:Nat):List Int:=(aL r.l.length).map fun s=>(eR t r h s:Int)
theorem wM:(sg t r h).length=r.l.length:=by simp[sg]
theorem MD{s:Nat}(hs:s<r.l.length):gt (sg t r h) s=(eR t r h s:Int):=by rw[cR (by rw[wM];exact hs)];simp[sg]
theorem GC{n:Nat}:((aL (n+1)).map fun s=>(eR t r h s:Int))=((aL n).map fun s=>(eR t r h s:Int))++[(eR t r h n:Int)]:=by rw[List.range_succ,List.map_append];rfl
theorem HN(hh:h<t.bf.l.length):(((!true)||(decide ((h:Int)<0)))||(decide ((h:Int)>=(t.bf.l.length:Int))))=false:=by simp only[bS,Bool.false_or,Bool.or_eq_false_iff,decide_eq_false_iff_not];omega
theorem tN(hV:jo t r){s:Nat}(hs:s<r.l.length)(hh:h<t.bf.l.length):mD r (s:Int) (h:Int)=some (c_ r h s,true):=by
 have h1:decide ((s:Int)<0)=false:=by rw[decide_eq_false_iff_not];omega
 have h2:decide ((s:Int)>=(r.l.length:Int))=false:=by rw[decide_eq_false_iff_not];omega
 have h3:decide ((h:Int)<0)=false:=by rw[decide_eq_false_iff_not];omega
 have hrl:=hV.dl hs;have h4:decide ((h:Int)>=((gt r.l s).l.length:Int))=false:=by rw[decide_eq_false_iff_not];omega
 have hhl:h<(gt r.l s).l.length:=by omega
 simp only[mD,h1,h2,h3,Bool.or_self,cond_false,bq hs,af,h4,bq hhl,c_]
theorem wm(hV:jo t r)(hh:h<t.bf.l.length){s:Nat}(hs:s<r.l.length):
  nO t r (s:Int) (h:Int)=some ((kT t s (c_ r h s)).1,(kT t s (c_ r h s)).2.2.2):=by
 have hlk:=hV.sJ.HD;simp only[nO,tN hV hs hh,af,bS,cond_false,AW _ _ (show t.bW.l.length<9223372036854775808 by omega)]
def gC(l:List Nat):List Int:=l.map fun(x:Nat)=>(x:Int)
theorem mP(l:List Nat):(gC l).length=l.length:=by simp[gC]
theorem vD(l:List Nat)(i:Nat):gt (gC l) i=((gt l i:Nat):Int):=by simp only[gt,gC,List.getD_eq_getElem?_getD,List.getElem?_map];cases l[i]?<;>rfl
theorem Jh{l:List Nat}{k:Nat}:(k:Int)∈gC l<->k∈l:=by simp only[gC,cj];exact⟨fun⟨y,hy,e⟩=>by rw[show k=y by omega];exact hy,fun h=>⟨k,h,rfl⟩⟩
theorem A8(l:List Nat)(k:Nat):gC l++[(k:Int)]=gC (l++[k]):=by simp[gC]
theorem mi{s:Sl Int}(x:Int)(hb:s.l.length<9223372036854775808):cO s x=some (decide (x∈s.l)):=by
 have h:=w8 (f:=gf s x) s.l (fun i y=>if x=y then some (i:Int)else none) () hb (fun i hi=>by
  have e:(x==gt s.l i)=decide (x=gt s.l i):=by rw[dv];simp
  simp only[gf,jw hi,cond_true,bq hi,af,e];by_cases hc:x=gt s.l i
  .rw [if_pos hc,decide_eq_true hc];rfl
  .rw [if_neg hc,decide_eq_false hc];rfl) (by simp only[gf,kO,cond_false])
 simp only[cO,ia,h,af];cases hs:lZ (fun i y=>if x=y then some (i:Int)else none) s.l 0 with
 |none=>
  have hn:x∉s.l:=by intro hx;obtain⟨j,hj,e⟩:=List.getElem_of_mem hx;have:=nL.1 hs j s.l[j] (by simp[hj]);rw[if_pos e.symm]at this;simp at this
  rw[decide_eq_false hn];rfl
 |some b=>
  obtain⟨j,y,h1,h2,_⟩:=nJ hs;split at h2
  .rename_i hx;obtain rfl:=aa h2;rw[decide_eq_true (by rw[hx];exact List.mem_of_getElem? h1)];simp only[af,bn,decide_eq_true_eq];omega
  .simp at h2
theorem uB{l:List Nat}{x:Nat}(hb:l.length<1000000):iu (.mk (gC (l++[x])))=some (decide (x∈l)):=by
 have main:∀s:Sl Int,s=.mk (gC (l++[x]))->iu s=some (decide (x∈l)):=by
  intro s hs;have hsl:s.l=gC (l++[x]):=by rw[hs];rfl
  have hlen:s.l.length=l.length+1:=by rw[hsl,mP];simp
  have h0:decide ((s.l.length:Int)>0)=true:=by rw[decide_eq_true_eq];omega
  have hw:wr .i64 ((s.l.length:Int)-1)=(l.length:Int):=by rw[hlen,ii (by omega) (by omega)];omega
  have hcut:qE s.l 0 (l.length:Int)=some (gC l):=by rw[n_];refine⟨⟨Int.le_refl _,by omega,by omega⟩,?_⟩;rw[hsl];simp[gC]
  have hi:l.length<s.l.length:=by omega
  have hg:gt s.l l.length=(x:Int):=by rw[hsl,vD,cR (by simp)];simp
  have hto:s.to (gC l)=.mk (gC l):=by rw[hs];rfl
  have hc:=mi (s:=.mk (gC l)) (x:Int) (by rw[Sl.iP,mP];omega);have hm:decide ((x:Int)∈(Sl.mk (gC l)).l)=decide (x∈l):=by rw[dv,decide_eq_true_eq,decide_eq_true_eq];exact Jh
  rw[hm]at hc;simp only[iu,h0,cond_true,hw,hcut,af,bq hi,hto,hg,hc]
 exact main _ rfl
theorem vE(s:Nat):decide ((gt t.bf.l h)=(⟨(s:Int),c_ r h s⟩:fU))=decide (zS t r h s):=by rw[dv,decide_eq_true_eq,decide_eq_true_eq (p:=zS t r h s)];unfold zS;generalize gt t.bf.l h=x;obtain⟨a,b⟩:=x;exact Prod.mk.injEq ..▸Iff.rfl
theorem Gn{o:List Nat}{k:Nat}:gt (o++[k]) o.length=k:=by rw[cR (by simp)];simp
theorem Kg(hV:jo t r)(hh:h<t.bf.l.length):∀(m:Nat)(l:List Nat)(x:Nat),x<r.l.length->(∀y∈l,∃j,m<j/\ja t r h y j)->ja t r h x m->l.length+m<1000->
  ∃w:List Int,bE (er t r (h:Int)) (.mk (gC (l++[x])))=some (.inl (0,.mk w))/\w.length=l.length+m+1:=by
 intro m;induction m with
 |zero=>
  intro l x hx hl ha hb;have hno:x∉l:=fun hm=>by obtain⟨j,h1,h2⟩:=hl x hm;have:=h2.NF ha;omega
  have htw:=uB (l:=l) (x:=x) (by omega);rw[decide_eq_false hno]at htw;have hlen:(Sl.mk (gC (l++[x]))).l.length=l.length+1:=by rw[Sl.iP,mP];simp
  have hw:wr .i64 (((Sl.mk (gC (l++[x]))).l.length:Int)-1)=(l.length:Int):=by rw[hlen,ii (by omega) (by omega)];omega
  have hi:l.length<(Sl.mk (gC (l++[x]))).l.length:=by omega
  have hg:gt (Sl.mk (gC (l++[x]))).l l.length=(x:Int):=by rw[Sl.iP,vD,Gn]
  have hhr:h<(gt r.l x).l.length:=by rw[hV.dl hx];exact hh
  have hport:gt (gt r.l x).l h=c_ r h x:=rfl;cases ha with|Cc hH=>refine⟨_,cB (by simp only[er,htw,af,dV,cond_true,hw,bq hi,bq hh,hg,bq hx,bq hhr,hport,vE,decide_eq_true hH];rfl),by rw[mP];simp⟩
 |succ m ih=>
  intro l x hx hl ha hb;have hno:x∉l:=fun hm=>by obtain⟨j,h1,h2⟩:=hl x hm;have:=h2.NF ha;omega
  have htw:=uB (l:=l) (x:=x) (by omega);rw[decide_eq_false hno]at htw;have hlen:(Sl.mk (gC (l++[x]))).l.length=l.length+1:=by rw[Sl.iP,mP];simp
  have hw:wr .i64 (((Sl.mk (gC (l++[x]))).l.length:Int)-1)=(l.length:Int):=by rw[hlen,ii (by omega) (by omega)];omega
  have hi:l.length<(Sl.mk (gC (l++[x]))).l.length:=by omega
  have hg:gt (Sl.mk (gC (l++[x]))).l l.length=(x:Int):=by rw[Sl.iP,vD,Gn]
  have hhr:h<(gt r.l x).l.length:=by rw[hV.dl hx];exact hh
  have hport:gt (gt r.l x).l h=c_ r h x:=rfl;have ha0:=ha;cases ha with
  |@kM _ y _ hH hn ha'=>
   rcases qO (h:=h) hV x with⟨e1,_⟩|⟨y',b,c,e1,hy,e2⟩
   .rw [e1]at hn;cases hn
   .rw [e1]at hn;obtain rfl:=aa hn
    obtain⟨w,h1,h2⟩:=ih (l++[x]) y' hy (fun z hz=>by
     rcases List.mem_append.1 hz with hz|hz
     .obtain ⟨j,q1,q2⟩:=hl z hz;exact⟨j,by omega,q2⟩
     .obtain rfl:=List.mem_singleton.1 hz;exact⟨m+1,by omega,ha0⟩) ha' (by rw[av,bp];omega)
    refine⟨w,?_,by rw[h2,av,bp];omega⟩;rw[dm (a':=.mk (gC (l++[x]++[y'])))]
    .exact h1
    .have hcap:iI ((Sl.mk (gC (l++[x]))).l++[(y':Int)])=some (gC (l++[x]++[y'])):=by rw[Sl.iP,il (by rw[av,mP];simp;omega),A8]
     simp only[er,htw,af,dV,cond_true,hw,bq hi,bq hh,hg,bq hx,bq hhr,hport,vE,decide_eq_false hH,cond_false,wm hV hh hx,e2,bS,hcap]
theorem mC(hV:jo t r):ju t r=some true:=by have hsm:=hV.sM;rw[w9 (by omega) (fun dl hm=>by have:=(hV.aq dl hm).1;have:=hV.sJ.se;omega),decide_eq_true hV]
theorem AE(hV:jo t r)(hh:h<t.bf.l.length){s k:Nat}(hs:s<r.l.length)(ha:ja t r h s k):∃w:List Int,jE t r (s:Int) (h:Int)=some (.mk w,0)/\w.length=k+1:=by have hk:=ha.lt hV hs;have hsm:=hV.sM;obtain⟨w,h1,h2⟩:=Kg hV hh k [] s hs (fun y hy=>by simp at hy) ha (by simp;omega);have h1:bE (er t r (h:Int)) (.mk [(s:Int)])=_:=h1;exact⟨w,by simp only[jE,tN hV hs hh,mC hV,af,bS,cond_false,h1],by simpa using h2⟩
theorem HM(hG:gy t r)(hh:h<t.bf.l.length)(hn:0<r.l.length):lF t r (h:Int)=some (.mk (sg t r h)):=by
 have hsm:=hG.1.sM
 have main:∀(d i:Nat),i+d=r.l.length->∀s:Sl Int,s.l=((aL i).map fun s=>(eR t r h s:Int))->(0<i\/0<d)->(0<i->s=.mk s.l)->bE (gA t r (h:Int)) ((i:Int),s)=some (.mk (sg t r h)):=by
  intro d;induction d with
  |zero=>
   intro i hi s hs hp hmk;obtain rfl:i=r.l.length:=by omega
   rw[cB (b:=s) (by simp only[gA,kO,cond_false]),hmk (by omega),hs];rfl
  |succ d ih=>
   intro i hi s hs hp hmk;have hlt:i<r.l.length:=by omega
   have ha:=hG.eR hlt hh;have hb:=hG.lt hlt hh;obtain⟨l,h1,h2⟩:=AE hG.1 hh hlt ha;have hw:wr .i64 (((Sl.mk l).l.length:Int)-1)=(eR t r h i:Int):=by rw[Sl.iP,h2,ii (by omega) (by omega)];omega
   have hsl:s.l.length=i:=by rw[hs];simp
   rw[dm (a':=(((i+1:Nat):Int),.mk (s.l++[(eR t r h i:Int)]))) (by simp only[gA,jw hlt,cond_true,h1,af,hw,il (show(s.l++[(eR t r h i:Int)]).length<=2147483648 by rw[av,bp];omega),k_ (show i<9223372036854775807 by omega)])];exact ih (i+1) (by omega) _ (by rw[Sl.iP,hs,GC]) (.inl (by omega)) (fun _=>rfl)
 have h1:bE (gA t r (h:Int)) (0,Sl.nil)=_:=main r.l.length 0 (by omega) .nil rfl (.inr hn) (fun h=>by omega);simp only[lF,mC hG.1,af,HN hh,cond_false,h1]
theorem gy.U8(hG:gy t r):0<r.l.length:=by have:=hG.1.len;have:=hG.1.sJ.sw;omega
theorem zk(hG:gy t r):iv t r=some true:=by
 have hsm:=hG.1.sM;have hho:=hG.1.se
 have h1:=w8 (f:=gZ t r) (β:=Bool) (γ:=Unit) (aL t.bf.l.length) (fun _ _=>none) () (by simp;omega) (fun i hi=>by
  have hi:i<t.bf.l.length:=by simpa using hi
  have hno:(-1:Int)∉(Sl.mk (sg t r i)).l:=fun hm=>by obtain⟨s,_,e⟩:=cj.1 hm;omega
  have hc:=mi (s:=.mk (sg t r i)) (-1) (by rw[Sl.iP,wM];omega);rw[decide_eq_false hno]at hc;simp only[gZ,jw hi,cond_true,HM hG hi hG.U8,af,hc,cond_false]) (by simp only[gZ,List.length_range,kO,cond_false])
 have h2:lZ (β:=Bool) (fun(_ _:Nat)=>none) (aL t.bf.l.length) 0=none:=nL.2 fun _ _ _=>rfl;rw[h2]at h1;simp only[iv,mC hG.1,af,bS,cond_false,h1]
end
end Go.Proofs.YthcplpfiidlinaaDoor.J
