/- Routes: what the program's Walk, Far and r_ answer, of routes that are good. Conditions: as stated. -/
import Derived.Test.YthcplpfiidlinaaDoorJR
open Go.Ev Go
noncomputable section
open Bool renaming eq_iff_iff->dp,not_false->eK,not_true->cm
open List renaming length_append->az,length_singleton->bn,mem_map->b_,range->aK
open Option renaming bind_some->af
open Option.some renaming inj->aa,injEq->bl
namespace Go.Proofs.YthcplpfiidlinaaDoor.J
def gk(t:ah)(r:Sl (Sl Int)):Prop:=jg t r/\∀s,s<r.l.length->∀h,h<t.bf.l.length->∃k,iT t r h s k
section
variable{t:ah}{r:Sl (Sl Int)}{h:Nat}
def eJ(t:ah)(r:Sl (Sl Int))(h s:Nat):Nat:=open Classical in if hk:∃k,iT t r h s k then Classical.choose hk else 0
theorem B3{s k:Nat}(ha:iT t r h s k):eJ t r h s=k:=by
 have hk:∃k,iT t r h s k:=⟨k,ha⟩
 unfold eJ;rw[dif_pos hk];exact(Classical.choose_spec hk).Nd ha
theorem gk.eJ(hG:gk t r){s:Nat}(hs:s<r.l.length)(hh:h<t.bf.l.length):iT t r h s (eJ t r h s):=by obtain⟨k,hk⟩:=hG.2 s hs h hh;rw[B3 hk];exact hk
theorem gk.lt(hG:gk t r){s:Nat}(hs:s<r.l.length)(hh:h<t.bf.l.length):J.eJ t r h s<r.l.length:=(hG.eJ hs hh).lt hG.1 hs
def rQ(t:ah)(r:Sl (Sl Int))(h:Nat):List Int:=(aK r.l.length).map fun s=>(eJ t r h s:Int)
theorem wx:(rQ t r h).length=r.l.length:=by simp[rQ]
theorem Mc{s:Nat}(hs:s<r.l.length):gt (rQ t r h) s=(eJ t r h s:Int):=by rw[cY (by rw[wx];exact hs)];simp[rQ]
theorem Gd{n:Nat}:((aK (n+1)).map fun s=>(eJ t r h s:Int))=((aK n).map fun s=>(eJ t r h s:Int))++[(eJ t r h n:Int)]:=by rw[List.range_succ,List.map_append];rfl
theorem Hm(hh:h<t.bf.l.length):(((!true)||(decide ((h:Int)<0)))||(decide ((h:Int)>=(t.bf.l.length:Int))))=false:=by simp only[cm,Bool.false_or,Bool.or_eq_false_iff,decide_eq_false_iff_not];omega
theorem tn(hV:jg t r){s:Nat}(hs:s<r.l.length)(hh:h<t.bf.l.length):mm r (s:Int) (h:Int)=some (cZ r h s,true):=by
 have h1:decide ((s:Int)<0)=false:=by rw[decide_eq_false_iff_not];omega
 have h2:decide ((s:Int)>=(r.l.length:Int))=false:=by rw[decide_eq_false_iff_not];omega
 have h3:decide ((h:Int)<0)=false:=by rw[decide_eq_false_iff_not];omega
 have hrl:=hV.di hs;have h4:decide ((h:Int)>=((gt r.l s).l.length:Int))=false:=by rw[decide_eq_false_iff_not];omega
 have hhl:h<(gt r.l s).l.length:=by omega
 simp only[mm,h1,h2,h3,Bool.or_self,cond_false,bA hs,af,h4,bA hhl,cZ]
theorem vY(hV:jg t r)(hh:h<t.bf.l.length){s:Nat}(hs:s<r.l.length):
  nB t r (s:Int) (h:Int)=some ((kL t s (cZ r h s)).1,(kL t s (cZ r h s)).2.2.2):=by
 have hlk:=hV.tR.Hc;simp only[nB,tn hV hs hh,af,cm,cond_false,AB _ _ (show t.bS.l.length<9223372036854775808 by omega)]
def gr(l:List Nat):List Int:=l.map fun(x:Nat)=>(x:Int)
theorem mA(l:List Nat):(gr l).length=l.length:=by simp[gr]
theorem vo(l:List Nat)(i:Nat):gt (gr l) i=((gt l i:Nat):Int):=by simp only[gt,gr,List.getD_eq_getElem?_getD,List.getElem?_map];cases l[i]?<;>rfl
theorem IQ{l:List Nat}{k:Nat}:(k:Int)∈gr l<->k∈l:=by simp only[gr,b_];exact⟨fun⟨y,hy,e⟩=>by rw[show k=y by omega];exact hy,fun h=>⟨k,h,rfl⟩⟩
theorem AM(l:List Nat)(k:Nat):gr l++[(k:Int)]=gr (l++[k]):=by simp[gr]
theorem lY{s:Sl Int}(x:Int)(hb:s.l.length<9223372036854775808):cL s x=some (decide (x∈s.l)):=by
 have h:=wP (f:=fW s x) s.l (fun i y=>if x=y then some (i:Int)else none) () hb (fun i hi=>by
  have e:(x==gt s.l i)=decide (x=gt s.l i):=by rw[dp];simp
  simp only[fW,jo hi,cond_true,bA hi,af,e];by_cases hc:x=gt s.l i
  .rw [if_pos hc,decide_eq_true hc];rfl
  .rw [if_neg hc,decide_eq_false hc];rfl) (by simp only[fW,kG,cond_false])
 simp only[cL,gY,h,af];cases hs:lQ (fun i y=>if x=y then some (i:Int)else none) s.l 0 with
 |none=>
  have hn:x∉s.l:=by intro hx;obtain⟨j,hj,e⟩:=List.getElem_of_mem hx;have:=ny.1 hs j s.l[j] (by simp[hj]);rw[if_pos e.symm]at this;simp at this
  rw[decide_eq_false hn];rfl
 |some b=>
  obtain⟨j,y,h1,h2,_⟩:=nw hs;split at h2
  .rename_i hx;obtain rfl:=aa h2;rw[decide_eq_true (by rw[hx];exact List.mem_of_getElem? h1)];simp only[af,bl,decide_eq_true_eq];omega
  .simp at h2
theorem ul{l:List Nat}{x:Nat}(hb:l.length<1000000):ik (.mk (gr (l++[x])))=some (decide (x∈l)):=by
 have main:∀s:Sl Int,s=.mk (gr (l++[x]))->ik s=some (decide (x∈l)):=by
  intro s hs;have hsl:s.l=gr (l++[x]):=by rw[hs];rfl
  have hlen:s.l.length=l.length+1:=by rw[hsl,mA];simp
  have h0:decide ((s.l.length:Int)>0)=true:=by rw[decide_eq_true_eq];omega
  have hw:wr .i64 ((s.l.length:Int)-1)=(l.length:Int):=by rw[hlen,ir (by omega) (by omega)];omega
  have hcut:tY s.l 0 (l.length:Int)=some (gr l):=by rw[o_];refine⟨⟨Int.le_refl _,by omega,by omega⟩,?_⟩;rw[hsl];simp[gr]
  have hi:l.length<s.l.length:=by omega
  have hg:gt s.l l.length=(x:Int):=by rw[hsl,vo,cY (by simp)];simp
  have hto:s.to (gr l)=.mk (gr l):=by rw[hs];rfl
  have hc:=lY (s:=.mk (gr l)) (x:Int) (by rw[Sl.iZ,mA];omega);have hm:decide ((x:Int)∈(Sl.mk (gr l)).l)=decide (x∈l):=by rw[dp,decide_eq_true_eq,decide_eq_true_eq];exact IQ
  rw[hm]at hc;simp only[ik,h0,cond_true,hw,hcut,af,bA hi,hto,hg,hc]
 exact main _ rfl
theorem vp(s:Nat):decide ((gt t.bf.l h)=(⟨(s:Int),cZ r h s⟩:fK))=decide (zB t r h s):=by rw[dp,decide_eq_true_eq,decide_eq_true_eq (p:=zB t r h s)];unfold zB;generalize gt t.bf.l h=x;obtain⟨a,b⟩:=x;exact Prod.mk.injEq ..▸Iff.rfl
theorem FZ{o:List Nat}{k:Nat}:gt (o++[k]) o.length=k:=by rw[cY (by simp)];simp
theorem JN(hV:jg t r)(hh:h<t.bf.l.length):∀(m:Nat)(l:List Nat)(x:Nat),x<r.l.length->(∀y∈l,∃j,m<j/\iT t r h y j)->iT t r h x m->l.length+m<1000->
  ∃w:List Int,bE (dZ t r (h:Int)) (.mk (gr (l++[x])))=some (.inl (0,.mk w))/\w.length=l.length+m+1:=by
 intro m;induction m with
 |zero=>
  intro l x hx hl ha hb;have hno:x∉l:=fun hm=>by obtain⟨j,h1,h2⟩:=hl x hm;have:=h2.Nd ha;omega
  have htw:=ul (l:=l) (x:=x) (by omega);rw[decide_eq_false hno]at htw;have hlen:(Sl.mk (gr (l++[x]))).l.length=l.length+1:=by rw[Sl.iZ,mA];simp
  have hw:wr .i64 (((Sl.mk (gr (l++[x]))).l.length:Int)-1)=(l.length:Int):=by rw[hlen,ir (by omega) (by omega)];omega
  have hi:l.length<(Sl.mk (gr (l++[x]))).l.length:=by omega
  have hg:gt (Sl.mk (gr (l++[x]))).l l.length=(x:Int):=by rw[Sl.iZ,vo,FZ]
  have hhr:h<(gt r.l x).l.length:=by rw[hV.di hx];exact hh
  have hport:gt (gt r.l x).l h=cZ r h x:=rfl;cases ha with|BS hH=>refine⟨_,ct (by simp only[dZ,htw,af,eK,cond_true,hw,bA hi,bA hh,hg,bA hx,bA hhr,hport,vp,decide_eq_true hH];rfl),by rw[mA];simp⟩
 |succ m ih=>
  intro l x hx hl ha hb;have hno:x∉l:=fun hm=>by obtain⟨j,h1,h2⟩:=hl x hm;have:=h2.Nd ha;omega
  have htw:=ul (l:=l) (x:=x) (by omega);rw[decide_eq_false hno]at htw;have hlen:(Sl.mk (gr (l++[x]))).l.length=l.length+1:=by rw[Sl.iZ,mA];simp
  have hw:wr .i64 (((Sl.mk (gr (l++[x]))).l.length:Int)-1)=(l.length:Int):=by rw[hlen,ir (by omega) (by omega)];omega
  have hi:l.length<(Sl.mk (gr (l++[x]))).l.length:=by omega
  have hg:gt (Sl.mk (gr (l++[x]))).l l.length=(x:Int):=by rw[Sl.iZ,vo,FZ]
  have hhr:h<(gt r.l x).l.length:=by rw[hV.di hx];exact hh
  have hport:gt (gt r.l x).l h=cZ r h x:=rfl;have ha0:=ha;cases ha with
  |@kE _ y _ hH hn ha'=>
   rcases qB (h:=h) hV x with⟨e1,_⟩|⟨y',b,c,e1,hy,e2⟩
   .rw [e1]at hn;cases hn
   .rw [e1]at hn;obtain rfl:=aa hn
    obtain⟨w,h1,h2⟩:=ih (l++[x]) y' hy (fun z hz=>by
     rcases List.mem_append.1 hz with hz|hz
     .obtain ⟨j,q1,q2⟩:=hl z hz;exact⟨j,by omega,q2⟩
     .obtain rfl:=List.mem_singleton.1 hz;exact⟨m+1,by omega,ha0⟩) ha' (by rw[az,bn];omega)
    refine⟨w,?_,by rw[h2,az,bn];omega⟩;rw[dh (a':=.mk (gr (l++[x]++[y'])))]
    .exact h1
    .have hcap:jF ((Sl.mk (gr (l++[x]))).l++[(y':Int)])=some (gr (l++[x]++[y'])):=by rw[Sl.iZ,jq (by rw[az,mA];simp;omega),AM]
     simp only[dZ,htw,af,eK,cond_true,hw,bA hi,bA hh,hg,bA hx,bA hhr,hport,vp,decide_eq_false hH,cond_false,vY hV hh hx,e2,cm,hcap]
theorem ml(hV:jg t r):jm t r=some true:=by have hsm:=hV.sv;rw[wQ (by omega) (fun di hm=>by have:=(hV.ao di hm).1;have:=hV.tR.rO;omega),decide_eq_true hV]
theorem Ai(hV:jg t r)(hh:h<t.bf.l.length){s k:Nat}(hs:s<r.l.length)(ha:iT t r h s k):∃w:List Int,jy t r (s:Int) (h:Int)=some (.mk w,0)/\w.length=k+1:=by have hk:=ha.lt hV hs;have hsm:=hV.sv;obtain⟨w,h1,h2⟩:=JN hV hh k [] s hs (fun y hy=>by simp at hy) ha (by simp;omega);have h1:bE (dZ t r (h:Int)) (.mk [(s:Int)])=_:=h1;exact⟨w,by simp only[jy,tn hV hs hh,ml hV,af,cm,cond_false,h1],by simpa using h2⟩
theorem Hl(hG:gk t r)(hh:h<t.bf.l.length)(hn:0<r.l.length):lr t r (h:Int)=some (.mk (rQ t r h)):=by
 have hsm:=hG.1.sv
 have main:∀(d i:Nat),i+d=r.l.length->∀s:Sl Int,s.l=((aK i).map fun s=>(eJ t r h s:Int))->(0<i\/0<d)->(0<i->s=.mk s.l)->bE (gp t r (h:Int)) ((i:Int),s)=some (.mk (rQ t r h)):=by
  intro d;induction d with
  |zero=>
   intro i hi s hs hp hmk;obtain rfl:i=r.l.length:=by omega
   rw[ct (b:=s) (by simp only[gp,kG,cond_false]),hmk (by omega),hs];rfl
  |succ d ih=>
   intro i hi s hs hp hmk;have hlt:i<r.l.length:=by omega
   have ha:=hG.eJ hlt hh;have hb:=hG.lt hlt hh;obtain⟨l,h1,h2⟩:=Ai hG.1 hh hlt ha;have hw:wr .i64 (((Sl.mk l).l.length:Int)-1)=(eJ t r h i:Int):=by rw[Sl.iZ,h2,ir (by omega) (by omega)];omega
   have hsl:s.l.length=i:=by rw[hs];simp
   rw[dh (a':=(((i+1:Nat):Int),.mk (s.l++[(eJ t r h i:Int)]))) (by simp only[gp,jo hlt,cond_true,h1,af,hw,jq (show(s.l++[(eJ t r h i:Int)]).length<=2147483648 by rw[az,bn];omega),lp (show i<9223372036854775807 by omega)])];exact ih (i+1) (by omega) _ (by rw[Sl.iZ,hs,Gd]) (.inl (by omega)) (fun _=>rfl)
 have h1:bE (gp t r (h:Int)) (0,Sl.nil)=_:=main r.l.length 0 (by omega) .nil rfl (.inr hn) (fun h=>by omega);simp only[lr,ml hG.1,af,Hm hh,cond_false,h1]
theorem gk.UM(hG:gk t r):0<r.l.length:=by have:=hG.1.len;have:=hG.1.tR.sw;omega
theorem yY(hG:gk t r):il t r=some true:=by
 have hsm:=hG.1.sv;have hho:=hG.1.rO
 have h1:=wP (f:=gT t r) (β:=Bool) (γ:=Unit) (aK t.bf.l.length) (fun _ _=>none) () (by simp;omega) (fun i hi=>by
  have hi:i<t.bf.l.length:=by simpa using hi
  have hno:(-1:Int)∉(Sl.mk (rQ t r i)).l:=fun hm=>by obtain⟨s,_,e⟩:=b_.1 hm;omega
  have hc:=lY (s:=.mk (rQ t r i)) (-1) (by rw[Sl.iZ,wx];omega);rw[decide_eq_false hno]at hc;simp only[gT,jo hi,cond_true,Hl hG hi hG.UM,af,hc,cond_false]) (by simp only[gT,List.length_range,kG,cond_false])
 have h2:lQ (β:=Bool) (fun(_ _:Nat)=>none) (aK t.bf.l.length) 0=none:=ny.2 fun _ _ _=>rfl;rw[h2]at h1;simp only[il,ml hG.1,af,cm,cond_false,h1]
end
end Go.Proofs.YthcplpfiidlinaaDoor.J
