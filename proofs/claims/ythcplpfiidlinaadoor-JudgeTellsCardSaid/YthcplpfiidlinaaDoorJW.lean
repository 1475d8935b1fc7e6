/- Routes: what the program's Walk, Far and Cz answer, of routes that are good. Conditions: as stated. -/
import Derived.Test.YthcplpfiidlinaaDoorJR
open Go.Ev Go
noncomputable section
open Bool renaming eq_iff_iff->bT,not_false->dv,not_true->bO
open Classical renaming byContradiction->gJ
open List renaming length_append->ap,length_range->kW,length_singleton->aW,mem_map->c9,mem_of_getElem?->bk,range->bt
open Option renaming bind_some->ae
open Option.some renaming inj->aa,injEq->bE
namespace Go.Proofs.YthcplpfiidlinaaDoor.J
def ny(t:af)(r:Sl (Sl Int)):Prop:=fq t r/\∀s,s<r.l.length->∀h,h<t.aN.l.length->∃k,gj t r h s k
section
variable{t:af}{r:Sl (Sl Int)}{h:Nat}
theorem xp(hS:o5 t r):pX t r=some (tt (ny t r)):=by
 unfold pX;simp only[pW hS,ae];by_cases hV:fq t r
 rotate_left
 .rw [decide_eq_false hV,rU fun h=>hV h.1];rfl
 have hsm:=hV.uB;have hho:=hV.qd
 have hin:∀s:Nat,s<r.l.length->bc (kF t r (s:Int)) 0=some (bif tt (∀h,h<t.aN.l.length->∃k,gj t r h s k)then .inr ()else .inl false):=by
  intro s hs
  have h1:=tn (f:=kF t r (s:Int)) (bt t.aN.l.length) (fun _ h=>bif tt (∃k,gj t r h s k)then none else some false) () (by simp;omega) (fun i hi=>by
   have hi:i<t.aN.l.length:=by simpa using hi
   have hg:gt (bt t.aN.l.length) i=i:=by rw[dV (by simpa using hi)];simp
   rw[hg];by_cases hk:∃k,gj t r i s k
   .obtain ⟨k,hk⟩:=hk;obtain⟨l,h2,_⟩:=BQ hS hV hi hs hk;rw[uQ ⟨k,hk⟩];simp only[kF,fz hi,cond_true,h2,ae,bne_self_eq_false,cond_false]
   .obtain ⟨e,h2,h3⟩:=BP hS hV hi hs (fun k hh=>hk ⟨k,hh⟩);have h4:(e !=0)=true:=by simpa using h3
    rw[rU hk];simp only[kF,fz hi,cond_true,h2,ae,h4,cond_false]) (by simp only[kF,kW,gk,cond_false])
  rw[h1];cases hc:lP (fun _ h=>bif tt (∃k,gj t r h s k)then none else some false) (bt t.aN.l.length) 0 with
  |none=>
   rw[uQ]
   .rfl
   intro h hh;have:=nM.1 hc h h (by simp[hh]);apply gJ;intro hn;rw[rU hn]at this;simp at this
  |some b=>
   obtain⟨j,x,h2,h3,_⟩:=nL hc;have hx:x<t.aN.l.length:=by have:=bk h2;simpa using this
   cases hq:tt (∃k,gj t r x s k)with
   |true=>rw[hq]at h3;simp at h3
   |false=>
    rw[hq]at h3;obtain rfl:false=b:=by simpa using h3
    rw[rU]
    .rfl
    exact fun hall=>vq.1 hq (hall x hx)
 have h1:=tn (f:=ot t r) (bt r.l.length) (fun _ s=>bif tt (∀h,h<t.aN.l.length->∃k,gj t r h s k)then none else some false) () (by simp;omega) (fun i hi=>by
  have hi:i<r.l.length:=by simpa using hi
  have hg:gt (bt r.l.length) i=i:=by rw[dV (by simpa using hi)];simp
  rw[hg];simp only[ot,fz hi,cond_true,hin i hi];by_cases hk:∀h,h<t.aN.l.length->∃k,gj t r h i k
  .rw [uQ hk];rfl
  .rw [rU hk];rfl) (by simp only[ot,kW,gk,cond_false])
 rw[decide_eq_true hV];simp only[bO,cond_false,h1];cases hc:lP (fun _ s=>bif tt (∀h,h<t.aN.l.length->∃k,gj t r h s k)then none else some false) (bt r.l.length) 0 with
 |none=>
  rw[uQ]
  .rfl
  .refine ⟨hV,fun s hs=>?_⟩;have:=nM.1 hc s s (by simp[hs]);apply gJ;intro hn;rw[rU hn]at this;simp at this
 |some b=>
  obtain⟨j,x,h2,h3,_⟩:=nL hc;have hx:x<r.l.length:=by have:=bk h2;simpa using this
  cases hq:tt (∀h,h<t.aN.l.length->∃k,gj t r h x k)with
  |true=>rw[hq]at h3;simp at h3
  |false=>
   rw[hq]at h3;obtain rfl:false=b:=by simpa using h3
   rw[rU fun hG=>vq.1 hq (hG.2 x hx)];rfl
def jE(t:af)(r:Sl (Sl Int))(h s:Nat):Nat:=open Classical in if hk:∃k,gj t r h s k then Classical.choose hk else 0
theorem Hl{s k:Nat}(ha:gj t r h s k):jE t r h s=k:=by
 have hk:∃k,gj t r h s k:=⟨k,ha⟩
 unfold jE;rw[dif_pos hk];exact(Classical.choose_spec hk).Mg ha
theorem ny.jE(hG:ny t r){s:Nat}(hs:s<r.l.length)(hh:h<t.aN.l.length):gj t r h s (jE t r h s):=by obtain⟨k,hk⟩:=hG.2 s hs h hh;rw[Hl hk];exact hk
theorem ny.lt(hG:ny t r){s:Nat}(hs:s<r.l.length)(hh:h<t.aN.l.length):J.jE t r h s<r.l.length:=(hG.jE hs hh).lt hG.1 hs
def Bj(t:af)(r:Sl (Sl Int))(h:Nat):List Int:=(bt r.l.length).map fun s=>(jE t r h s:Int)
theorem IW:(Bj t r h).length=r.l.length:=by simp[Bj]
theorem Gj{n:Nat}:((bt (n+1)).map fun s=>(jE t r h s:Int))=((bt n).map fun s=>(jE t r h s:Int))++[(jE t r h n:Int)]:=by rw[List.range_succ,List.map_append];rfl
theorem Hg(hh:h<t.aN.l.length):(((!true)||(decide ((h:Int)<0)))||(decide ((h:Int)>=(t.aN.l.length:Int))))=false:=by simp only[bO,Bool.false_or,Bool.or_eq_false_iff,decide_eq_false_iff_not];omega
theorem ua(hV:fq t r){s:Nat}(hs:s<r.l.length)(hh:h<t.aN.l.length):mz r (s:Int) (h:Int)=some (lj r h s,true):=by
 have h1:decide ((s:Int)<0)=false:=by rw[decide_eq_false_iff_not];omega
 have h2:decide ((s:Int)>=(r.l.length:Int))=false:=by rw[decide_eq_false_iff_not];omega
 have h3:decide ((h:Int)<0)=false:=by rw[decide_eq_false_iff_not];omega
 have hrl:=hV.cU hs;have h4:decide ((h:Int)>=((gt r.l s).l.length:Int))=false:=by rw[decide_eq_false_iff_not];omega
 have hhl:h<(gt r.l s).l.length:=by omega
 simp only[mz,h1,h2,h3,Bool.or_self,cond_false,bm hs,ae,h4,bm hhl,lj]
theorem wC(hV:fq t r)(hh:h<t.aN.l.length){s:Nat}(hs:s<r.l.length):
  nP t r (s:Int) (h:Int)=some ((jb t s (lj r h s)).1,(jb t s (lj r h s)).2.2.2):=by
 have hlk:=hV.vu.xx;simp only[nP,ua hV hs hh,ae,bO,cond_false,AU _ _ (show t.aY.l.length<9223372036854775808 by omega)]
def gr(l:List Nat):List Int:=l.map fun(x:Nat)=>(x:Int)
theorem mN(l:List Nat):(gr l).length=l.length:=by simp[gr]
theorem vT(l:List Nat)(i:Nat):gt (gr l) i=((gt l i:Nat):Int):=by simp only[gt,gr,List.getD_eq_getElem?_getD,List.getElem?_map];cases l[i]?<;>rfl
theorem IB{l:List Nat}{k:Nat}:(k:Int)∈gr l<->k∈l:=by simp only[gr,c9];exact⟨fun⟨y,hy,e⟩=>by rw[show k=y by omega];exact hy,fun h=>⟨k,h,rfl⟩⟩
theorem A3(l:List Nat)(k:Nat):gr l++[(k:Int)]=gr (l++[k]):=by simp[gr]
theorem oD{s:Sl Int}(x:Int)(hb:s.l.length<9223372036854775808):cZ s x=some (decide (x∈s.l)):=by
 have h:=tn (f:=fY s x) s.l (fun i y=>if x=y then some (i:Int)else none) () hb (fun i hi=>by
  have e:(x==gt s.l i)=decide (x=gt s.l i):=by rw[bT];simp
  simp only[fY,fz hi,cond_true,bm hi,ae,e];by_cases hc:x=gt s.l i
  .rw [if_pos hc,decide_eq_true hc];rfl
  .rw [if_neg hc,decide_eq_false hc];rfl) (by simp only[fY,gk,cond_false])
 simp only[cZ,gY,h,ae];cases hs:lP (fun i y=>if x=y then some (i:Int)else none) s.l 0 with
 |none=>
  have hn:x∉s.l:=by intro hx;obtain⟨j,hj,e⟩:=List.getElem_of_mem hx;have:=nM.1 hs j s.l[j] (by simp[hj]);rw[if_pos e.symm]at this;simp at this
  rw[decide_eq_false hn];rfl
 |some b=>
  obtain⟨j,y,h1,h2,_⟩:=nL hs;split at h2
  .rename_i hx;obtain rfl:=aa h2;rw[decide_eq_true (by rw[hx];exact bk h1)];simp only[ae,bE,decide_eq_true_eq];omega
  .simp at h2
theorem uP{l:List Nat}{x:Nat}(hb:l.length<1000000):il (.mk (gr (l++[x])))=some (decide (x∈l)):=by
 have main:∀s:Sl Int,s=.mk (gr (l++[x]))->il s=some (decide (x∈l)):=by
  intro s hs;have hsl:s.l=gr (l++[x]):=by rw[hs];rfl
  have hlen:s.l.length=l.length+1:=by rw[hsl,mN];simp
  have h0:decide ((s.l.length:Int)>0)=true:=by rw[decide_eq_true_eq];omega
  have hw:wr .i64 ((s.l.length:Int)-1)=(l.length:Int):=by rw[hlen,ku (by omega) (by omega)];omega
  have hcut:uy s.l 0 (l.length:Int)=some (gr l):=by rw[pN];refine⟨⟨Int.le_refl _,by omega,by omega⟩,?_⟩;rw[hsl];simp[gr]
  have hi:l.length<s.l.length:=by omega
  have hg:gt s.l l.length=(x:Int):=by rw[hsl,vT,dV (by simp)];simp
  have hto:s.to (gr l)=.mk (gr l):=by rw[hs];rfl
  have hc:=oD (s:=.mk (gr l)) (x:Int) (by rw[Sl.lp,mN];omega);have hm:decide ((x:Int)∈(Sl.mk (gr l)).l)=decide (x∈l):=by rw[bT,decide_eq_true_eq,decide_eq_true_eq];exact IB
  rw[hm]at hc;simp only[il,h0,cond_true,hw,hcut,ae,bm hi,hto,hg,hc]
 exact main _ rfl
theorem vU(s:Nat):decide ((gt t.aN.l h)=(⟨(s:Int),lj r h s⟩:cW))=decide (uz t r h s):=by rw[bT,decide_eq_true_eq,decide_eq_true_eq (p:=uz t r h s)];unfold uz;generalize gt t.aN.l h=x;obtain⟨a,b⟩:=x;exact Prod.mk.injEq ..▸Iff.rfl
theorem F9{o:List Nat}{k:Nat}:gt (o++[k]) o.length=k:=by rw[dV (by simp)];simp
theorem Js(hV:fq t r)(hh:h<t.aN.l.length):∀(m:Nat)(l:List Nat)(x:Nat),x<r.l.length->(∀y∈l,∃j,m<j/\gj t r h y j)->gj t r h x m->l.length+m<1000->
  ∃w:List Int,bc (eg t r (h:Int)) (.mk (gr (l++[x])))=some (.inl (0,.mk w))/\w.length=l.length+m+1:=by
 intro m;induction m with
 |zero=>
  intro l x hx hl ha hb;have hno:x∉l:=fun hm=>by obtain⟨j,h1,h2⟩:=hl x hm;have:=h2.Mg ha;omega
  have htw:=uP (l:=l) (x:=x) (by omega);rw[decide_eq_false hno]at htw;have hlen:(Sl.mk (gr (l++[x]))).l.length=l.length+1:=by rw[Sl.lp,mN];simp
  have hw:wr .i64 (((Sl.mk (gr (l++[x]))).l.length:Int)-1)=(l.length:Int):=by rw[hlen,ku (by omega) (by omega)];omega
  have hi:l.length<(Sl.mk (gr (l++[x]))).l.length:=by omega
  have hg:gt (Sl.mk (gr (l++[x]))).l l.length=(x:Int):=by rw[Sl.lp,vT,F9]
  have hhr:h<(gt r.l x).l.length:=by rw[hV.cU hx];exact hh
  have hport:gt (gt r.l x).l h=lj r h x:=rfl;cases ha with|Aj hH=>refine⟨_,bC (by simp only[eg,htw,ae,dv,cond_true,hw,bm hi,bm hh,hg,bm hx,bm hhr,hport,vU,decide_eq_true hH];rfl),by rw[mN];simp⟩
 |succ m ih=>
  intro l x hx hl ha hb;have hno:x∉l:=fun hm=>by obtain⟨j,h1,h2⟩:=hl x hm;have:=h2.Mg ha;omega
  have htw:=uP (l:=l) (x:=x) (by omega);rw[decide_eq_false hno]at htw;have hlen:(Sl.mk (gr (l++[x]))).l.length=l.length+1:=by rw[Sl.lp,mN];simp
  have hw:wr .i64 (((Sl.mk (gr (l++[x]))).l.length:Int)-1)=(l.length:Int):=by rw[hlen,ku (by omega) (by omega)];omega
  have hi:l.length<(Sl.mk (gr (l++[x]))).l.length:=by omega
  have hg:gt (Sl.mk (gr (l++[x]))).l l.length=(x:Int):=by rw[Sl.lp,vT,F9]
  have hhr:h<(gt r.l x).l.length:=by rw[hV.cU hx];exact hh
  have hport:gt (gt r.l x).l h=lj r h x:=rfl;have ha0:=ha;cases ha with
  |@ja _ y _ hH hn ha'=>
   rcases ud (h:=h) hV x with⟨e1,_⟩|⟨y',b,c,e1,hy,e2⟩
   .rw [e1]at hn;cases hn
   .rw [e1]at hn;obtain rfl:=aa hn
    obtain⟨w,h1,h2⟩:=ih (l++[x]) y' hy (fun z hz=>by
     rcases List.mem_append.1 hz with hz|hz
     .obtain ⟨j,q1,q2⟩:=hl z hz;exact⟨j,by omega,q2⟩
     .obtain rfl:=List.mem_singleton.1 hz;exact⟨m+1,by omega,ha0⟩) ha' (by rw[ap,aW];omega)
    refine⟨w,?_,by rw[h2,ap,aW];omega⟩;rw[bL (a':=.mk (gr (l++[x]++[y'])))]
    .exact h1
    .have hcap:fF ((Sl.mk (gr (l++[x]))).l++[(y':Int)])=some (gr (l++[x]++[y'])):=by rw[Sl.lp,fR (by rw[ap,mN];simp;omega),A3]
     simp only[eg,htw,ae,dv,cond_true,hw,bm hi,bm hh,hg,bm hx,bm hhr,hport,vU,decide_eq_false hH,cond_false,wC hV hh hx,e2,bO,hcap]
theorem my(hV:fq t r):jm t r=some true:=by have hsm:=hV.uB;rw[xl (by omega) (fun cU hm=>by have:=(hV.ao cU hm).1;have:=hV.vu.qd;omega),decide_eq_true hV]
theorem AA(hV:fq t r)(hh:h<t.aN.l.length){s k:Nat}(hs:s<r.l.length)(ha:gj t r h s k):∃w:List Int,ju t r (s:Int) (h:Int)=some (.mk w,0)/\w.length=k+1:=by have hk:=ha.lt hV hs;have hsm:=hV.uB;obtain⟨w,h1,h2⟩:=Js hV hh k [] s hs (fun y hy=>by simp at hy) ha (by simp;omega);have h1:bc (eg t r (h:Int)) (.mk [(s:Int)])=_:=h1;exact⟨w,by simp only[ju,ua hV hs hh,my hV,ae,bO,cond_false,h1],by simpa using h2⟩
theorem Ng(hG:ny t r)(hh:h<t.aN.l.length)(hn:0<r.l.length):mK t r (h:Int)=some (.mk (Bj t r h)):=by
 have hsm:=hG.1.uB
 have main:∀(d i:Nat),i+d=r.l.length->∀s:Sl Int,s.l=((bt i).map fun s=>(jE t r h s:Int))->(0<i\/0<d)->(0<i->s=.mk s.l)->bc (gp t r (h:Int)) ((i:Int),s)=some (.mk (Bj t r h)):=by
  intro d;induction d with
  |zero=>
   intro i hi s hs hp hmk;obtain rfl:i=r.l.length:=by omega
   rw[bC (b:=s) (by simp only[gp,gk,cond_false]),hmk (by omega),hs];rfl
  |succ d ih=>
   intro i hi s hs hp hmk;have hlt:i<r.l.length:=by omega
   have ha:=hG.jE hlt hh;have hb:=hG.lt hlt hh;obtain⟨l,h1,h2⟩:=AA hG.1 hh hlt ha;have hw:wr .i64 (((Sl.mk l).l.length:Int)-1)=(jE t r h i:Int):=by rw[Sl.lp,h2,ku (by omega) (by omega)];omega
   have hsl:s.l.length=i:=by rw[hs];simp
   rw[bL (a':=(((i+1:Nat):Int),.mk (s.l++[(jE t r h i:Int)]))) (by simp only[gp,fz hlt,cond_true,h1,ae,hw,fR (show(s.l++[(jE t r h i:Int)]).length<=2147483648 by rw[ap,aW];omega),gB (show i<9223372036854775807 by omega)])];exact ih (i+1) (by omega) _ (by rw[Sl.lp,hs,Gj]) (.inl (by omega)) (fun _=>rfl)
 have h1:bc (gp t r (h:Int)) (0,Sl.nil)=_:=main r.l.length 0 (by omega) .nil rfl (.inr hn) (fun h=>by omega);simp only[mK,my hG.1,ae,Hg hh,cond_false,h1]
theorem ny.T6(hG:ny t r):0<r.l.length:=by have:=hG.1.len;have:=hG.1.vu.sw;omega
theorem K5(hG:ny t r):jw t r=some true:=by
 have hsm:=hG.1.uB;have hho:=hG.1.qd
 have h1:=tn (f:=gS t r) (β:=Bool) (γ:=Unit) (bt t.aN.l.length) (fun _ _=>none) () (by simp;omega) (fun i hi=>by
  have hi:i<t.aN.l.length:=by simpa using hi
  have hno:(-1:Int)∉(Sl.mk (Bj t r i)).l:=fun hm=>by obtain⟨s,_,e⟩:=c9.1 hm;omega
  have hc:=oD (s:=.mk (Bj t r i)) (-1) (by rw[Sl.lp,IW];omega);rw[decide_eq_false hno]at hc;simp only[gS,fz hi,cond_true,Ng hG hi hG.T6,ae,hc,cond_false]) (by simp only[gS,kW,gk,cond_false])
 have h2:lP (β:=Bool) (fun(_ _:Nat)=>none) (bt t.aN.l.length) 0=none:=nM.2 fun _ _ _=>rfl;rw[h2]at h1;simp only[jw,my hG.1,ae,bO,cond_false,h1]
end
end Go.Proofs.YthcplpfiidlinaaDoor.J
