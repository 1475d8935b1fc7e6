/- Rounds of moves: what the program's Rounds answers. Conditions: as stated. -/
import Derived.Test.YtoekkpmeeclpeaaGreatLK
open Bool renaming not_true->bX,or_eq_false_iff->bV
open Int renaming le_refl->gI
open List renaming ext_getElem->gi,getElem?_eq_getElem->bf,getElem_append_left->sJ,getElem_map->jM,getElem_mem->cW,getElem_range->oZ,length_append->au,length_pos_iff->ji,length_singleton->aH,length_take->bw,mem_append->aK,mem_cons->aO,mem_cons_of_mem->bp,mem_cons_self->aL,mem_filter->dy,mem_map->aR,mem_range->ct,mem_singleton->aB,pairwise_append->ki,pairwise_cons->dW,range->aG,take_append_getElem->dZ,take_length->dM
open List.Pairwise renaming imp_of_mem->j6
open Nat renaming blt_eq->fM,zero_le->cG
open Option renaming bind_some->aa
open Option.some renaming injEq->eZ
open Go.Ev Go
namespace Go.Proofs.YtoekkpmeeclpeaaGreat.S
theorem Yu{α:Type}{R:α->α->Prop}(aay:∀x y,R x y->¬R y x):∀{a b:List α},a.Pairwise R->b.Pairwise R->(∀x,x∈a<->x∈b)->a=b:=by
 intro a;induction a with
 |nil=>intro b _ _ h;cases b with|nil=>rfl|cons y b=>exact absurd ((h y).2 (aL ..)) (by simp)
 |cons x a ih=>
  intro b ha hb h;cases b with
  |nil=>exact absurd ((h x).1 (aL ..)) (by simp)
  |cons y b=>
   obtain⟨ha1,ha2⟩:=dW.1 ha;obtain⟨hb1,hb2⟩:=dW.1 hb
   have e:x=y:=by
    rcases aO.1 ((h x).1 (aL ..))with e|hx
    .exact e
    .rcases aO.1 ((h y).2 (aL ..))with e|hy
     .exact e.symm
     .exact absurd (ha1 y hy) (aay _ _ (hb1 x hx))
   subst e;congr 1;refine ih ha2 hb2 fun z=>⟨fun hz=>?_,fun hz=>?_⟩
   .rcases aO.1 ((h z).1 (bp _ hz))with rfl|hz2
    .exact absurd (ha1 z hz) (aay _ _ (ha1 z hz))
    .exact hz2
   .rcases aO.1 ((h z).2 (bp _ hz))with rfl|hz2
    .exact absurd (hb1 z hz) (aay _ _ (hb1 z hz))
    .exact hz2
theorem aaz{a b:List Int}(ha:a.Pairwise (·<·))(hb:b.Pairwise (·<·))(h:∀x,x∈a<->x∈b):a=b:=Yu (R:=(·<·)) (fun x y h1 h2=>by omega) ha hb h
theorem Ua(l:List Int):vG l=((aG l.length).filter fun j=>decide (j=0\/gt l j≠gt l (j-1))).map (gt l):=by
 have g:∀j,l.toArray[j]! =gt l j:=fun j=>by
  simp only[gt,List.getD_eq_getElem?_getD];by_cases hj:j<l.length
  .simp [hj]
  .simp [hj]
 show((aG l.length).filter (Lib.keeps l.toArray)).map (fun j=>l.toArray[j]!)=_;rw[show(fun j=>l.toArray[j]!)=gt l from funext g];congr 1;apply List.filter_congr;intro j _;unfold Lib.keeps;rw[g,g]
theorem aac{l:List Int}{x:Int}:x∈vG l<->x∈l:=by
 rw[Ua];constructor
 .intro h;obtain⟨j,hj,rfl⟩:=aR.1 h;have hl:j<l.length:=by have:=(dy.1 hj).1;simpa using this
  rw[dx hl];exact cW _
 .intro h;obtain⟨j,hj,e⟩:=List.mem_iff_getElem.1 h
  have main:∀j,j<l.length->gt l j=x->x∈((aG l.length).filter fun j=>decide (j=0\/gt l j≠gt l (j-1))).map (gt l):=by
   intro j;induction j with
   |zero=>intro hj e;exact aR.2 ⟨0,dy.2 ⟨by simpa using hj,by simp⟩,e⟩
   |succ j ih=>
    intro hj e;by_cases he:gt l (j+1)=gt l j
    .exact ih (by omega) (he▸e)
    .exact aR.2 ⟨j+1,dy.2 ⟨by simpa using hj,by simpa using he⟩,e⟩
  exact main j hj (by rw[dx hj];exact e)
theorem aad{l:List Int}(hs:l.Pairwise (·<=·)):(vG l).Pairwise (·<·):=by
 have hle:∀i j,i<=j->j<l.length->gt l i<=gt l j:=fun i j hij hj=>by
  rcases Nat.lt_or_eq_of_le hij with h|rfl
  .rw [dx (by omega),dx hj];exact List.pairwise_iff_getElem.1 hs i j (by omega) hj h
  .exact gI _
 rw[Ua,List.pairwise_map];have h1:((aG l.length).filter fun j=>decide (j=0\/gt l j≠gt l (j-1))).Pairwise (·<·):=(List.pairwise_lt_range (n:=l.length)).filter _;refine j6 (fun{i j}_ hj hij=>?_) h1;obtain⟨hj1,hj2⟩:=dy.1 hj;have hj1:j<l.length:=by simpa using hj1
 have hj2:j=0\/gt l j≠gt l (j-1):=of_decide_eq_true hj2;have h3:=hle i (j-1) (by omega) (by omega);have h4:=hle (j-1) j (by omega) hj1;omega
theorem OG{l:Sl aD}(hl:l.l.length<=1000):∃s,oQ l=some s/\s.l.Pairwise (·<·)/\∀x,x∈s.l<->∃m∈l.l,m.2.2.2=x:=by
 obtain⟨s,h1,h2⟩:=xR (f:=pw l) l.l (fun m=>[m.2.2.2]) .nil (by omega) (fun i s hi hs=>by
  have hlen:s.l.length<=1000:=by have:=lH (m:=1) (f:=fun m:aD=>[m.2.2.2]) (fun _=>by simp) (l.l.take i);rw[bw]at this;have e:s.l=(l.l.take i).flatMap fun m=>[m.2.2.2]:=hs;rw[e];omega
  exact⟨.mk (s.l++[(gt l.l i).2.2.2]),by simp only[pw,fT hi,cond_true,aY hi,aa,kz (show(s.l++[aD.CC (gt l.l i)]).length<=2147483648 by rw[au,aH];omega)],rfl⟩) (fun s=>by simp only[pw,ij,cond_false])
 have h2:s.l=l.l.flatMap fun m=>[m.2.2.2]:=h2;have hlen:s.l.length<=1000:=by have:=lH (m:=1) (f:=fun m:aD=>[m.2.2.2]) (fun _=>by simp) l.l;rw[h2];omega
 have hsz:(AE s.l.toArray).toList.length=s.l.length:=by simp[AE]
 have hsort:ar5 s=some (s.to (AE s.l.toArray).toList):=by show zV AE s=_;unfold zV;rw[show Nat.blt s.l.length 4611686018427387904=true by rw[fM];omega];rfl
 have hlenS:py (s.to (AE s.l.toArray).toList) s=some ():=by cases s with|nil=>rfl|mk l=>have hsz:(AE l.toArray).toList.length=l.length:=hsz;show PH (AE l.toArray).toList l=some ();unfold PH;rw[if_pos hsz]
 have htl:(s.to (AE s.l.toArray).toList).l=s.l.mergeSort VO:=by cases s with|nil=>exact List.mergeSort_nil.symm|mk l=>rfl
 have hcut:Wi vG (s.to (AE s.l.toArray).toList)=some ((s.to (AE s.l.toArray).toList).to (vG (s.l.mergeSort VO))):=by unfold Wi;rw[htl,show Nat.blt (s.l.mergeSort VO).length 4611686018427387904=true by rw[fM,List.length_mergeSort];omega];rfl
 have hfin:((s.to (AE s.l.toArray).toList).to (vG (s.l.mergeSort VO))).l=vG (s.l.mergeSort VO):=by cases s with|nil=>show[]=vG ([].mergeSort VO);rw[List.mergeSort_nil];rfl|mk l=>rfl
 have hrun:oQ l=some ((s.to (AE s.l.toArray).toList).to (vG (s.l.mergeSort VO))):=by simp only[oQ,h1,aa,hsort,hlenS,hcut]
 refine⟨_,hrun,?_,fun x=>?_⟩
 .rw [hfin];refine aad ?_;have:=List.pairwise_mergeSort (le:=VO) (fun a b c h1 h2=>by simp only[VO,decide_eq_true_eq]at*;omega) (fun a b=>by simp only[VO,Bool.or_eq_true,decide_eq_true_eq];omega) s.l;exact this.imp fun h=>by simpa[VO]using h
 .rw [hfin,aac,List.mem_mergeSort,h2];simp only[List.mem_flatMap,aB];exact⟨fun⟨m,h1,h2⟩=>⟨m,h1,h2.symm⟩,fun⟨m,h1,h2⟩=>⟨m,h1,h2.symm⟩⟩
end Go.Proofs.YtoekkpmeeclpeaaGreat.S
open Go.Ev Go
namespace Go.Proofs.YtoekkpmeeclpeaaGreat.S
def wZ(l:List bd):Int:=l.foldl (fun m x=>if x.rI>m then x.rI else m) 0
theorem LM(l:List bd){i:Nat}(hi:i<l.length):wZ (l.take (i+1))=if(gt l i).rI>wZ (l.take i)then(gt l i).rI else wZ (l.take i):=by unfold wZ;rw[dx hi,<-dZ hi,List.foldl_append];rfl
theorem XF{t:am}(hb:t.aS.l.length<9223372036854775808):qQ t=some (wZ t.aS.l):=by
 have e0:((0:Nat):Int)=0:=rfl
 have h:aJ (mn t) (0,0)=some (wZ t.aS.l):=by
  have h1:=Kg (f:=mn t) (fun i(m:Int)=>(m,(i:Int))) t.aS.l.length (fun i m=>m=wZ (t.aS.l.take i)) (fun b=>b=wZ t.aS.l) (fun i m hi hm=>by
   left;refine⟨_,?_,(LM _ hi).symm⟩;subst hm;simp only[mn,fT hi,cond_true,aY hi,aa,pN (show i<9223372036854775807 by omega)])
   (fun m hm=>⟨m,by simp only[mn,ij,cond_false],by rw[hm,dM]⟩) 0 0 (cG _) rfl
  obtain⟨b,h1,rfl⟩:=h1;exact h1
 simp only[qQ,h,aa]
theorem abm{l:List bd}(h:∀x∈l,zC x):0<=wZ l/\wZ l<=1000:=by
 have:∀(l:List bd)(m:Int),(∀x∈l,zC x)->0<=m/\m<=1000->0<=l.foldl (fun m x=>if x.rI>m then x.rI else m) m/\l.foldl (fun m x=>if x.rI>m then x.rI else m) m<=1000:=by intro l;induction l with|nil=>intro m _ hm;exact hm|cons x l ih=>intro m h hm;refine ih _ (fun y hy=>h y (bp _ hy)) ?_;have:=h x (aL ..);unfold zC at this;show 0<=(if x.rI>m then x.rI else m)/\(if x.rI>m then x.rI else m)<=1000;split<;>omega
 exact this l 0 h ⟨by omega,by omega⟩
def jR(t:am):Int:=t.ao*wZ t.aS.l
theorem wH{t:am}(hV:gB t):0<=jR t/\jR t<=8000:=by obtain⟨h1,h2⟩:=abm hV.VL;obtain⟨h3,h4⟩:=hV.sw;unfold jR;generalize wZ t.aS.l=s at*;generalize t.ao=n at*;refine⟨Int.mul_nonneg (by omega) h1,?_⟩;have:=Int.mul_le_mul h4 h2 h1 (by omega);omega
theorem PD{t:am}(hV:gB t):wb t=some (jR t):=by have:=wH hV;have hl:=hV.xQ;simp only[wb,XF (show t.aS.l.length<9223372036854775808 by omega),aa];exact congrArg some (gZ (n:=jR t) (by omega) (by omega))
theorem acF{t:am}(hV:gB t){miss:Int}(h0:0<=miss)(h1:miss<=1048576):Bp t miss=some (2*miss+jR t+1):=by have:=wH hV;simp only[Bp,PD hV,aa];rw[gZ (n:=2*miss) (by omega) (by omega),gZ (n:=2*miss+jR t) (by omega) (by omega),gZ (by omega) (by omega)]
def NR(l:List aD):Prop:=l.Pairwise Mw
structure Dy(l:List aD)(round:Int)(s:List Int):Prop where
 N2:s.Pairwise (·<·)
 yq:∀x,x∈s<->∃m∈l,m.2.2.2=round/\m.1=x
theorem Dy.zH{l:List aD}{round:Int}{a b:List Int}(ha:Dy l round a)(hb:Dy l round b):a=b:=aaz ha.N2 hb.N2 fun x=>(ha.yq x).trans (hb.yq x).symm
theorem KL{s:List Int}{x:Int}(h:s.Pairwise (·<·))(hx:∀y∈s,y<x):(s++[x]).Pairwise (·<·):=ki.2 ⟨h,by simp,fun a ha b hb=>by obtain rfl:=aB.1 hb;exact hx a ha⟩
theorem abh{l:Sl aD}(hs:NR l.l)(hb:l.l.length<=1000)(round:Int):∃s,Bo l round=some s/\Dy l.l round s.l:=by
 have h1:=Kg (f:=mG l round) (fun i(s:Sl Int)=>((i:Int),s)) l.l.length (fun i s=>s.l.length<=i/\Dy (l.l.take i) round s.l) (fun s=>Dy l.l round s.l) (fun i s hi⟨hlen,hI⟩=>by
  left;have et:l.l.take (i+1)=l.l.take i++[gt l.l i]:=by rw[dx hi,dZ hi]
  have hc:=AX (s:=s) (gt l.l i).1 (by omega);have hpre:∀m∈l.l.take i,Mw m (gt l.l i):=fun m hm=>by have:=hs;unfold NR at this;rw[<-List.take_append_drop i l.l]at this;refine(ki.1 this).2.2 m hm _ ?_;rw[List.drop_eq_getElem_cons hi,<-dx hi];exact aL ..
  have hmem1:∀x,(∃m∈l.l.take (i+1),m.2.2.2=round/\m.1=x)<->(∃m∈l.l.take i,m.2.2.2=round/\m.1=x)\/((gt l.l i).2.2.2=round/\(gt l.l i).1=x):=fun x=>by
   rw[et];simp only[aK,aB];constructor
   .rintro ⟨m,hm|rfl,h⟩
    .exact .inl ⟨m,hm,h⟩
    .exact .inr h
   .rintro (⟨m,hm,h⟩|h)
    .exact ⟨m,.inl hm,h⟩
    .exact ⟨_,.inr rfl,h⟩
  by_cases hr:(gt l.l i).2.2.2=round
  .by_cases hm:(gt l.l i).1∈s.l
   .refine ⟨s,?_,by omega,hI.N2,fun x=>?_⟩
    .rw [decide_eq_true hm]at hc;simp only[mG,fT hi,cond_true,aY hi,aa,hr,beq_self_eq_true,hc,bX,cond_false,pN (show i<9223372036854775807 by omega)]
    .rw [hmem1,hI.yq];refine⟨.inl,fun h=>h.elim id fun⟨_,h2⟩=>?_⟩;rw[<-hI.yq,<-h2];exact hm
   .refine ⟨.mk (s.l++[(gt l.l i).1]),?_,by rw[Sl.lc,au,aH];omega,?_,fun x=>?_⟩
    .rw [decide_eq_false hm]at hc;simp only[mG,fT hi,cond_true,aY hi,aa,hr,beq_self_eq_true,hc,Bool.not_false,kz (show(s.l++[(gt l.l i).1]).length<=2147483648 by rw[au,aH];omega),pN (show i<9223372036854775807 by omega)]
    .refine KL hI.N2 fun y hy=>?_;obtain⟨m,h1,h2,h3⟩:=(hI.yq y).1 hy;have h4:=hpre m h1;unfold Mw at h4;have:y≠(gt l.l i).1:=fun e=>hm (e▸hy);omega
    .rw [hmem1,Sl.lc,aK,aB,hI.yq];refine or_congr Iff.rfl ⟨fun h=>⟨hr,h.symm⟩,fun h=>h.2.symm⟩
  .have hr2:((gt l.l i).2.2.2==round)=false:=by rw[beq_eq_false_iff_ne];exact hr
   refine⟨s,?_,by omega,hI.N2,fun x=>?_⟩
   .simp only[mG,fT hi,cond_true,aY hi,aa,hr2,cond_false,pN (show i<9223372036854775807 by omega)]
   .rw [hmem1,hI.yq];exact⟨.inl,fun h=>h.elim id fun h=>absurd h.1 hr⟩)
  (fun s⟨_,hI⟩=>⟨s,by simp only[mG,ij,cond_false],by rw[dM]at hI;exact hI⟩) 0 .nil (cG _) ⟨Nat.le_refl _,by simp,fun x=>by simp⟩
 obtain⟨s,h1,h2⟩:=h1;have h1:aJ (mG l round) (0,Sl.nil)=some s:=h1;exact⟨s,by simp only[Bo,h1,aa],h2⟩
def th(n:Nat)(gap:Int):List Int:=(aG n).map fun(i:Nat)=>(i:Int)*gap
theorem Xj{n i:Nat}{gap:Int}(hi:i<n):gt (th n gap) i=(i:Int)*gap:=by rw[dx (by simp[th,hi])];simp[th]
def nF(n:Nat)(gap:Int):List bT:=(aG n).map fun(i:Nat)=>((i:Int),((i+1:Nat):Int),gap)
theorem SC{n:Nat}(hn:n<=63)(gap:Int):∃s,aJ (pI ((n+1:Nat):Int) gap) (1,Sl.nil)=some s/\s.l=nF n gap:=by
 have h1:=Kg (f:=pI ((n+1:Nat):Int) gap) (fun i(s:Sl bT)=>(((i+1:Nat):Int),s)) n (fun i s=>s.l=nF i gap) (fun s=>s.l=nF n gap) (fun i s hi hs=>by
  left;have hlen:s.l.length=i:=by rw[hs];simp[nF]
  have hw:wr .i64 (((i+1:Nat):Int)-1)=(i:Int):=by rw[gZ (by omega) (by omega)];omega
  exact⟨.mk (s.l++[((i:Int),((i+1:Nat):Int),gap)]),by
   simp only[pI,fT (show i+1<n+1 by omega),cond_true,hw,kz (show(s.l++[(((i:Int),((i+1:Nat):Int),gap):bT)]).length<=2147483648 by rw[au,aH];omega),aa,pN (show i+1<9223372036854775807 by omega)],by
   rw[Sl.lc,hs];simp[nF,List.range_succ]⟩)
  (fun s hs=>⟨s,by simp only[pI,ij,cond_false],hs⟩) 0 .nil (cG _) rfl
 exact h1
theorem Sf{n:Nat}(hn:n<=63){gap:Int}(h0:0<gap)(h1:gap<=1073741824){s:Sl bT}(hs:s.l=nF n gap):wj ((n+1:Nat):Int) s=some true:=by
 have hlen:s.l.length=n:=by rw[hs];simp[nF]
 have hi:=xO (f:=cK s ((n+1:Nat):Int)) (β:=Int) (γ:=Unit) s.l (fun _ _=>none) () (by omega) (fun i hi=>by
  have hg:gt s.l i=((i:Int),((i+1:Nat):Int),gap):=by rw[dx hi];simp only[hs,nF,jM,oZ]
  have hc:((((((decide ((i:Int)<0))||(decide ((i:Int)>=((n+1:Nat):Int))))||(decide (((i+1:Nat):Int)<0)))||(decide (((i+1:Nat):Int)>=((n+1:Nat):Int))))||(decide (gap<(-1073741824))))||(decide (gap>1073741824)))=false:=by simp only[bV,decide_eq_false_iff_not];omega
  simp only[cK,fT hi,cond_true,aY hi,aa,Cl,hg,hc,cond_false]) (by simp only[cK,ij,cond_false])
 have h2:lE (β:=Int) (fun(_:Nat)(_:bT)=>none) s.l 0=none:=nP.2 fun _ _ _=>rfl;rw[h2]at hi;have hc:(((decide (((n+1:Nat):Int)<0))||(decide (((n+1:Nat):Int)>64)))||(decide ((s.l.length:Int)>256)))=false:=by simp only[bV,decide_eq_false_iff_not];omega
 simp only[wj,hc,cond_false,cL,cV,hi,aa];rfl
end Go.Proofs.YtoekkpmeeclpeaaGreat.S
open Go.Ev Go
namespace Go.Proofs.YtoekkpmeeclpeaaGreat.S
theorem IZ{N j:Nat}(f:Nat->Int)(hj:j<N):gt ((aG N).map f) j=f j:=by rw[dx (by simp[hj])];simp
theorem abp{N k:Nat}(f:Nat->Int)(v:Int):((aG N).map f).set k v=(aG N).map fun j=>if j=k then v else f j:=by
 apply gi (by simp);intro i h1 h2;simp only[List.getElem_set,jM,oZ];by_cases h:k=i
 .rw [if_pos h,if_pos h.symm]
 .rw [if_neg h,if_neg (Ne.symm h)]
def rP(gap:Int)(i j:Nat):Int:=if j<=i then(j:Int)*gap else 0
theorem UB(gap:Int)(i:Nat):(fun j=>if j=i+1 then((i+1:Nat):Int)*gap else rP gap i j)=rP gap (i+1):=by
 funext j;unfold rP;by_cases h:j=i+1
 .rw [if_pos h,if_pos (by omega),h]
 .rw [if_neg h];by_cases h2:j<=i
  .rw [if_pos h2,if_pos (by omega)]
  .rw [if_neg h2,if_neg (by omega)]
section
variable{n:Nat}{gap:Int}{s:Sl bT}
theorem Qx(hs:s.l=nF n gap){i:Nat}(hi:i<n):gt s.l i=((i:Int),((i+1:Nat):Int),gap):=by
 have hl:i<s.l.length:=by rw[hs];simp[nF,hi]
 rw[dx hl];simp only[hs,nF,jM,oZ]
theorem RJ{i n:Nat}{gap:Int}(h0:0<gap)(h1:gap<=1073741824)(hi:i<=n)(hn:n<=64):0<=(i:Int)*gap/\(i:Int)*gap<=68719476736:=by refine⟨Int.mul_nonneg (by omega) (by omega),?_⟩;have:=Int.mul_le_mul (show(i:Int)<=64 by omega) h1 (by omega) (by omega);omega
theorem akt(hn:n<=63)(h0:0<gap)(h1:gap<=1073741824)(hs:s.l=nF n gap){b:List Int}(hb:b.length=n+1):
  ∃b',aJ (jZ s) (-1,0,.mk ((aG (n+1)).map (rP gap 0)),.mk b)=some (if n=0 then-1 else(n:Int),.mk ((aG (n+1)).map (rP gap n)),.mk b')/\b'.length=n+1:=by
 have hlen:s.l.length=n:=by rw[hs];simp[nF]
 have h:=Kg (f:=jZ s) (fun i(b:List Int)=>(if i=0 then-1 else(i:Int),(i:Int),Sl.mk ((aG (n+1)).map (rP gap i)),Sl.mk b)) n (fun _ b=>b.length=n+1)
  (fun r=>∃b',r=(if n=0 then-1 else(n:Int),Sl.mk ((aG (n+1)).map (rP gap n)),Sl.mk b')/\b'.length=n+1) (fun i b hi hb=>by
   left;have hg:=Qx hs hi;have hil:i<s.l.length:=by omega
   have l1:i<(Sl.mk ((aG (n+1)).map (rP gap i))).l.length:=by simp;omega
   have l2:i+1<(Sl.mk ((aG (n+1)).map (rP gap i))).l.length:=by simp;omega
   have l3:i+1<(Sl.mk b).l.length:=by rw[Sl.lc,hb];omega
   have g1:gt (Sl.mk ((aG (n+1)).map (rP gap i))).l i=(i:Int)*gap:=by rw[Sl.lc,IZ _ (by omega)];simp[rP]
   have g2:gt (Sl.mk ((aG (n+1)).map (rP gap i))).l (i+1)=0:=by rw[Sl.lc,IZ _ (by omega),rP,if_neg (by omega)]
   have hm:=RJ h0 h1 (show i<=n by omega) (by omega);have em:(i:Int)*gap+gap=((i+1:Nat):Int)*gap:=by rw[show((i+1:Nat):Int)=(i:Int)+1 by omega,Int.add_mul,Int.one_mul]
   have hw:wr .i64 ((i:Int)*gap+gap)=((i+1:Nat):Int)*gap:=by rw[gZ (by omega) (by omega),em]
   have hgt:decide (((i+1:Nat):Int)*gap>0)=true:=by rw[decide_eq_true_eq];omega
   refine⟨b.set (i+1) (i:Int),?_,by simp[hb]⟩;simp only[jZ,fT hil,cond_true,aY hil,hg,aY l1,aY l2,aY l3,aa,g1,g2,hw,hgt,pN (show i<9223372036854775807 by omega)];simp only[Sl.lc,abp,UB];rfl)
  (fun b hb=>⟨(if n=0 then-1 else(n:Int),Sl.mk ((aG (n+1)).map (rP gap n)),Sl.mk b),by simp only[jZ,hlen,ij,cond_false],b,rfl,hb⟩) 0 b (cG _) hb
 obtain⟨r,h2,b',rfl,h3⟩:=h;exact⟨b',h2,h3⟩
theorem aks(hn:n<=63)(h0:0<gap)(h1:gap<=1073741824)(hs:s.l=nF n gap)(b:Sl Int):
  aJ (jZ s) (-1,0,.mk ((aG (n+1)).map (rP gap n)),b)=some (-1,.mk ((aG (n+1)).map (rP gap n)),b):=by
 have hlen:s.l.length=n:=by rw[hs];simp[nF]
 have h:=Kg (f:=jZ s) (fun i(_:Unit)=>((-1:Int),(i:Int),Sl.mk ((aG (n+1)).map (rP gap n)),b)) n (fun _ _=>True)
  (fun r=>r=((-1:Int),Sl.mk ((aG (n+1)).map (rP gap n)),b)) (fun i _ hi _=>by
   left;have hg:=Qx hs hi;have hil:i<s.l.length:=by omega
   have l1:i<(Sl.mk ((aG (n+1)).map (rP gap n))).l.length:=by simp;omega
   have l2:i+1<(Sl.mk ((aG (n+1)).map (rP gap n))).l.length:=by simp;omega
   have g1:gt (Sl.mk ((aG (n+1)).map (rP gap n))).l i=(i:Int)*gap:=by rw[Sl.lc,IZ _ (by omega),rP,if_pos (by omega)]
   have g2:gt (Sl.mk ((aG (n+1)).map (rP gap n))).l (i+1)=((i+1:Nat):Int)*gap:=by rw[Sl.lc,IZ _ (by omega),rP,if_pos (by omega)]
   have hm:=RJ h0 h1 (show i<=n by omega) (by omega);have em:(i:Int)*gap+gap=((i+1:Nat):Int)*gap:=by rw[show((i+1:Nat):Int)=(i:Int)+1 by omega,Int.add_mul,Int.one_mul]
   have hw:wr .i64 ((i:Int)*gap+gap)=((i+1:Nat):Int)*gap:=by rw[gZ (by omega) (by omega),em]
   have hgt:decide (((i+1:Nat):Int)*gap>((i+1:Nat):Int)*gap)=false:=by rw[decide_eq_false_iff_not];omega
   refine⟨(),?_,trivial⟩;simp only[jZ,fT hil,cond_true,aY hil,hg,aY l1,aY l2,aa,g1,g2,hw,hgt,cond_false,pN (show i<9223372036854775807 by omega)])
  (fun _ _=>⟨_,by simp only[jZ,hlen,ij,cond_false],rfl⟩) 0 () (cG _) trivial
 obtain⟨r,h2,rfl⟩:=h;exact h2
theorem Yh(hn:n<=63)(h0:0<gap)(h1:gap<=1073741824)(hs:s.l=nF n gap):∃b,yv ((n+1:Nat):Int) s=some (.mk (th (n+1) gap),b,-1):=by
 have hmk:Fm (0:Int) ((n+1:Nat):Int) ((n+1:Nat):Int)=some ((aG (n+1)).map (rP gap 0)):=by
  unfold Fm;rw[if_pos ⟨by omega,gI _,by omega⟩];congr 1;rw[Int.toNat_natCast];apply gi (by simp);intro i _ _;simp only[List.getElem_replicate,jM,oZ,rP];by_cases h:i<=0
  .rw [if_pos h,show i=0 by omega];simp
  .rw [if_neg h]
 have ht:(aG (n+1)).map (rP gap n)=th (n+1) gap:=by unfold th;apply List.map_congr_left;intro j hj;rw[rP,if_pos (by have:=ct.1 hj;omega)]
 have hw:wr .i64 (((n+1:Nat):Int)+1)=((n+2:Nat):Int):=by rw[gZ (by omega) (by omega)];omega
 obtain⟨b1,p1,p2⟩:=akt hn h0 h1 hs (b:=(aG (n+1)).map (rP gap 0)) (by simp)
 have hl:∃b,aJ (oU ((n+1:Nat):Int) s) (-1,0,.mk ((aG (n+1)).map (rP gap 0)),.mk ((aG (n+1)).map (rP gap 0)))=some (-1,.mk (th (n+1) gap),b):=by
  have c1:decide ((0:Int)<((n+2:Nat):Int))=true:=by rw[decide_eq_true_eq];omega
  by_cases hz:n=0
  .rw [if_pos hz]at p1;refine⟨.mk b1,bW ?_⟩;simp only[oU,hw,c1,cond_true,p1,aa,ht];rfl
  .rw [if_neg hz]at p1;have c2:decide ((n:Int)<0)=false:=by rw[decide_eq_false_iff_not];omega
   have c3:decide ((1:Int)<((n+2:Nat):Int))=true:=by rw[decide_eq_true_eq];omega
   have p3:=aks hn h0 h1 hs (.mk b1);rw[ht]at p3;refine⟨.mk b1,(dD (a':=((n:Int),(1:Int),.mk ((aG (n+1)).map (rP gap n)),.mk b1)) ?_).trans (bW ?_)⟩
   .simp only[oU,hw,c1,cond_true,p1,aa,c2,cond_false];rfl
   .simp only[oU,hw,c3,cond_true,ht,p3,aa];rfl
 obtain⟨b,hl⟩:=hl;exact⟨b,by simp only[yv,hmk,aa,hl]⟩
theorem UI(hn:n<=63)(h0:0<gap)(h1:gap<=1073741824):tD ((n+1:Nat):Int) gap=some (.mk (th (n+1) gap)):=by obtain⟨s,h2,h3⟩:=SC hn gap;obtain⟨b,h4⟩:=Yh hn h0 h1 h3;simp only[tD,h2,aa,sB,Sf hn h0 h1 h3,bX,cond_false,h4];rfl
end
end Go.Proofs.YtoekkpmeeclpeaaGreat.S
open Go.Ev Go
namespace Go.Proofs.YtoekkpmeeclpeaaGreat.S
section
variable{t:am}{old now:Sl (Sl Int)}
theorem L7:NR (tF t old now):=Ni
structure Rds(ms:List aD)(first gap:Int)(R:List bj):Prop where
 N2:(R.map fun x=>x.1).Pairwise (·<·)
 yq:∀x,x∈(R.map fun x=>x.1)<->∃m∈ms,m.2.2.2=x
 afe:∀i,i<R.length->(gt R i).2.1=first+(i:Int)*gap
 sws:∀i,i<R.length->Dy ms (gt R i).1 (gt R i).2.2.l
theorem Rds.zH{ms:List aD}{first gap:Int}{R R':List bj}(h:Rds ms first gap R)(h':Rds ms first gap R'):
  R.length=R'.length/\∀i,i<R.length->(gt R i).1=(gt R' i).1/\(gt R i).2.1=(gt R' i).2.1/\(gt R i).2.2.l=(gt R' i).2.2.l:=by
 have e:=aaz h.N2 h'.N2 fun x=>(h.yq x).trans (h'.yq x).symm;have hl:R.length=R'.length:=by simpa using congrArg List.length e
 refine⟨hl,fun i hi=>?_⟩;have h1:(gt R i).1=(gt R' i).1:=by have:=congrArg (fun l=>l[i]?) e;simp only[List.getElem?_map,bf hi,bf (hl▸hi),Option.map_some,eZ]at this;rw[dx hi,dx (hl▸hi)];exact this
 refine⟨h1,by rw[h.afe i hi,h'.afe i (hl▸hi)],?_⟩;have h2:=h.sws i hi;rw[h1]at h2;exact h2.zH (h'.sws i (hl▸hi))
theorem I4{l:List Int}(h:l.Pairwise (·<·))(hb:∀x∈l,0<=x/\x<8):l.length<=8:=by
 have hnd:l.Nodup:=h.imp fun h e=>by omega
 have hsub:l⊆(aG 8).map fun(i:Nat)=>(i:Int):=fun x hx=>by have:=hb x hx;exact aR.2 ⟨x.toNat,ct.2 (by omega),by omega⟩
 simpa using hnd.length_le_of_subset hsub
theorem Rds.len{first gap:Int}{R:List bj}(hN:jS t now)(h:Rds (tF t old now) first gap R):R.length<=8:=by
 have:=I4 h.N2 fun x hx=>by obtain⟨m,hm,rfl⟩:=(h.yq x).1 hx;have:=JT hN hm;omega
 simpa using this
def ju(t:am)(at' miss dL:Int):Int:=at'+dL+miss+jR t+1
def sA(t:am)(miss:Int):Int:=2*miss+jR t+1
def In(at' miss dL:Int):Prop:=(0<=at'/\at'<=1099511627776)/\(0<=miss/\miss<=1048576)/\(0<=dL/\dL<=1048576)
instance{a b c:Int}:Decidable (In a b c):=by unfold In;infer_instance
def DR:aC:=⟨Sl.nil,Sl.nil,0,0,0,0⟩
def xS(t:am)(at' miss dL:Int)(n:Nat):Int:=ju t at' miss dL+((n-1:Nat):Int)*sA t miss+miss
theorem ZD(hV:gB t){at' miss dL:Int}(hI:In at' miss dL):0<sA t miss/\sA t miss<=1073741824:=by have:=wH hV;unfold sA;unfold In at hI;omega
theorem ZL(hV:gB t){at' miss dL:Int}(hI:In at' miss dL):0<=ju t at' miss dL/\ju t at' miss dL<=1100000000000:=by have:=wH hV;unfold ju;unfold In at hI;omega
theorem MD(hV:gB t){at' miss dL:Int}(hI:In at' miss dL){i:Nat}(hi:i<=8):0<=ju t at' miss dL+(i:Int)*sA t miss/\ju t at' miss dL+(i:Int)*sA t miss<=1200000000000:=by obtain⟨h1,h2⟩:=ZD hV hI;have h3:=ZL hV hI;have h4:=RJ h1 h2 hi (show 8<=64 by omega);omega
structure QB(t:am)(old now:Sl (Sl Int))(at' miss dL:Int)(p:aC)(e:Int):Prop where
 none:tF t old now=[]->p=DR/\e=7
 Yt:tF t old now≠[]->∃(s:Sl aD)(R:Sl bj),s.l=tF t old now/\Rds (tF t old now) (ju t at' miss dL) (sA t miss) R.l/\0<R.l.length/\
  ((xS t at' miss dL R.l.length>1099511627776/\p=DR/\e=11)\/
   (xS t at' miss dL R.l.length<=1099511627776/\p=(s,R,miss,jR t,at'+dL+1,xS t at' miss dL R.l.length)/\e=0))
theorem OH(hN:jS t now){at' miss dL:Int}(hI:In at' miss dL){s:Sl aD}(hs:s.l=tF t old now){L:Sl Int}(hL1:L.l.Pairwise (·<·))(hL2:∀x,x∈L.l<->∃m∈s.l,m.2.2.2=x)(hL3:L.l.length<=8):
  ∃R,aJ (oP at' miss dL s (jR t) L (.mk (th L.l.length (sA t miss)))) (0,s,miss,jR t,0,0,Sl.nil)=some (s,miss,jR t,0,0,R)/\Rds (tF t old now) (ju t at' miss dL) (sA t miss) R.l/\R.l.length=L.l.length:=by
 have hV:=hN.1.EA;have hlf:=wH hV;have hI2:=hI;unfold In at hI2;have hms:s.l.length<=1000:=by rw[hs];have:=Nh (old:=old) hN;omega
 have hsort:NR s.l:=hs▸L7;have htl:(Sl.mk (th L.l.length (sA t miss))).l.length=L.l.length:=by simp[th]
 have w1:wr .i64 (wr .i64 (wr .i64 (wr .i64 (at'+dL)+miss)+jR t)+1)=ju t at' miss dL:=by unfold ju;rw[gZ (n:=at'+dL) (by omega) (by omega),gZ (n:=at'+dL+miss) (by omega) (by omega),gZ (n:=at'+dL+miss+jR t) (by omega) (by omega),gZ (by omega) (by omega)]
 have h:=Kg (f:=oP at' miss dL s (jR t) L (.mk (th L.l.length (sA t miss)))) (fun i(R:Sl bj)=>((i:Int),s,miss,jR t,(0:Int),(0:Int),R)) L.l.length
  (fun i R=>R.l.length=i/\(R.l.map fun x=>x.1)=L.l.take i/\(∀j,j<i->(gt R.l j).2.1=ju t at' miss dL+(j:Int)*sA t miss)/\∀j,j<i->Dy s.l (gt R.l j).1 (gt R.l j).2.2.l)
  (fun b=>∃R,b=(s,miss,jR t,(0:Int),(0:Int),R)/\Rds (tF t old now) (ju t at' miss dL) (sA t miss) R.l/\R.l.length=L.l.length) (fun i R hi⟨i1,i2,i3,i4⟩=>by
   left;obtain⟨S,q1,q2⟩:=abh hsort hms (gt L.l i);have l1:i<(Sl.mk (th L.l.length (sA t miss))).l.length:=by rw[htl];exact hi
   have g1:gt (Sl.mk (th L.l.length (sA t miss))).l i=(i:Int)*sA t miss:=by rw[Sl.lc,Xj hi]
   have ht:=MD hV hI (show i<=8 by omega);have w2:wr .i64 (ju t at' miss dL+(i:Int)*sA t miss)=ju t at' miss dL+(i:Int)*sA t miss:=gZ (by omega) (by omega);refine⟨.mk (R.l++[(gt L.l i,ju t at' miss dL+(i:Int)*sA t miss,S)]),?_,by simp[i1],?_,fun j hj=>?_,fun j hj=>?_⟩
   .have hiL:=hi;rw[<-htl]at hi;simp only[oP,fT hi,cond_true,aY l1,aY hiL,aa,q1,w1,g1,w2,pN (show i<9223372036854775807 by omega)];rw[kz (by rw[au,aH];omega)];rfl
   .rw [Sl.lc,List.map_append,i2,dx hi];simp
   .rw [Sl.lc];by_cases he:j=i
    .subst he;rw[dx (by simp[i1]),List.getElem_append_right (by omega)];simp[i1]
    .rw [dx (by simp;omega),sJ (by omega),<-dx (by omega)];exact i3 j (by omega)
   .rw [Sl.lc];by_cases he:j=i
    .subst he;rw[dx (by simp[i1]),List.getElem_append_right (by omega)];simpa[i1]using q2
    .rw [dx (by simp;omega),sJ (by omega),<-dx (by omega)];exact i4 j (by omega))
  (fun R⟨i1,i2,i3,i4⟩=>by rw[dM]at i2;refine⟨_,by simp only[oP,htl,ij,cond_false],R,rfl,⟨by rw[i2];exact hL1,fun x=>by rw[i2,hL2,hs],fun j hj=>i3 j (by omega),fun j hj=>hs▸i4 j (by omega)⟩,i1⟩) 0 .nil (cG _) ⟨rfl,by simp,fun j hj=>by omega,fun j hj=>by omega⟩
 obtain⟨b,h1,R,rfl,h2,h3⟩:=h;exact⟨R,h1,h2,h3⟩
theorem Zu{at' miss dL:Int}:((uO at' 1099511627776).bind fun r1=>bif !r1 then some true else((uO miss 1048576).bind fun r2=>bif !r2 then some true else((uO dL 1048576).bind fun r3=>some (!r3))):Option Bool)=some (decide (¬In at' miss dL)):=by
 have e:decide (¬In at' miss dL)=!((decide (at'>=0)&&decide (at'<=1099511627776))&&((decide (miss>=0)&&decide (miss<=1048576))&&(decide (dL>=0)&&decide (dL<=1048576)))):=by rw[Bool.eq_iff_iff,decide_eq_true_eq (p:=¬In at' miss dL)];simp only[Bool.not_eq_true',Bool.and_eq_false_iff,decide_eq_false_iff_not];unfold In;omega
 rw[e];simp only[uO,aa];cases(decide (at'>=0)&&decide (at'<=1099511627776))<;>cases(decide (miss>=0)&&decide (miss<=1048576))<;>cases(decide (dL>=0)&&decide (dL<=1048576))<;>rfl
theorem VI(hO:jS t old)(hN:jS t now){at' miss dL:Int}(hI:In at' miss dL):∃p e,lG t old now at' miss dL=some (p,e)/\QB t old now at' miss dL p e:=by
 have hV:=hN.1.EA;obtain⟨s,h1,h2⟩:=VE hO hN;have h2:s.l=tF t old now:=h2;have hml:=Nh (old:=old) hN;have hnI:decide (¬In at' miss dL)=false:=decide_eq_false fun h=>h hI;by_cases hz:tF t old now=[]
 .refine ⟨DR,7,?_,fun _=>⟨rfl,rfl⟩,fun h=>absurd hz h⟩;have hl:((s.l.length:Int)==0)=true:=by rw[h2,hz];rfl
  unfold lG;rw[Zu,hnI];simp only[aa,cond_false,h1,bne_self_eq_false,hl,cond_true];rfl
 .have hl:((s.l.length:Int)==0)=false:=by have:0<(tF t old now).length:=ji.2 hz;rw[h2,beq_eq_false_iff_ne];omega
  obtain⟨L,h3,h4,h5⟩:=OG (l:=s) (by rw[h2];omega);have hL3:L.l.length<=8:=I4 h4 fun x hx=>by obtain⟨m,hm,rfl⟩:=(h5 x).1 hx;have:=JT hN (h2▸hm);omega
  have hLpos:0<L.l.length:=by
   have hm:(tF t old now).head hz∈s.l:=by rw[h2];exact List.head_mem hz
   exact ji.2 (List.ne_nil_of_mem ((h5 _).2 ⟨_,hm,rfl⟩))
  obtain⟨g1,g2⟩:=ZD hV hI;obtain⟨R,h6,h7,h8⟩:=OH hN hI h2 h4 h5 hL3
  have ht:tD (L.l.length:Int) (sA t miss)=some (.mk (th L.l.length (sA t miss))):=by
   obtain⟨n,hn⟩:∃n,L.l.length=n+1:=⟨L.l.length-1,by omega⟩
   rw[hn];exact UI (by omega) g1 g2
  have hI2:=hI;unfold In at hI2;have hgap:=acF hV hI2.2.1.1 hI2.2.1.2;have hw1:wr .i64 ((R.l.length:Int)-1)=((R.l.length-1:Nat):Int):=by rw[gZ (by omega) (by omega)];omega
  have hlast:=h7.afe (R.l.length-1) (by omega);have htl:=MD hV hI (show R.l.length-1<=8 by omega);have hlf:=wH hV;have hw2:wr .i64 ((gt R.l (R.l.length-1)).2.1+miss)=xS t at' miss dL R.l.length:=by rw[hlast,gZ (by omega) (by omega)];rfl
  have w1:wr .i64 (wr .i64 (wr .i64 (wr .i64 (at'+dL)+miss)+jR t)+1)=ju t at' miss dL:=by unfold ju;rw[gZ (n:=at'+dL) (by omega) (by omega),gZ (n:=at'+dL+miss) (by omega) (by omega),gZ (n:=at'+dL+miss+jR t) (by omega) (by omega),gZ (by omega) (by omega)]
  have w2:wr .i64 (wr .i64 (ju t at' miss dL-miss)-jR t)=at'+dL+1:=by have hf:ju t at' miss dL=at'+dL+miss+jR t+1:=rfl;rw[gZ (n:=ju t at' miss dL-miss) (by omega) (by omega),gZ (by omega) (by omega)];omega
  have hrun:lG t old now at' miss dL=some (bif decide (xS t at' miss dL R.l.length>1099511627776)then(DR,11)else((s,R,miss,jR t,at'+dL+1,xS t at' miss dL R.l.length),0)):=by unfold lG;rw[Zu,hnI];simp only[aa,cond_false,h1,bne_self_eq_false,hl,PD hV,h3,hgap];rw[show 2*miss+jR t+1=sA t miss from rfl,ht];simp only[aa,h6,hw1,aY (show R.l.length-1<R.l.length by omega),hw2,w1,w2];cases decide (xS t at' miss dL R.l.length>1099511627776)<;>rfl
  by_cases ho:xS t at' miss dL R.l.length>1099511627776
  .rw [decide_eq_true ho]at hrun;exact⟨_,_,hrun,fun h=>absurd h hz,fun _=>⟨s,R,h2,h7,by omega,.inl ⟨ho,rfl,rfl⟩⟩⟩
  .rw [decide_eq_false ho]at hrun;exact⟨_,_,hrun,fun h=>absurd h hz,fun _=>⟨s,R,h2,h7,by omega,.inr ⟨by omega,rfl,rfl⟩⟩⟩
end
end Go.Proofs.YtoekkpmeeclpeaaGreat.S
open Go.Ev Go
namespace Go.Proofs.YtoekkpmeeclpeaaGreat.S
def Is(ho po:Int):aV:=(3,(10,(-1,Arr.set (pM (.ar 4 (.i .i64))) 1 ho,Arr.set (pM (.ar 4 (.i .i64))) 1 255),Sl.mk [(2,0,po)]),false)
theorem Vd{ho po:Int}(h0:0<=ho)(h1:ho<=255):vQ 1 ho 10 po=some (Is ho po).2.1:=by
 have e1:nk 1=some 255:=by kernel_rfl
 have e2:((decide ((1:Int)>=0)&&decide ((1:Int)<4))&&decide (ho>=0))=true:=by simp;omega
 have e3:bS 1 4=some 1:=rfl;simp only[vQ,DJ,F3,DS,aa,e2,cond_true,e1,decide_eq_true h1,e3,Is]
def Y5(round sw:Int)(l:List aD):List aD:=l.filter fun m=>(m.2.2.2==round)&&(m.1==sw)
theorem Py{l:Sl aD}{round sw:Int}(hl:l.l.length<=1000)(hh:∀m∈l.l,0<=m.2.1/\m.2.1<=255):∃s,lU l round sw=some s/\s.l=(Y5 round sw l.l).map fun m=>Is m.2.1 m.2.2.1:=by
 have key:∀l:List aD,(l.flatMap fun m=>bif(m.2.2.2==round)&&(m.1==sw)then[Is m.2.1 m.2.2.1]else[])=(Y5 round sw l).map fun m=>Is m.2.1 m.2.2.1:=by intro l;induction l with|nil=>rfl|cons m l ih=>rw[List.flatMap_cons,ih];unfold Y5;rw[List.filter_cons];cases h:(m.2.2.2==round)&&(m.1==sw)<;>simp
 obtain⟨s,h1,h2⟩:=xR (f:=jY l round sw) l.l (fun m=>bif(m.2.2.2==round)&&(m.1==sw)then[Is m.2.1 m.2.2.1]else[]) .nil (by omega) (fun i s hi hs=>by
  have hsl:s.l.length<=i:=by rw[hs];have:=lH (m:=1) (f:=fun m:aD=>bif(m.2.2.2==round)&&(m.1==sw)then[Is m.2.1 m.2.2.1]else[]) (fun m=>by cases(m.2.2.2==round)&&(m.1==sw)<;>simp) (l.l.take i);simp only[Sl.l,List.nil_append];refine Nat.le_trans this ?_;rw[Nat.one_mul,bw];exact Nat.min_le_left _ _
  have hm:=hh (gt l.l i) (by rw[dx hi];exact cW _);cases hc:((gt l.l i).2.2.2==round)&&((gt l.l i).1==sw)with
  |false=>refine⟨s,?_,by rw[cond_false,List.append_nil]⟩;have hc:(((aD.CC (gt l.l i))==round)&&((aD.Sw (gt l.l i))==sw))=false:=hc;simp only[jY,fT hi,cond_true,aY hi,aa,hc,cond_false]
  |true=>refine⟨.mk (s.l++[Is (gt l.l i).2.1 (gt l.l i).2.2.1]),?_,rfl⟩;have hc:(((aD.CC (gt l.l i))==round)&&((aD.Sw (gt l.l i))==sw))=true:=hc;have hp:=Vd (po:=(gt l.l i).2.2.1) hm.1 hm.2;have hcap:fA (s.l++[Is (gt l.l i).2.1 (gt l.l i).2.2.1])=some (s.l++[Is (gt l.l i).2.1 (gt l.l i).2.2.1]):=kz (by rw[au,aH];omega);have hcap:fA (s.l++[((3,(Is (gt l.l i).2.1 (gt l.l i).2.2.1).2.1,false):aV)])=some (s.l++[Is (gt l.l i).2.1 (gt l.l i).2.2.1]):=hcap;simp only[jY,fT hi,cond_true,aY hi,aa,hc,hp,hcap]) (fun s=>by simp only[jY,ij,cond_false])
 have h1:aJ (jY l round sw) (0,Sl.nil)=some s:=h1;exact⟨s,by simp only[lU,h1,aa],by rw[h2,key];rfl⟩
section
variable{t:am}{old now:Sl (Sl Int)}
theorem acf(hN:jS t now):∀m∈tF t old now,0<=m.2.1/\m.2.1<=255:=fun m hm=>by obtain⟨h,s,hh,_,_,rfl⟩:=Cd.1 (JU.1 hm);have:=hN.1.sq;exact⟨by show(0:Int)<=(h:Int);omega,by show(h:Int)<=255;omega⟩
end
end Go.Proofs.YtoekkpmeeclpeaaGreat.S
