/- Rounds of moves: what the program's Rounds answers. Conditions: as stated. -/
import Derived.Test.YtoekkpmeeclpeaaGreatLK
open Bool renaming not_true->gF,or_eq_false_iff->cN
open Int renaming le_refl->gR
open List renaming ext_getElem->gA,getElem_append_left->kE,getElem_map->jg,getElem_mem->aZ,getElem_range->lT,length_append->aA,length_singleton->aR,length_take->bU,mem_append->aG,mem_cons_self->aF,mem_filter->dq,mem_map->aP,mem_range->cM,mem_singleton->az,pairwise_append->j9,range->aK,take_append_getElem->il,take_length->eF
open Nat renaming blt_eq->eD,zero_le->cp
open Option renaming bind_some->af
open Go.Ev Go
namespace Go.Proofs.YtoekkpmeeclpeaaGreat.S
theorem MQ(l:List Int):qQ l=((aK l.length).filter fun j=>decide (j=0\/gt l j≠gt l (j-1))).map (gt l):=by
 have g:∀j,l.toArray[j]! =gt l j:=fun j=>by
  simp only[gt,List.getD_eq_getElem?_getD];by_cases hj:j<l.length
  .simp [hj]
  .simp [hj]
 show((aK l.length).filter (Lib.keeps l.toArray)).map (fun j=>l.toArray[j]!)=_;rw[show(fun j=>l.toArray[j]!)=gt l from funext g];congr 1;apply List.filter_congr;intro j _;unfold Lib.keeps;rw[g,g]
theorem Sf{l:List Int}{x:Int}:x∈qQ l<->x∈l:=by
 rw[MQ];constructor
 .intro h;obtain⟨j,hj,rfl⟩:=aP.1 h;have hl:j<l.length:=by have:=(dq.1 hj).1;simpa using this
  rw[dc hl];exact aZ _
 .intro h;obtain⟨j,hj,e⟩:=List.mem_iff_getElem.1 h
  have main:∀j,j<l.length->gt l j=x->x∈((aK l.length).filter fun j=>decide (j=0\/gt l j≠gt l (j-1))).map (gt l):=by
   intro j;induction j with
   |zero=>intro hj e;exact aP.2 ⟨0,dq.2 ⟨by simpa using hj,by simp⟩,e⟩
   |succ j ih=>
    intro hj e;by_cases he:gt l (j+1)=gt l j
    .exact ih (by omega) (he▸e)
    .exact aP.2 ⟨j+1,dq.2 ⟨by simpa using hj,by simpa using he⟩,e⟩
  exact main j hj (by rw[dc hj];exact e)
theorem Sg{l:List Int}(hs:l.Pairwise (·<=·)):(qQ l).Pairwise (·<·):=by
 have hle:∀i j,i<=j->j<l.length->gt l i<=gt l j:=fun i j hij hj=>by
  rcases Nat.lt_or_eq_of_le hij with h|rfl
  .rw [dc (by omega),dc hj];exact List.pairwise_iff_getElem.1 hs i j (by omega) hj h
  .exact gR _
 rw[MQ,List.pairwise_map];have h1:((aK l.length).filter fun j=>decide (j=0\/gt l j≠gt l (j-1))).Pairwise (·<·):=(List.pairwise_lt_range (n:=l.length)).filter _;refine List.Pairwise.imp_of_mem (fun{i j}_ hj hij=>?_) h1;obtain⟨hj1,hj2⟩:=dq.1 hj;have hj1:j<l.length:=by simpa using hj1
 have hj2:j=0\/gt l j≠gt l (j-1):=of_decide_eq_true hj2;have h3:=hle i (j-1) (by omega) (by omega);have h4:=hle (j-1) j (by omega) hj1;omega
theorem Ia{l:Sl aE}(hl:l.l.length<=1000):∃s,lI l=some s/\s.l.Pairwise (·<·)/\∀x,x∈s.l<->∃m∈l.l,m.2.2.2=x:=by
 obtain⟨s,h1,h2⟩:=FR (f:=md l) l.l (fun m=>[m.2.2.2]) .nil (by omega) (fun i s hi hs=>by
  have hlen:s.l.length<=1000:=by have:=pQ (m:=1) (f:=fun m:aE=>[m.2.2.2]) (fun _=>by simp) (l.l.take i);rw[bU]at this;have e:s.l=(l.l.take i).flatMap fun m=>[m.2.2.2]:=hs;rw[e];omega
  exact⟨.mk (s.l++[(gt l.l i).2.2.2]),by simp only[md,nM hi,cond_true,bV hi,af,nX (show(s.l++[aE.ED (gt l.l i)]).length<=2147483648 by rw[aA,aR];omega)],rfl⟩) (fun s=>by simp only[md,sS,cond_false])
 have h2:s.l=l.l.flatMap fun m=>[m.2.2.2]:=h2;have hlen:s.l.length<=1000:=by have:=pQ (m:=1) (f:=fun m:aE=>[m.2.2.2]) (fun _=>by simp) l.l;rw[h2];omega
 have hsz:(uU s.l.toArray).toList.length=s.l.length:=by simp[uU]
 have hsort:uA uU s=some (s.to (uU s.l.toArray).toList):=by unfold uA;rw[show Nat.blt s.l.length 4611686018427387904=true by rw[eD];omega];rfl
 have hlenS:m8 (s.to (uU s.l.toArray).toList) s=some ():=by cases s with|nil=>rfl|mk l=>have hsz:(uU l.toArray).toList.length=l.length:=hsz;show I2 (uU l.toArray).toList l=some ();unfold I2;rw[if_pos hsz]
 have htl:(s.to (uU s.l.toArray).toList).l=s.l.mergeSort Ot:=by cases s with|nil=>exact List.mergeSort_nil.symm|mk l=>rfl
 have hcut:OT qQ (s.to (uU s.l.toArray).toList)=some ((s.to (uU s.l.toArray).toList).to (qQ (s.l.mergeSort Ot))):=by unfold OT;rw[htl,show Nat.blt (s.l.mergeSort Ot).length 4611686018427387904=true by rw[eD,List.length_mergeSort];omega];rfl
 have hfin:((s.to (uU s.l.toArray).toList).to (qQ (s.l.mergeSort Ot))).l=qQ (s.l.mergeSort Ot):=by cases s with|nil=>show[]=qQ ([].mergeSort Ot);rw[List.mergeSort_nil];rfl|mk l=>rfl
 have hrun:lI l=some ((s.to (uU s.l.toArray).toList).to (qQ (s.l.mergeSort Ot))):=by simp only[lI,h1,af,hsort,hlenS,hcut]
 refine⟨_,hrun,?_,fun x=>?_⟩
 .rw [hfin];refine Sg ?_;have:=List.pairwise_mergeSort (le:=Ot) (fun a b c h1 h2=>by simp only[Ot,decide_eq_true_eq]at*;omega) (fun a b=>by simp only[Ot,Bool.or_eq_true,decide_eq_true_eq];omega) s.l;exact this.imp fun h=>by simpa[Ot]using h
 .rw [hfin,Sf,List.mem_mergeSort,h2];simp only[List.mem_flatMap,az];exact⟨fun⟨m,h1,h2⟩=>⟨m,h1,h2.symm⟩,fun⟨m,h1,h2⟩=>⟨m,h1,h2.symm⟩⟩
end Go.Proofs.YtoekkpmeeclpeaaGreat.S
open Go.Ev Go
namespace Go.Proofs.YtoekkpmeeclpeaaGreat.S
def wR(l:List a_):Int:=l.foldl (fun m x=>if x.uw>m then x.uw else m) 0
theorem ND(l:List a_){i:Nat}(hi:i<l.length):wR (l.take (i+1))=if(gt l i).uw>wR (l.take i)then(gt l i).uw else wR (l.take i):=by unfold wR;rw[dc hi,<-il hi,List.foldl_append];rfl
theorem PY{t:ao}(hb:t.a7.l.length<9223372036854775808):nD t=some (wR t.a7.l):=by
 have e0:((0:Nat):Int)=0:=rfl
 have h:aU (jK t) (0,0)=some (wR t.a7.l):=by
  have h1:=K8 (f:=jK t) (fun i(m:Int)=>(m,(i:Int))) t.a7.l.length (fun i m=>m=wR (t.a7.l.take i)) (fun b=>b=wR t.a7.l) (fun i m hi hm=>by
   left;refine⟨_,?_,(ND _ hi).symm⟩;subst hm;simp only[jK,nM hi,cond_true,bV hi,af,zS (show i<9223372036854775807 by omega)])
   (fun m hm=>⟨m,by simp only[jK,sS,cond_false],by rw[hm,eF]⟩) 0 0 (cp _) rfl
  obtain⟨b,h1,rfl⟩:=h1;exact h1
 simp only[nD,h,af]
theorem TA{l:List a_}(h:∀x∈l,zO x):0<=wR l/\wR l<=1000:=by
 have:∀(l:List a_)(m:Int),(∀x∈l,zO x)->0<=m/\m<=1000->0<=l.foldl (fun m x=>if x.uw>m then x.uw else m) m/\l.foldl (fun m x=>if x.uw>m then x.uw else m) m<=1000:=by intro l;induction l with|nil=>intro m _ hm;exact hm|cons x l ih=>intro m h hm;refine ih _ (fun y hy=>h y (List.mem_cons_of_mem _ hy)) ?_;have:=h x (aF ..);unfold zO at this;show 0<=(if x.uw>m then x.uw else m)/\(if x.uw>m then x.uw else m)<=1000;split<;>omega
 exact this l 0 h ⟨by omega,by omega⟩
def mR(t:ao):Int:=t.au*wR t.a7.l
theorem yk{t:ao}(hV:fF t):0<=mR t/\mR t<=8000:=by obtain⟨h1,h2⟩:=TA hV.Rf;obtain⟨h3,h4⟩:=hV.sw;unfold mR;generalize wR t.a7.l=s at*;generalize t.au=n at*;refine⟨Int.mul_nonneg (by omega) h1,?_⟩;have:=Int.mul_le_mul h4 h2 h1 (by omega);omega
theorem IY{t:ao}(hV:fF t):rk t=some (mR t):=by have:=yk hV;have hl:=hV.FN;simp only[rk,PY (show t.a7.l.length<9223372036854775808 by omega),af];exact congrArg some (iY (n:=mR t) (by omega) (by omega))
theorem US{t:ao}(hV:fF t){miss:Int}(h0:0<=miss)(h1:miss<=1048576):vE t miss=some (2*miss+mR t+1):=by have:=yk hV;simp only[vE,IY hV,af];rw[iY (n:=2*miss) (by omega) (by omega),iY (n:=2*miss+mR t) (by omega) (by omega),iY (by omega) (by omega)]
def Hg(l:List aE):Prop:=l.Pairwise J6
structure JQ(l:List aE)(round:Int)(s:List Int):Prop where
 YJ:s.Pairwise (·<·)
 AA:∀x,x∈s<->∃m∈l,m.2.2.2=round/\m.1=x
theorem SJ{s:List Int}{x:Int}(h:s.Pairwise (·<·))(hx:∀y∈s,y<x):(s++[x]).Pairwise (·<·):=j9.2 ⟨h,by simp,fun a ha b hb=>by obtain rfl:=az.1 hb;exact hx a ha⟩
theorem Tw{l:Sl aE}(hs:Hg l.l)(hb:l.l.length<=1000)(round:Int):∃s,vD l round=some s/\JQ l.l round s.l:=by
 have h1:=K8 (f:=jU l round) (fun i(s:Sl Int)=>((i:Int),s)) l.l.length (fun i s=>s.l.length<=i/\JQ (l.l.take i) round s.l) (fun s=>JQ l.l round s.l) (fun i s hi⟨hlen,hI⟩=>by
  left;have et:l.l.take (i+1)=l.l.take i++[gt l.l i]:=by rw[dc hi,il hi]
  have hc:=vg (s:=s) (gt l.l i).1 (by omega);have hpre:∀m∈l.l.take i,J6 m (gt l.l i):=fun m hm=>by have:=hs;unfold Hg at this;rw[<-List.take_append_drop i l.l]at this;refine(j9.1 this).2.2 m hm _ ?_;rw[List.drop_eq_getElem_cons hi,<-dc hi];exact aF ..
  have hmem1:∀x,(∃m∈l.l.take (i+1),m.2.2.2=round/\m.1=x)<->(∃m∈l.l.take i,m.2.2.2=round/\m.1=x)\/((gt l.l i).2.2.2=round/\(gt l.l i).1=x):=fun x=>by
   rw[et];simp only[aG,az];constructor
   .rintro ⟨m,hm|rfl,h⟩
    .exact .inl ⟨m,hm,h⟩
    .exact .inr h
   .rintro (⟨m,hm,h⟩|h)
    .exact ⟨m,.inl hm,h⟩
    .exact ⟨_,.inr rfl,h⟩
  by_cases hr:(gt l.l i).2.2.2=round
  .by_cases hm:(gt l.l i).1∈s.l
   .refine ⟨s,?_,by omega,hI.YJ,fun x=>?_⟩
    .rw [decide_eq_true hm]at hc;simp only[jU,nM hi,cond_true,bV hi,af,hr,beq_self_eq_true,hc,gF,cond_false,zS (show i<9223372036854775807 by omega)]
    .rw [hmem1,hI.AA];refine⟨.inl,fun h=>h.elim id fun⟨_,h2⟩=>?_⟩;rw[<-hI.AA,<-h2];exact hm
   .refine ⟨.mk (s.l++[(gt l.l i).1]),?_,by rw[Sl.sB,aA,aR];omega,?_,fun x=>?_⟩
    .rw [decide_eq_false hm]at hc;simp only[jU,nM hi,cond_true,bV hi,af,hr,beq_self_eq_true,hc,Bool.not_false,nX (show(s.l++[(gt l.l i).1]).length<=2147483648 by rw[aA,aR];omega),zS (show i<9223372036854775807 by omega)]
    .refine SJ hI.YJ fun y hy=>?_;obtain⟨m,h1,h2,h3⟩:=(hI.AA y).1 hy;have h4:=hpre m h1;unfold J6 at h4;have:y≠(gt l.l i).1:=fun e=>hm (e▸hy);omega
    .rw [hmem1,Sl.sB,aG,az,hI.AA];refine or_congr Iff.rfl ⟨fun h=>⟨hr,h.symm⟩,fun h=>h.2.symm⟩
  .have hr2:((gt l.l i).2.2.2==round)=false:=by rw[beq_eq_false_iff_ne];exact hr
   refine⟨s,?_,by omega,hI.YJ,fun x=>?_⟩
   .simp only[jU,nM hi,cond_true,bV hi,af,hr2,cond_false,zS (show i<9223372036854775807 by omega)]
   .rw [hmem1,hI.AA];exact⟨.inl,fun h=>h.elim id fun h=>absurd h.1 hr⟩)
  (fun s⟨_,hI⟩=>⟨s,by simp only[jU,sS,cond_false],by rw[eF]at hI;exact hI⟩) 0 .nil (cp _) ⟨Nat.le_refl _,by simp,fun x=>by simp⟩
 obtain⟨s,h1,h2⟩:=h1;have h1:aU (jU l round) (0,Sl.nil)=some s:=h1;exact⟨s,by simp only[vD,h1,af],h2⟩
def pk(n:Nat)(gap:Int):List Int:=(aK n).map fun(i:Nat)=>(i:Int)*gap
theorem PG{n i:Nat}{gap:Int}(hi:i<n):gt (pk n gap) i=(i:Int)*gap:=by rw[dc (by simp[pk,hi])];simp[pk]
def kL(n:Nat)(gap:Int):List a8:=(aK n).map fun(i:Nat)=>((i:Int),((i+1:Nat):Int),gap)
theorem Lv{n:Nat}(hn:n<=63)(gap:Int):∃s,aU (mx ((n+1:Nat):Int) gap) (1,Sl.nil)=some s/\s.l=kL n gap:=by
 have h1:=K8 (f:=mx ((n+1:Nat):Int) gap) (fun i(s:Sl a8)=>(((i+1:Nat):Int),s)) n (fun i s=>s.l=kL i gap) (fun s=>s.l=kL n gap) (fun i s hi hs=>by
  left;have hlen:s.l.length=i:=by rw[hs];simp[kL]
  have hw:wr .i64 (((i+1:Nat):Int)-1)=(i:Int):=by rw[iY (by omega) (by omega)];omega
  exact⟨.mk (s.l++[((i:Int),((i+1:Nat):Int),gap)]),by
   simp only[mx,nM (show i+1<n+1 by omega),cond_true,hw,nX (show(s.l++[(((i:Int),((i+1:Nat):Int),gap):a8)]).length<=2147483648 by rw[aA,aR];omega),af,zS (show i+1<9223372036854775807 by omega)],by
   rw[Sl.sB,hs];simp[kL,List.range_succ]⟩)
  (fun s hs=>⟨s,by simp only[mx,sS,cond_false],hs⟩) 0 .nil (cp _) rfl
 exact h1
theorem Lf{n:Nat}(hn:n<=63){gap:Int}(h0:0<gap)(h1:gap<=1073741824){s:Sl a8}(hs:s.l=kL n gap):rB ((n+1:Nat):Int) s=some true:=by
 have hlen:s.l.length=n:=by rw[hs];simp[kL]
 have hi:=yL (f:=bK s ((n+1:Nat):Int)) (β:=Int) (γ:=Unit) s.l (fun _ _=>none) () (by omega) (fun i hi=>by
  have hg:gt s.l i=((i:Int),((i+1:Nat):Int),gap):=by rw[dc hi];simp only[hs,kL,jg,lT]
  have hc:((((((decide ((i:Int)<0))||(decide ((i:Int)>=((n+1:Nat):Int))))||(decide (((i+1:Nat):Int)<0)))||(decide (((i+1:Nat):Int)>=((n+1:Nat):Int))))||(decide (gap<(-1073741824))))||(decide (gap>1073741824)))=false:=by simp only[cN,decide_eq_false_iff_not];omega
  simp only[bK,nM hi,cond_true,bV hi,af,wI,hg,hc,cond_false]) (by simp only[bK,sS,cond_false])
 have h2:lZ (β:=Int) (fun(_:Nat)(_:a8)=>none) s.l 0=none:=qY.2 fun _ _ _=>rfl;rw[h2]at hi;have hc:(((decide (((n+1:Nat):Int)<0))||(decide (((n+1:Nat):Int)>64)))||(decide ((s.l.length:Int)>256)))=false:=by simp only[cN,decide_eq_false_iff_not];omega
 simp only[rB,hc,cond_false,bL,bS,hi,af];rfl
end Go.Proofs.YtoekkpmeeclpeaaGreat.S
open Go.Ev Go
namespace Go.Proofs.YtoekkpmeeclpeaaGreat.S
theorem CY{N j:Nat}(f:Nat->Int)(hj:j<N):gt ((aK N).map f) j=f j:=by rw[dc (by simp[hj])];simp
theorem TC{N k:Nat}(f:Nat->Int)(v:Int):((aK N).map f).set k v=(aK N).map fun j=>if j=k then v else f j:=by
 apply gA (by simp);intro i h1 h2;simp only[List.getElem_set,jg,lT];by_cases h:k=i
 .rw [if_pos h,if_pos h.symm]
 .rw [if_neg h,if_neg (Ne.symm h)]
def oE(gap:Int)(i j:Nat):Int:=if j<=i then(j:Int)*gap else 0
theorem Ni(gap:Int)(i:Nat):(fun j=>if j=i+1 then((i+1:Nat):Int)*gap else oE gap i j)=oE gap (i+1):=by
 funext j;unfold oE;by_cases h:j=i+1
 .rw [if_pos h,if_pos (by omega),h]
 .rw [if_neg h];by_cases h2:j<=i
  .rw [if_pos h2,if_pos (by omega)]
  .rw [if_neg h2,if_neg (by omega)]
section
variable{n:Nat}{gap:Int}{s:Sl a8}
theorem JN(hs:s.l=kL n gap){i:Nat}(hi:i<n):gt s.l i=((i:Int),((i+1:Nat):Int),gap):=by
 have hl:i<s.l.length:=by rw[hs];simp[kL,hi]
 rw[dc hl];simp only[hs,kL,jg,lT]
theorem KO{i n:Nat}{gap:Int}(h0:0<gap)(h1:gap<=1073741824)(hi:i<=n)(hn:n<=64):0<=(i:Int)*gap/\(i:Int)*gap<=68719476736:=by refine⟨Int.mul_nonneg (by omega) (by omega),?_⟩;have:=Int.mul_le_mul (show(i:Int)<=64 by omega) h1 (by omega) (by omega);omega
theorem aak(hn:n<=63)(h0:0<gap)(h1:gap<=1073741824)(hs:s.l=kL n gap){b:List Int}(hb:b.length=n+1):
  ∃b',aU (ij s) (-1,0,.mk ((aK (n+1)).map (oE gap 0)),.mk b)=some (if n=0 then-1 else(n:Int),.mk ((aK (n+1)).map (oE gap n)),.mk b')/\b'.length=n+1:=by
 have hlen:s.l.length=n:=by rw[hs];simp[kL]
 have h:=K8 (f:=ij s) (fun i(b:List Int)=>(if i=0 then-1 else(i:Int),(i:Int),Sl.mk ((aK (n+1)).map (oE gap i)),Sl.mk b)) n (fun _ b=>b.length=n+1)
  (fun r=>∃b',r=(if n=0 then-1 else(n:Int),Sl.mk ((aK (n+1)).map (oE gap n)),Sl.mk b')/\b'.length=n+1) (fun i b hi hb=>by
   left;have hg:=JN hs hi;have hil:i<s.l.length:=by omega
   have l1:i<(Sl.mk ((aK (n+1)).map (oE gap i))).l.length:=by simp;omega
   have l2:i+1<(Sl.mk ((aK (n+1)).map (oE gap i))).l.length:=by simp;omega
   have l3:i+1<(Sl.mk b).l.length:=by rw[Sl.sB,hb];omega
   have g1:gt (Sl.mk ((aK (n+1)).map (oE gap i))).l i=(i:Int)*gap:=by rw[Sl.sB,CY _ (by omega)];simp[oE]
   have g2:gt (Sl.mk ((aK (n+1)).map (oE gap i))).l (i+1)=0:=by rw[Sl.sB,CY _ (by omega),oE,if_neg (by omega)]
   have hm:=KO h0 h1 (show i<=n by omega) (by omega);have em:(i:Int)*gap+gap=((i+1:Nat):Int)*gap:=by rw[show((i+1:Nat):Int)=(i:Int)+1 by omega,Int.add_mul,Int.one_mul]
   have hw:wr .i64 ((i:Int)*gap+gap)=((i+1:Nat):Int)*gap:=by rw[iY (by omega) (by omega),em]
   have hgt:decide (((i+1:Nat):Int)*gap>0)=true:=by rw[decide_eq_true_eq];omega
   refine⟨b.set (i+1) (i:Int),?_,by simp[hb]⟩;simp only[ij,nM hil,cond_true,bV hil,hg,bV l1,bV l2,bV l3,af,g1,g2,hw,hgt,zS (show i<9223372036854775807 by omega)];simp only[Sl.sB,TC,Ni];rfl)
  (fun b hb=>⟨(if n=0 then-1 else(n:Int),Sl.mk ((aK (n+1)).map (oE gap n)),Sl.mk b),by simp only[ij,hlen,sS,cond_false],b,rfl,hb⟩) 0 b (cp _) hb
 obtain⟨r,h2,b',rfl,h3⟩:=h;exact⟨b',h2,h3⟩
theorem aaj(hn:n<=63)(h0:0<gap)(h1:gap<=1073741824)(hs:s.l=kL n gap)(b:Sl Int):
  aU (ij s) (-1,0,.mk ((aK (n+1)).map (oE gap n)),b)=some (-1,.mk ((aK (n+1)).map (oE gap n)),b):=by
 have hlen:s.l.length=n:=by rw[hs];simp[kL]
 have h:=K8 (f:=ij s) (fun i(_:Unit)=>((-1:Int),(i:Int),Sl.mk ((aK (n+1)).map (oE gap n)),b)) n (fun _ _=>True)
  (fun r=>r=((-1:Int),Sl.mk ((aK (n+1)).map (oE gap n)),b)) (fun i _ hi _=>by
   left;have hg:=JN hs hi;have hil:i<s.l.length:=by omega
   have l1:i<(Sl.mk ((aK (n+1)).map (oE gap n))).l.length:=by simp;omega
   have l2:i+1<(Sl.mk ((aK (n+1)).map (oE gap n))).l.length:=by simp;omega
   have g1:gt (Sl.mk ((aK (n+1)).map (oE gap n))).l i=(i:Int)*gap:=by rw[Sl.sB,CY _ (by omega),oE,if_pos (by omega)]
   have g2:gt (Sl.mk ((aK (n+1)).map (oE gap n))).l (i+1)=((i+1:Nat):Int)*gap:=by rw[Sl.sB,CY _ (by omega),oE,if_pos (by omega)]
   have hm:=KO h0 h1 (show i<=n by omega) (by omega);have em:(i:Int)*gap+gap=((i+1:Nat):Int)*gap:=by rw[show((i+1:Nat):Int)=(i:Int)+1 by omega,Int.add_mul,Int.one_mul]
   have hw:wr .i64 ((i:Int)*gap+gap)=((i+1:Nat):Int)*gap:=by rw[iY (by omega) (by omega),em]
   have hgt:decide (((i+1:Nat):Int)*gap>((i+1:Nat):Int)*gap)=false:=by rw[decide_eq_false_iff_not];omega
   refine⟨(),?_,trivial⟩;simp only[ij,nM hil,cond_true,bV hil,hg,bV l1,bV l2,af,g1,g2,hw,hgt,cond_false,zS (show i<9223372036854775807 by omega)])
  (fun _ _=>⟨_,by simp only[ij,hlen,sS,cond_false],rfl⟩) 0 () (cp _) trivial
 obtain⟨r,h2,rfl⟩:=h;exact h2
theorem Qx(hn:n<=63)(h0:0<gap)(h1:gap<=1073741824)(hs:s.l=kL n gap):∃b,tw ((n+1:Nat):Int) s=some (.mk (pk (n+1) gap),b,-1):=by
 have hmk:zQ (0:Int) ((n+1:Nat):Int) ((n+1:Nat):Int)=some ((aK (n+1)).map (oE gap 0)):=by
  unfold zQ;rw[if_pos ⟨by omega,gR _,by omega⟩];congr 1;rw[Int.toNat_natCast];apply gA (by simp);intro i _ _;simp only[List.getElem_replicate,jg,lT,oE];by_cases h:i<=0
  .rw [if_pos h,show i=0 by omega];simp
  .rw [if_neg h]
 have ht:(aK (n+1)).map (oE gap n)=pk (n+1) gap:=by unfold pk;apply List.map_congr_left;intro j hj;rw[oE,if_pos (by have:=cM.1 hj;omega)]
 have hw:wr .i64 (((n+1:Nat):Int)+1)=((n+2:Nat):Int):=by rw[iY (by omega) (by omega)];omega
 obtain⟨b1,p1,p2⟩:=aak hn h0 h1 hs (b:=(aK (n+1)).map (oE gap 0)) (by simp)
 have hl:∃b,aU (lL ((n+1:Nat):Int) s) (-1,0,.mk ((aK (n+1)).map (oE gap 0)),.mk ((aK (n+1)).map (oE gap 0)))=some (-1,.mk (pk (n+1) gap),b):=by
  have c1:decide ((0:Int)<((n+2:Nat):Int))=true:=by rw[decide_eq_true_eq];omega
  by_cases hz:n=0
  .rw [if_pos hz]at p1;refine⟨.mk b1,cQ ?_⟩;simp only[lL,hw,c1,cond_true,p1,af,ht];rfl
  .rw [if_neg hz]at p1;have c2:decide ((n:Int)<0)=false:=by rw[decide_eq_false_iff_not];omega
   have c3:decide ((1:Int)<((n+2:Nat):Int))=true:=by rw[decide_eq_true_eq];omega
   have p3:=aaj hn h0 h1 hs (.mk b1);rw[ht]at p3;refine⟨.mk b1,(fA (a':=((n:Int),(1:Int),.mk ((aK (n+1)).map (oE gap n)),.mk b1)) ?_).trans (cQ ?_)⟩
   .simp only[lL,hw,c1,cond_true,p1,af,c2,cond_false];rfl
   .simp only[lL,hw,c3,cond_true,ht,p3,af];rfl
 obtain⟨b,hl⟩:=hl;exact⟨b,by simp only[tw,hmk,af,hl]⟩
theorem Nq(hn:n<=63)(h0:0<gap)(h1:gap<=1073741824):pq ((n+1:Nat):Int) gap=some (.mk (pk (n+1) gap)):=by obtain⟨s,h2,h3⟩:=Lv hn gap;obtain⟨b,h4⟩:=Qx hn h0 h1 h3;simp only[pq,h2,af,oR,Lf hn h0 h1 h3,gF,cond_false,h4];rfl
end
end Go.Proofs.YtoekkpmeeclpeaaGreat.S
open Go.Ev Go
namespace Go.Proofs.YtoekkpmeeclpeaaGreat.S
section
variable{t:ao}{old now:Sl (Sl Int)}
theorem Og:Hg (wy t old now):=GJ
structure Rds(ms:List aE)(first gap:Int)(R:List aQ):Prop where
 YJ:(R.map fun x=>x.1).Pairwise (·<·)
 AA:∀x,x∈(R.map fun x=>x.1)<->∃m∈ms,m.2.2.2=x
 acS:∀i,i<R.length->(gt R i).2.1=first+(i:Int)*gap
 sws:∀i,i<R.length->JQ ms (gt R i).1 (gt R i).2.2.l
theorem G9{l:List Int}(h:l.Pairwise (·<·))(hb:∀x∈l,0<=x/\x<8):l.length<=8:=by
 have hnd:l.Nodup:=h.imp fun h e=>by omega
 have hsub:l⊆(aK 8).map fun(i:Nat)=>(i:Int):=fun x hx=>by have:=hb x hx;exact aP.2 ⟨x.toNat,cM.2 (by omega),by omega⟩
 simpa using hnd.length_le_of_subset hsub
theorem Rds.len{first gap:Int}{R:List aQ}(hN:mY t now)(h:Rds (wy t old now) first gap R):R.length<=8:=by
 have:=G9 h.YJ fun x hx=>by obtain⟨m,hm,rfl⟩:=(h.AA x).1 hx;have:=IR hN hm;omega
 simpa using this
def kY(t:ao)(at' miss fE:Int):Int:=at'+fE+miss+mR t+1
def uo(t:ao)(miss:Int):Int:=2*miss+mR t+1
def In(at' miss fE:Int):Prop:=(0<=at'/\at'<=1099511627776)/\(0<=miss/\miss<=1048576)/\(0<=fE/\fE<=1048576)
instance{a b c:Int}:Decidable (In a b c):=by unfold In;infer_instance
def CW:am:=⟨Sl.nil,Sl.nil,0,0,0,0⟩
def Ca(t:ao)(at' miss fE:Int)(n:Nat):Int:=kY t at' miss fE+((n-1:Nat):Int)*uo t miss+miss
theorem RG(hV:fF t){at' miss fE:Int}(hI:In at' miss fE):0<uo t miss/\uo t miss<=1073741824:=by have:=yk hV;unfold uo;unfold In at hI;omega
theorem RN(hV:fF t){at' miss fE:Int}(hI:In at' miss fE):0<=kY t at' miss fE/\kY t at' miss fE<=1100000000000:=by have:=yk hV;unfold kY;unfold In at hI;omega
theorem LO(hV:fF t){at' miss fE:Int}(hI:In at' miss fE){i:Nat}(hi:i<=8):0<=kY t at' miss fE+(i:Int)*uo t miss/\kY t at' miss fE+(i:Int)*uo t miss<=1200000000000:=by obtain⟨h1,h2⟩:=RG hV hI;have h3:=RN hV hI;have h4:=KO h1 h2 hi (show 8<=64 by omega);omega
structure acv(t:ao)(old now:Sl (Sl Int))(at' miss fE:Int)(p:am)(e:Int):Prop where
 none:wy t old now=[]->p=CW/\e=7
 aal:wy t old now≠[]->∃(s:Sl aE)(R:Sl aQ),s.l=wy t old now/\Rds (wy t old now) (kY t at' miss fE) (uo t miss) R.l/\0<R.l.length/\
  ((Ca t at' miss fE R.l.length>1099511627776/\p=CW/\e=11)\/
   (Ca t at' miss fE R.l.length<=1099511627776/\p=(s,R,miss,mR t,at'+fE+1,Ca t at' miss fE R.l.length)/\e=0))
theorem Ib(hN:mY t now){at' miss fE:Int}(hI:In at' miss fE){s:Sl aE}(hs:s.l=wy t old now){L:Sl Int}(hL1:L.l.Pairwise (·<·))(hL2:∀x,x∈L.l<->∃m∈s.l,m.2.2.2=x)(hL3:L.l.length<=8):
  ∃R,aU (lF at' miss fE s (mR t) L (.mk (pk L.l.length (uo t miss)))) (0,s,miss,mR t,0,0,Sl.nil)=some (s,miss,mR t,0,0,R)/\Rds (wy t old now) (kY t at' miss fE) (uo t miss) R.l/\R.l.length=L.l.length:=by
 have hV:=hN.1.EP;have hlf:=yk hV;have hI2:=hI;unfold In at hI2;have hms:s.l.length<=1000:=by rw[hs];have:=KQ (old:=old) hN;omega
 have hsort:Hg s.l:=hs▸Og;have htl:(Sl.mk (pk L.l.length (uo t miss))).l.length=L.l.length:=by simp[pk]
 have w1:wr .i64 (wr .i64 (wr .i64 (wr .i64 (at'+fE)+miss)+mR t)+1)=kY t at' miss fE:=by unfold kY;rw[iY (n:=at'+fE) (by omega) (by omega),iY (n:=at'+fE+miss) (by omega) (by omega),iY (n:=at'+fE+miss+mR t) (by omega) (by omega),iY (by omega) (by omega)]
 have h:=K8 (f:=lF at' miss fE s (mR t) L (.mk (pk L.l.length (uo t miss)))) (fun i(R:Sl aQ)=>((i:Int),s,miss,mR t,(0:Int),(0:Int),R)) L.l.length
  (fun i R=>R.l.length=i/\(R.l.map fun x=>x.1)=L.l.take i/\(∀j,j<i->(gt R.l j).2.1=kY t at' miss fE+(j:Int)*uo t miss)/\∀j,j<i->JQ s.l (gt R.l j).1 (gt R.l j).2.2.l)
  (fun b=>∃R,b=(s,miss,mR t,(0:Int),(0:Int),R)/\Rds (wy t old now) (kY t at' miss fE) (uo t miss) R.l/\R.l.length=L.l.length) (fun i R hi⟨i1,i2,i3,i4⟩=>by
   left;obtain⟨S,q1,q2⟩:=Tw hsort hms (gt L.l i);have l1:i<(Sl.mk (pk L.l.length (uo t miss))).l.length:=by rw[htl];exact hi
   have g1:gt (Sl.mk (pk L.l.length (uo t miss))).l i=(i:Int)*uo t miss:=by rw[Sl.sB,PG hi]
   have ht:=LO hV hI (show i<=8 by omega);have w2:wr .i64 (kY t at' miss fE+(i:Int)*uo t miss)=kY t at' miss fE+(i:Int)*uo t miss:=iY (by omega) (by omega);refine⟨.mk (R.l++[(gt L.l i,kY t at' miss fE+(i:Int)*uo t miss,S)]),?_,by simp[i1],?_,fun j hj=>?_,fun j hj=>?_⟩
   .have hiL:=hi;rw[<-htl]at hi;simp only[lF,nM hi,cond_true,bV l1,bV hiL,af,q1,w1,g1,w2,zS (show i<9223372036854775807 by omega)];rw[nX (by rw[aA,aR];omega)];rfl
   .rw [Sl.sB,List.map_append,i2,dc hi];simp
   .rw [Sl.sB];by_cases he:j=i
    .subst he;rw[dc (by simp[i1]),List.getElem_append_right (by omega)];simp[i1]
    .rw [dc (by simp;omega),kE (by omega),<-dc (by omega)];exact i3 j (by omega)
   .rw [Sl.sB];by_cases he:j=i
    .subst he;rw[dc (by simp[i1]),List.getElem_append_right (by omega)];simpa[i1]using q2
    .rw [dc (by simp;omega),kE (by omega),<-dc (by omega)];exact i4 j (by omega))
  (fun R⟨i1,i2,i3,i4⟩=>by rw[eF]at i2;refine⟨_,by simp only[lF,htl,sS,cond_false],R,rfl,⟨by rw[i2];exact hL1,fun x=>by rw[i2,hL2,hs],fun j hj=>i3 j (by omega),fun j hj=>hs▸i4 j (by omega)⟩,i1⟩) 0 .nil (cp _) ⟨rfl,by simp,fun j hj=>by omega,fun j hj=>by omega⟩
 obtain⟨b,h1,R,rfl,h2,h3⟩:=h;exact⟨R,h1,h2,h3⟩
theorem Ry{at' miss fE:Int}:((qj at' 1099511627776).bind fun r1=>bif !r1 then some true else((qj miss 1048576).bind fun r2=>bif !r2 then some true else((qj fE 1048576).bind fun r3=>some (!r3))):Option Bool)=some (decide (¬In at' miss fE)):=by
 have e:decide (¬In at' miss fE)=!((decide (at'>=0)&&decide (at'<=1099511627776))&&((decide (miss>=0)&&decide (miss<=1048576))&&(decide (fE>=0)&&decide (fE<=1048576)))):=by rw[Bool.eq_iff_iff,decide_eq_true_eq (p:=¬In at' miss fE)];simp only[Bool.not_eq_true',Bool.and_eq_false_iff,decide_eq_false_iff_not];unfold In;omega
 rw[e];simp only[qj,af];cases(decide (at'>=0)&&decide (at'<=1099511627776))<;>cases(decide (miss>=0)&&decide (miss<=1048576))<;>cases(decide (fE>=0)&&decide (fE<=1048576))<;>rfl
theorem Ol(hO:mY t old)(hN:mY t now){at' miss fE:Int}(hI:In at' miss fE):∃p e,kV t old now at' miss fE=some (p,e)/\acv t old now at' miss fE p e:=by
 have hV:=hN.1.EP;obtain⟨s,h1,h2⟩:=Oi hO hN;have h2:s.l=wy t old now:=h2;have hml:=KQ (old:=old) hN;have hnI:decide (¬In at' miss fE)=false:=decide_eq_false fun h=>h hI;by_cases hz:wy t old now=[]
 .refine ⟨CW,7,?_,fun _=>⟨rfl,rfl⟩,fun h=>absurd hz h⟩;have hl:((s.l.length:Int)==0)=true:=by rw[h2,hz];rfl
  unfold kV;rw[Ry,hnI];simp only[af,cond_false,h1,bne_self_eq_false,hl,cond_true];rfl
 .have hl:((s.l.length:Int)==0)=false:=by have:0<(wy t old now).length:=List.length_pos_iff.2 hz;rw[h2,beq_eq_false_iff_ne];omega
  obtain⟨L,h3,h4,h5⟩:=Ia (l:=s) (by rw[h2];omega);have hL3:L.l.length<=8:=G9 h4 fun x hx=>by obtain⟨m,hm,rfl⟩:=(h5 x).1 hx;have:=IR hN (h2▸hm);omega
  have hLpos:0<L.l.length:=by
   have hm:(wy t old now).head hz∈s.l:=by rw[h2];exact List.head_mem hz
   exact List.length_pos_iff.2 (List.ne_nil_of_mem ((h5 _).2 ⟨_,hm,rfl⟩))
  obtain⟨g1,g2⟩:=RG hV hI;obtain⟨R,h6,h7,h8⟩:=Ib hN hI h2 h4 h5 hL3
  have ht:pq (L.l.length:Int) (uo t miss)=some (.mk (pk L.l.length (uo t miss))):=by
   obtain⟨n,hn⟩:∃n,L.l.length=n+1:=⟨L.l.length-1,by omega⟩
   rw[hn];exact Nq (by omega) g1 g2
  have hI2:=hI;unfold In at hI2;have hgap:=US hV hI2.2.1.1 hI2.2.1.2;have hw1:wr .i64 ((R.l.length:Int)-1)=((R.l.length-1:Nat):Int):=by rw[iY (by omega) (by omega)];omega
  have hlast:=h7.acS (R.l.length-1) (by omega);have htl:=LO hV hI (show R.l.length-1<=8 by omega);have hlf:=yk hV;have hw2:wr .i64 ((gt R.l (R.l.length-1)).2.1+miss)=Ca t at' miss fE R.l.length:=by rw[hlast,iY (by omega) (by omega)];rfl
  have w1:wr .i64 (wr .i64 (wr .i64 (wr .i64 (at'+fE)+miss)+mR t)+1)=kY t at' miss fE:=by unfold kY;rw[iY (n:=at'+fE) (by omega) (by omega),iY (n:=at'+fE+miss) (by omega) (by omega),iY (n:=at'+fE+miss+mR t) (by omega) (by omega),iY (by omega) (by omega)]
  have w2:wr .i64 (wr .i64 (kY t at' miss fE-miss)-mR t)=at'+fE+1:=by have hf:kY t at' miss fE=at'+fE+miss+mR t+1:=rfl;rw[iY (n:=kY t at' miss fE-miss) (by omega) (by omega),iY (by omega) (by omega)];omega
  have hrun:kV t old now at' miss fE=some (bif decide (Ca t at' miss fE R.l.length>1099511627776)then(CW,11)else((s,R,miss,mR t,at'+fE+1,Ca t at' miss fE R.l.length),0)):=by unfold kV;rw[Ry,hnI];simp only[af,cond_false,h1,bne_self_eq_false,hl,IY hV,h3,hgap];rw[show 2*miss+mR t+1=uo t miss from rfl,ht];simp only[af,h6,hw1,bV (show R.l.length-1<R.l.length by omega),hw2,w1,w2];cases decide (Ca t at' miss fE R.l.length>1099511627776)<;>rfl
  by_cases ho:Ca t at' miss fE R.l.length>1099511627776
  .rw [decide_eq_true ho]at hrun;exact⟨_,_,hrun,fun h=>absurd h hz,fun _=>⟨s,R,h2,h7,by omega,.inl ⟨ho,rfl,rfl⟩⟩⟩
  .rw [decide_eq_false ho]at hrun;exact⟨_,_,hrun,fun h=>absurd h hz,fun _=>⟨s,R,h2,h7,by omega,.inr ⟨by omega,rfl,rfl⟩⟩⟩
end
end Go.Proofs.YtoekkpmeeclpeaaGreat.S
open Go.Ev Go
namespace Go.Proofs.YtoekkpmeeclpeaaGreat.S
def Cv(ho po:Int):aY:=(3,(10,(-1,Arr.set (qK (.ar 4 (.i .i64))) 1 ho,Arr.set (qK (.ar 4 (.i .i64))) 1 255),Sl.mk [(2,0,po)]),false)
theorem NS{ho po:Int}(h0:0<=ho)(h1:ho<=255):wg 1 ho 10 po=some (Cv ho po).2.1:=by
 have e1:lG 1=some 255:=by kernel_rfl
 have e2:((decide ((1:Int)>=0)&&decide ((1:Int)<4))&&decide (ho>=0))=true:=by simp;omega
 have e3:cH 1 4=some 1:=rfl;simp only[wg,Bn,DQ,Bx,af,e2,cond_true,e1,decide_eq_true h1,e3,Cv]
def Q5(round sw:Int)(l:List aE):List aE:=l.filter fun m=>(m.2.2.2==round)&&(m.1==sw)
theorem Q4{l:Sl aE}{round sw:Int}(hl:l.l.length<=1000)(hh:∀m∈l.l,0<=m.2.1/\m.2.1<=255):∃s,rq l round sw=some s/\s.l=(Q5 round sw l.l).map fun m=>Cv m.2.1 m.2.2.1:=by
 have key:∀l:List aE,(l.flatMap fun m=>bif(m.2.2.2==round)&&(m.1==sw)then[Cv m.2.1 m.2.2.1]else[])=(Q5 round sw l).map fun m=>Cv m.2.1 m.2.2.1:=by intro l;induction l with|nil=>rfl|cons m l ih=>rw[List.flatMap_cons,ih];unfold Q5;rw[List.filter_cons];cases h:(m.2.2.2==round)&&(m.1==sw)<;>simp
 obtain⟨s,h1,h2⟩:=FR (f:=kx l round sw) l.l (fun m=>bif(m.2.2.2==round)&&(m.1==sw)then[Cv m.2.1 m.2.2.1]else[]) .nil (by omega) (fun i s hi hs=>by
  have hsl:s.l.length<=i:=by rw[hs];have:=pQ (m:=1) (f:=fun m:aE=>bif(m.2.2.2==round)&&(m.1==sw)then[Cv m.2.1 m.2.2.1]else[]) (fun m=>by cases(m.2.2.2==round)&&(m.1==sw)<;>simp) (l.l.take i);simp only[Sl.l,List.nil_append];refine Nat.le_trans this ?_;rw[Nat.one_mul,bU];exact Nat.min_le_left _ _
  have hm:=hh (gt l.l i) (by rw[dc hi];exact aZ _);cases hc:((gt l.l i).2.2.2==round)&&((gt l.l i).1==sw)with
  |false=>refine⟨s,?_,by rw[cond_false,List.append_nil]⟩;have hc:(((aE.ED (gt l.l i))==round)&&((aE.Sw (gt l.l i))==sw))=false:=hc;simp only[kx,nM hi,cond_true,bV hi,af,hc,cond_false]
  |true=>refine⟨.mk (s.l++[Cv (gt l.l i).2.1 (gt l.l i).2.2.1]),?_,rfl⟩;have hc:(((aE.ED (gt l.l i))==round)&&((aE.Sw (gt l.l i))==sw))=true:=hc;have hp:=NS (po:=(gt l.l i).2.2.1) hm.1 hm.2;have hcap:g_ (s.l++[Cv (gt l.l i).2.1 (gt l.l i).2.2.1])=some (s.l++[Cv (gt l.l i).2.1 (gt l.l i).2.2.1]):=nX (by rw[aA,aR];omega);have hcap:g_ (s.l++[((3,(Cv (gt l.l i).2.1 (gt l.l i).2.2.1).2.1,false):aY)])=some (s.l++[Cv (gt l.l i).2.1 (gt l.l i).2.2.1]):=hcap;simp only[kx,nM hi,cond_true,bV hi,af,hc,hp,hcap]) (fun s=>by simp only[kx,sS,cond_false])
 have h1:aU (kx l round sw) (0,Sl.nil)=some s:=h1;exact⟨s,by simp only[rq,h1,af],by rw[h2,key];rfl⟩
section
variable{t:ao}{old now:Sl (Sl Int)}
theorem Um(hN:mY t now):∀m∈wy t old now,0<=m.2.1/\m.2.1<=255:=fun m hm=>by obtain⟨h,s,hh,_,_,rfl⟩:=Ax.1 (KP.1 hm);have:=hN.1.AM;exact⟨by show(0:Int)<=(h:Int);omega,by show(h:Int)<=255;omega⟩
end
end Go.Proofs.YtoekkpmeeclpeaaGreat.S
