/- Costs: of the program, one switch after the other, and of the reference, round by round: the same. Conditions: as stated. -/
import Derived.Test.YtoekkpmeeclpeaaGreatSN
import Derived.Test.YtoekkpmeeclpeaaGreatSB
import Derived.Test.YtoekkpmeeclpeaaGreatEvY
open Bool renaming eq_false_iff->od,or_false->mI,true_and->eO
open List renaming length_map->aD,length_replicate->aY,mem_map->br,mem_of_getElem?->aF,replicate->aj,replicate_succ->gC
open Nat renaming le_refl->am
open Option renaming bind_some->ae
open Option.some renaming inj->aa
open Go.Ev Go Go.Fl Go.Ways
noncomputable section
namespace Go.Proofs.YtoekkpmeeclpeaaGreat.S
theorem ii{α:Type}(l:List α):(Sl.mk l).l=l:=rfl
theorem vn{n:Nat}(h:n<9223372036854775807):wr .i64 ((n:Int)+1)=((n+1:Nat):Int):=u_ h
def dM{α:Type}:List α->Sl α
 |[]=>.nil
 |x::l=>.mk (x::l)
theorem rn{α:Type}(l:List α):(dM l).l=l:=by cases l<;>rfl
theorem pG{α:Type}{l:List α}(h:l≠[]):dM l=.mk l:=by cases l with|nil=>exact absurd rfl h|cons=>rfl
theorem Bx{α β:Type}[Inhabited α]{f:Int×Sl β->Option ((Int×Sl β)⊕Sl β)}(l:List α)(g:α->β)
  (h1:∀(i:Nat)(s:Sl β),i<l.length->s.l.length=i->f ((i:Int),s)=some (.inl (((i+1:Nat):Int),Sl.mk (s.l++[g (gt l i)]))))
  (h2:∀s:Sl β,f ((l.length:Int),s)=some (.inr s)):aP f (0,Sl.nil)=some (dM (l.map g)):=by
 have key:∀(R O:List α)(s:Sl β),l=O++R->s=dM (O.map g)->aP f ((O.length:Int),s)=some (dM (l.map g)):=by
  intro R;induction R with
  |nil=>
   intro O s e hs;have e:l=O:=by rw[e,List.append_nil]
   subst e;rw[hs];exact bt (h2 _)
  |cons x R ih=>
   intro O s e hs;have hx:gt l O.length=x:=by rw[e];exact tt
   have h:=h1 O.length s (by rw[e];simp) (by rw[hs,rn,aD]);rw[hx]at h;refine(bX h).trans ?_;have:=ih (O++[x]) (Sl.mk (s.l++[g x])) (by rw[e];simp) (by rw[hs,rn,List.map_append,pG (by simp)];rfl);rw[List.length_append]at this;exact this
 exact key l [] Sl.nil rfl rfl
theorem Bs{S β:Type}{f:S->Option (S⊕β)}(st:Nat->S)(k:Nat){b:β}(h1:∀i,i<k->f (st i)=some (.inl (st (i+1))))(h2:f (st k)=some (.inr b)):aP f (st 0)=some b:=by
 have:∀(d i:Nat),i+d=k->aP f (st i)=some b:=by
  intro d;induction d with
  |zero=>intro i hi;obtain rfl:i=k:=by omega
         exact bt h2
  |succ d ih=>intro i hi;exact(bX (h1 i (by omega))).trans (ih (i+1) (by omega))
 exact this k 0 (by omega)
abbrev dV(l:List Nat):List Int:=l.map (fun n:Nat=>(n:Int))
theorem oP{l:List Nat}{i:Nat}(h:i<l.length):gt (dV l) i=((gt l i:Nat):Int):=by rw[ju (by rw[aD];exact h),ju h,List.getElem_map]
abbrev bv{α:Type}(n:Nat)(f:Nat->α):List α:=(List.range n).map f
theorem cJ{α:Type}(n:Nat)(f:Nat->α):(bv n f).length=n:=by simp[bv]
theorem gM{α:Type}[Inhabited α]{n i:Nat}{f:Nat->α}(h:i<n):gt (bv n f) i=f i:=by rw[ju (by rw[cJ];exact h)];simp[bv]
theorem mK{α:Type}{n i:Nat}{f:Nat->α}{v:α}(h:i<n):(bv n f).set i v=bv n (fun j=>if j=i then v else f j):=by
 refine List.ext_getElem (by simp[bv]) fun j h1 h2=>?_;rw[List.getElem_set];simp only[bv,List.getElem_map,List.getElem_range];by_cases e:i=j
 .rw [if_pos e,if_pos e.symm]
 .rw [if_neg e,if_neg fun q=>e q.symm]
theorem fY{α:Type}{n:Nat}{f g:Nat->α}(h:∀i,i<n->f i=g i):bv n f=bv n g:=List.map_congr_left fun i hi=>h i (List.mem_range.1 hi)
theorem GP{α:Type}{x z:α}{i m:Nat}:aT (aj i x++aj m z) i ((aj i x).take m)=aj (i+min i m) x++aj (m-min i m) z:=by
 unfold aT;rw[List.take_replicate,aY];have e1:(aj i x++aj m z).take i=aj i x:=by rw[List.take_append_of_le_length (by simp)];simp
 have e2:(aj i x++aj m z).drop (i+min m i)=aj (m-min m i) z:=by
  rw[List.drop_append,List.drop_replicate,List.drop_replicate,aY];have:i-(i+min m i)=0:=by omega
  rw[this];simp
 rw[e1,e2,<-List.replicate_append_replicate,Nat.min_comm m i]
theorem EL{α:Type}{f:(Int×Sl α)->Option ((Int×Sl α)⊕(Sl α))}(hf:∀i7 s8,f (i7,s8)=bif decide (i7<(s8.l.length:Int))then((nR s8.l i7 s8.l.length).bind fun l9=>
 (nR s8.l 0 i7).bind fun l10=>
 some (.inl (wr .i64 (i7+((min ((s8.to l10).l).length ((s8.to l9).l).length:Nat):Int)),(s8.to (Cw s8.l i7.toNat ((s8.to l9).l).length ((s8.to l10).l))))))else
 (some (.inr s8))) (x z:α) (n:Nat) (hn:n<=8):∀(k i:Nat),n-i<=k->1<=i->i<=n->aP f ((i:Int),Sl.mk (aj i x++aj (n-i) z))=some (Sl.mk (aj n x)):=by
 intro k;induction k with
 |zero=>
  intro i hk h1 hi;obtain rfl:i=n:=by omega
  refine bt ?_;rw[hf,ii,decide_eq_false (by simp)];simp
 |succ k ih=>
  intro i hk h1 hi;by_cases he:i=n
  .exact ih i (by omega) h1 hi
  .have hlen:(aj i x++aj (n-i) z).length=n:=by simp;omega
   have c1:nR (aj i x++aj (n-i) z) (i:Int) ((aj i x++aj (n-i) z).length:Int)=some (aj (n-i) z):=by
    unfold nR;rw[if_pos ⟨by omega,by rw[hlen];omega,Int.le_refl _⟩,hlen];congr 1;have e1:((i:Nat):Int).toNat=i:=by omega
    have e2:((n:Nat):Int).toNat=n:=by omega
    rw[e1,e2,List.drop_append,List.drop_replicate,aY,Nat.sub_self];simp
   have c2:nR (aj i x++aj (n-i) z) 0 (i:Int)=some (aj i x):=by
    unfold nR;rw[if_pos ⟨by omega,by omega,by rw[hlen];omega⟩];congr 1;have e1:((i:Nat):Int).toNat=i:=by omega
    rw[e1];simp
   refine(bX (a':=(((i+min i (n-i):Nat):Int),Sl.mk (aj (i+min i (n-i)) x++aj (n-(i+min i (n-i))) z))) ?_).trans (ih _ (by omega) (by omega) (by omega));rw[hf,ii,decide_eq_true (by rw[hlen];omega),cond_true,c1,ae,c2,ae];show some (Sum.inl (wr .i64 ((i:Int)+((min (aj i x).length (aj (n-i) z).length:Nat):Int)),Sl.mk (aT (aj i x++aj (n-i) z) ((i:Nat):Int).toNat ((aj i x).take (aj (n-i) z).length))))=_;have e1:((i:Nat):Int).toNat=i:=by omega
   rw[e1,aY,aY,GP,tK (by omega) (by omega)];have e3:n-i-min i (n-i)=n-(i+min i (n-i)):=by omega
   rw[e3];congr 3
theorem I9{n:Nat}(h0:1<=n)(h:n<=8):kL (wr .u64 (((1:Nat):Int))) (wr .u64 (n:Int))=some (0,(n:Int)):=by
 have:∀k:Fin 8,kL (wr .u64 (((1:Nat):Int))) (wr .u64 ((k.val:Int)+1))=some (0,(k.val:Int)+1):=by unfold kL pg;rw[JH];decide+kernel
 have h2:=this ⟨n-1,by omega⟩;have e:(((n-1:Nat):Int))+1=(n:Int):=by omega
 simp only[e]at h2;exact h2
theorem Mz{x:Nat}{n:Nat}(h0:1<=n)(h:n<=8):fG (Sl.mk [x]) (n:Int)=some (Sl.mk (aj n x)):=by
 unfold fG;have e1:((Sl.mk [x]:Sl Nat).l.length:Int)=((1:Nat):Int):=rfl;have w:wr .i64 (n:Int)=(n:Int):=tK (by omega) (by omega);rw[decide_eq_false (by omega),cond_false,e1,I9 h0 h,ae];simp only[];rw[decide_eq_false (by decide),decide_eq_false (by omega),mI,cond_false,w];have hm:D2 0 (n:Int) (n:Int)=some (aj n 0):=by unfold D2;rw[if_pos (by omega)];rfl
 rw[hm,ae]
 have hs:Sl.mk (Cw (aj n 0) 0 (aj n 0).length (Sl.mk [x]:Sl Nat).l)=Sl.mk (aj 1 x++aj (n-1) 0):=by
  obtain⟨m,rfl⟩:∃m,n=m+1:=⟨n-1,by omega⟩
  simp[Cw,aT,gC,Sl.l]
 have hmin:((min (Sl.mk [x]:Sl Nat).l.length (aj n 0).length:Nat):Int)=((1:Nat):Int):=by rw[aY];show((min 1 n:Nat):Int)=_;omega
 rw[hs,hmin,EL (fun _ _=>rfl) x 0 n h (n-1) 1 (am _) (am _) h0];rfl
theorem z_{x:Int}{n:Nat}(h0:1<=n)(h:n<=8):eQ (Sl.mk [x]) (n:Int)=some (Sl.mk (aj n x)):=by
 unfold eQ;have e1:((Sl.mk [x]:Sl Int).l.length:Int)=((1:Nat):Int):=rfl;have w:wr .i64 (n:Int)=(n:Int):=tK (by omega) (by omega);rw[decide_eq_false (by omega),cond_false,e1,I9 h0 h,ae];simp only[];rw[decide_eq_false (by decide),decide_eq_false (by omega),mI,cond_false,w];have hm:D2 (0:Int) (n:Int) (n:Int)=some (aj n 0):=by unfold D2;rw[if_pos (by omega)];rfl
 rw[hm,ae]
 have hs:Sl.mk (Cw (aj n 0) 0 (aj n (0:Int)).length (Sl.mk [x]:Sl Int).l)=Sl.mk (aj 1 x++aj (n-1) 0):=by
  obtain⟨m,rfl⟩:∃m,n=m+1:=⟨n-1,by omega⟩
  simp[Cw,aT,gC,Sl.l]
 have hmin:((min (Sl.mk [x]:Sl Int).l.length (aj n (0:Int)).length:Nat):Int)=((1:Nat):Int):=by rw[aY];show((min 1 n:Nat):Int)=_;omega
 rw[hs,hmin,EL (fun _ _=>rfl) x 0 n h (n-1) 1 (am _) (am _) h0];rfl
def wh(n:Nat):Bool:=decide (n<=9218868437227405312)||(n==9223372036854775808)
theorem sN{n:Nat}:wh n=true<->nn n:=by unfold wh nn;rw[ru,Bool.or_eq_true,decide_eq_true_eq,beq_iff_eq]
theorem QE{n:Nat}(h:zC n):sV n=some (wh n):=by
 unfold sV;congr 1;by_cases hn:nn n
 .rw [Qm hn,sN.2 hn]
 .have e:wh n=false:=by rw[od];exact fun q=>hn (sN.1 q)
  rw[e];cases hnan:jT n with
  |true=>rw[DD (.inl hnan),Jy (.inl hnan)];rfl
  |false=>
   have z:ok 0:=⟨by decide,by decide⟩
   have p0:pl 0=0:=by decide
   have hf:=t8 hnan;have hlt:pl n<0:=by unfold nn at hn;rw[ru]at hn;unfold pl;split<;>omega
   rw[vV (nd h hnan) z,AI (nd h hnan) z,p0,decide_eq_false (by omega),decide_eq_false (by omega)];rfl
theorem Ot(n:Nat):sJ (n:Int)=some (wh n):=by unfold sJ wh;congr 1;have h1:decide ((n:Int)<=9218868437227405312)=decide (n<=9218868437227405312):=decide_eq_decide.2 (by omega);have h2:((n:Int)==9223372036854775808)=(n==9223372036854775808):=BG n 9223372036854775808;rw[h1,h2]
theorem KI(n:Nat):wh (iu n)=wh n:=by
 cases h:jT n with
 |false=>rw[qq h]
 |true=>
  rw[yl h];have h2:=M8 h;have:wh n=false:=by rw[od];intro q;have:=sN.1 q;unfold nn at this;rw[ru]at this;omega
  rw[this];decide
def KE(t:ai)(L:List Nat):Bool:=decide (gi t)&&(L.length==t.aE.l.length&&L.all wh)
theorem sC{α β:Type}{p:α->Bool}{g:Nat->β}:∀(l:List α)(i:Nat),(j9 (fun i x=>if p x then some (g i)else none) l i).isSome=l.any p
 |[],i=>rfl
 |x::l,i=>by simp only[j9,List.any_cons];cases p x with|true=>rfl|false=>exact sC l (i+1)
theorem xM{t:ai}{L:List Nat}(hw:∀x∈L,zC x)(hb:L.length<=30):lf t (dM (L.map iu))=some (KE t L):=by
 unfold lf KE;rw[vG,ae];by_cases hV:gi t
 .rw [decide_eq_true hV,cond_true];have hl:(dM (L.map iu)).l=L.map iu:=rn _
  have h1:cG (dM (L.map iu))=some (match j9 (fun i x=>if !(wh x)then some (i:Int)else none) (L.map iu) 0 with|some b=>b|none=>-1):=by
   unfold cG
   have:=tU (f:=cq (dM (L.map iu))) (L.map iu) (fun i x=>if !(wh x)then some (i:Int)else none) () (by rw[aD];omega) (fun i hi=>by
    simp only[cq];rw[hl,decide_eq_true (by omega),cond_true,og hi,ae];unfold rf;rw[QE (by obtain⟨y,hy,e⟩:=br.1 (kQ hi);rw[<-e];exact QM (hw y hy)),ae,ae];cases wh (gt (L.map iu) i)<;>rfl) (by
    simp only[cq];rw[hl,decide_eq_false (by omega),cond_false])
   rw[this,ae];cases j9 (fun i x=>if !(wh x)then some (i:Int)else none) (L.map iu) 0<;>rfl
  have h2:ct (dM (L.map iu))=some (!(L.all wh)):=by
   unfold ct;rw[h1,ae];have h3:=sC (p:=fun x=>!(wh x)) (g:=fun i=>(i:Int)) (L.map iu) 0;have h4:(L.map iu).any (fun x=>!(wh x))=!(L.all wh):=by rw[List.any_map,List.not_all_eq_any_not];congr 1;funext x;show(!(wh (iu x)))=_;rw[KI]
   rw[h4]at h3;rw[<-h3];congr 1;cases hsc:j9 (fun i x=>if !(wh x)then some (i:Int)else none) (L.map iu) 0 with
   |none=>rfl
   |some b=>
    obtain⟨j,x,_,h5,_⟩:=jP hsc;split at h5
    .obtain rfl:=aa h5;simp only[Option.isSome_some];exact decide_eq_true (by omega)
    .cases h5
  unfold tM;rw[hl,aD,h2,ae,BG,eO,Bool.not_not];cases(L.length==t.aE.l.length)<;>rfl
 .rw [decide_eq_false hV];rfl
theorem vO{t:ai}{b:Sl Int}{L:List Nat}(hl:b.l=dV L)(hb:L.length<=30)(h1:t.aE.l.length<=30)(h2:t.bc.l.length<=12):lw t b=some (KE t L):=by
 unfold lw KE;rw[xN h1 h2,ae];by_cases hV:gi t
 .rw [decide_eq_true hV,cond_true];unfold tV;have e0:b.l.length=L.length:=by rw[hl,aD]
  have:=tU (f:=nE b) L (fun _ x=>if !(wh x)then some false else none) () (by omega) (fun i hi=>by
   simp only[nE];rw[decide_eq_true (by omega),cond_true,og (by omega),ae,hl,oP hi,Ot,ae];cases wh (gt L i)<;>rfl) (by
   simp only[nE];rw[decide_eq_false (by omega),cond_false])
  rw[this,ae,e0,BG];have h3:=sC (p:=fun x=>!(wh x)) (g:=fun _=>false) L 0;have h4:L.any (fun x=>!(wh x))=!(L.all wh):=by rw[List.not_all_eq_any_not]
  rw[h4]at h3;rw[eO];cases hsc:j9 (fun _ x=>if !(wh x)then some false else none) L 0 with
  |none=>
   rw[hsc]at h3;have h3':L.all wh=true:=by cases h:L.all wh with|true=>rfl|false=>rw[h]at h3;cases h3
   rw[h3',Bool.and_true];rfl
  |some z=>
   rw[hsc]at h3;have h3':L.all wh=false:=by cases h:L.all wh with|true=>rw[h]at h3;cases h3|false=>rfl
   obtain⟨j,x,_,h5,_⟩:=jP hsc;split at h5
   .obtain rfl:=aa h5;rw[h3',Bool.and_false];rfl
   .cases h5
 .rw [decide_eq_false hV];rfl
def wt(L:List Nat)(k:Int):Nat:=ab (gt L k.toNat)
def hO(t:ai)(L:List Nat)(i:Nat):List (Nat×Nat):=(eC t (i:Int)).map fun x=>(x.To.toNat,wt L x.hZ)
theorem mM{t:ai}(hV:gi t){i:Nat}{x:aw}(h:x∈eC t (i:Int)):0<=x.To/\x.To<t.ah/\x.To≠(i:Int)/\0<=x.hZ/\x.hZ<t.aE.l.length:=by
 obtain⟨j,l,b,h1,h2,h3⟩:=(qh hV).1 h;have hp:=hV.gZ ⟨x.To,b⟩ (by rw[jS];exact List.mem_append_left _ (List.mem_flatMap.2 ⟨l,aF h1,h2.symm.xW⟩));have hj:=(List.getElem?_eq_some_iff.1 h1).1;have hl:=hV.Ns l (aF h1);have hp1:0<=x.To/\x.To<t.ah:=hp.1;refine⟨hp1.1,hp1.2,?_,by omega,by omega⟩;rcases h2 with⟨a1,_,a3,_⟩|⟨a1,_,a3,_⟩
 .rw [a3,a1];exact fun e=>hl.1 e.symm
 .rw [a3,a1];exact fun e=>hl.1 e
theorem w8{t:ai}(hV:gi t)(L:List Nat):xu t.ah.toNat (hO t L)where
 lt:=fun i _ e he=>by obtain⟨x,hx,rfl⟩:=br.1 he;have:=mM hV hx;show x.To.toNat<_;omega
 ne:=fun i _ e he=>by obtain⟨x,hx,rfl⟩:=br.1 he;have:=mM hV hx;show x.To.toNat≠i;omega
 L8:=fun i _ e he=>by
  obtain⟨x,hx,rfl⟩:=br.1 he;have hk:=mM hV hx;obtain⟨j,l,b,h1,h2,h3⟩:=(qh hV).1 hx;have hto:((x.To.toNat:Nat):Int)=x.To:=by omega
  refine br.2 ⟨(b,(i:Int),x.hZ),(qh hV).2 ⟨j,l,x.fB,h1,?_,h3⟩,rfl⟩;show zd l ((x.To.toNat:Nat):Int) b (i:Int) x.fB;rw[hto];exact h2.symm
theorem ER{a b:Nat}(ha:nn a)(hb:b<=oh):oE a b=some (P (ab a) b):=by
 unfold oE;obtain⟨h1,h2⟩:=OT ha (qP hb);rw[rb hb]at h2;rw[Cy (vR h1),qq (mm h1),ae];have z:ok 0:=⟨by decide,by decide⟩
 have p0:pl 0=0:=by decide
 rw[AI (nd (vR h1) (mm h1)) z,p0,yE h1];unfold P;rw[<-h2];by_cases h0:ab (yg .f64 a b)=0
 .rw [h0];rfl
 .rw [decide_eq_false (by omega),cond_false];congr 1;unfold ab at h0|-;split
  .rename_i h;rw[if_pos h]at h0;exact absurd rfl h0
  .rfl
theorem B8{a b:Nat}(ha:nn a)(hb:b<=oh):qd (a:Int) (b:Int)=some ((P (ab a) b:Nat):Int):=by
 unfold qd;obtain⟨h1,h2⟩:=OT ha (qP hb);rw[rb hb]at h2;rw[AE,ae,AE,ae];unfold pN;rw[wO,mm h1,cond_false,ae,AY,qq (mm h1),ae];have e:(((yg .f64 a b:Nat):Int)==9223372036854775808)=(yg .f64 a b==9223372036854775808):=BG _ 9223372036854775808;rw[e];unfold P;rw[<-h2];unfold ab;by_cases hc:yg .f64 a b=9223372036854775808
 .rw [hc,if_pos rfl];rfl
 .rw [beq_eq_false_iff_ne.2 hc,if_neg hc];rfl
theorem P6{a b:Nat}(ha:a<=oh)(hb:b<=oh):Lb .f64 a b=min a b:=by
 have oa:=nd (vR (qP ha)) (mm (qP ha));have ob:=nd (vR (qP hb)) (mm (qP hb));have h:FloatKind.f64.format.order a b=some (compare (pl a) (pl b)):=wI oa ob;unfold Lb;rw[h,yE (qP ha),yE (qP hb),rb ha,rb hb];rcases Nat.lt_trichotomy a b with e|e|e
 .rw [Int.compare_eq_lt.2 (by omega)];show a=_;omega
 .rw [Int.compare_eq_eq.2 (by omega)];subst e;show(if _ then a else a)=_;rw[ite_self];omega
 .rw [Int.compare_eq_gt.2 (by omega)];show b=_;omega
end Go.Proofs.YtoekkpmeeclpeaaGreat.S
