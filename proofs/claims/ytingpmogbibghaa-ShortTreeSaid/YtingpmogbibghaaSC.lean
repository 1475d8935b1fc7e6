/- Costs: of the program, one switch after the other, and of the reference, round by round: the same. Conditions: as stated. -/
import Derived.Test.YtingpmogbibghaaSN
import Derived.Test.YtingpmogbibghaaSB
import Derived.Test.YtingpmogbibghaaTwin
open Bool renaming or_false->kw,true_and->dE
open List renaming length_map->aF,length_replicate->a_,mem_map->bv,mem_of_getElem?->aR,replicate->ak,replicate_succ->ga
open Nat renaming le_refl->am
open Option renaming bind_some->ae
open Option.some renaming inj->aa
open Go.Ev Go Go.Fl Go.Ways
noncomputable section
namespace Go.Proofs.Ytingpmogbibghaa.S
theorem h_{α:Type}(l:List α):(Sl.mk l).l=l:=rfl
theorem u4{n:Nat}(h:n<9223372036854775807):wr .i64 ((n:Int)+1)=((n+1:Nat):Int):=ze h
def dW{α:Type}:List α->Sl α
 |[]=>.nil
 |x::l=>.mk (x::l)
theorem rF{α:Type}(l:List α):(dW l).l=l:=by cases l<;>rfl
theorem o9{α:Type}{l:List α}(h:l≠[]):dW l=.mk l:=by cases l with|nil=>exact absurd rfl h|cons=>rfl
theorem z_{α β:Type}[Inhabited α]{f:Int×Sl β->Option ((Int×Sl β)⊕Sl β)}(l:List α)(g:α->β)
  (h1:∀(i:Nat)(s:Sl β),i<l.length->s.l.length=i->f ((i:Int),s)=some (.inl (((i+1:Nat):Int),Sl.mk (s.l++[g (gt l i)]))))
  (h2:∀s:Sl β,f ((l.length:Int),s)=some (.inr s)):aY f (0,Sl.nil)=some (dW (l.map g)):=by
 have key:∀(R O:List α)(s:Sl β),l=O++R->s=dW (O.map g)->aY f ((O.length:Int),s)=some (dW (l.map g)):=by
  intro R;induction R with
  |nil=>
   intro O s e hs;have e:l=O:=by rw[e,List.append_nil]
   subst e;rw[hs];exact bH (h2 _)
  |cons x R ih=>
   intro O s e hs;have hx:gt l O.length=x:=by rw[e];exact tH
   have h:=h1 O.length s (by rw[e];simp) (by rw[hs,rF,aF]);rw[hx]at h;refine(cz h).trans ?_;have:=ih (O++[x]) (Sl.mk (s.l++[g x])) (by rw[e];simp) (by rw[hs,rF,List.map_append,o9 (by simp)];rfl);rw[List.length_append]at this;exact this
 exact key l [] Sl.nil rfl rfl
theorem Bc{S β:Type}{f:S->Option (S⊕β)}(st:Nat->S)(k:Nat){b:β}(h1:∀i,i<k->f (st i)=some (.inl (st (i+1))))(h2:f (st k)=some (.inr b)):aY f (st 0)=some b:=by
 have:∀(d i:Nat),i+d=k->aY f (st i)=some b:=by
  intro d;induction d with
  |zero=>intro i hi;obtain rfl:i=k:=by omega
         exact bH h2
  |succ d ih=>intro i hi;exact(cz (h1 i (by omega))).trans (ih (i+1) (by omega))
 exact this k 0 (by omega)
abbrev eh(l:List Nat):List Int:=l.map (fun n:Nat=>(n:Int))
theorem ph{l:List Nat}{i:Nat}(h:i<l.length):gt (eh l) i=((gt l i:Nat):Int):=by rw[oM (by rw[aF];exact h),oM h,List.getElem_map]
abbrev bw{α:Type}(n:Nat)(f:Nat->α):List α:=(List.range n).map f
theorem cu{α:Type}(n:Nat)(f:Nat->α):(bw n f).length=n:=by simp[bw]
theorem g_{α:Type}[Inhabited α]{n i:Nat}{f:Nat->α}(h:i<n):gt (bw n f) i=f i:=by rw[oM (by rw[cu];exact h)];simp[bw]
theorem ng{α:Type}{n i:Nat}{f:Nat->α}{v:α}(h:i<n):(bw n f).set i v=bw n (fun j=>if j=i then v else f j):=by
 refine List.ext_getElem (by simp[bw]) fun j h1 h2=>?_;rw[List.getElem_set];simp only[bw,List.getElem_map,List.getElem_range];by_cases e:i=j
 .rw [if_pos e,if_pos e.symm]
 .rw [if_neg e,if_neg fun q=>e q.symm]
theorem gE{α:Type}{n:Nat}{f g:Nat->α}(h:∀i,i<n->f i=g i):bw n f=bw n g:=List.map_congr_left fun i hi=>h i (List.mem_range.1 hi)
theorem Gg{α:Type}{x z:α}{i m:Nat}:aW (ak i x++ak m z) i ((ak i x).take m)=ak (i+min i m) x++ak (m-min i m) z:=by
 unfold aW;rw[List.take_replicate,a_];have e1:(ak i x++ak m z).take i=ak i x:=by rw[List.take_append_of_le_length (by simp)];simp
 have e2:(ak i x++ak m z).drop (i+min m i)=ak (m-min m i) z:=by
  rw[List.drop_append,List.drop_replicate,List.drop_replicate,a_];have:i-(i+min m i)=0:=by omega
  rw[this];simp
 rw[e1,e2,<-List.replicate_append_replicate,Nat.min_comm m i]
theorem Ef{α:Type}{f:(Int×Sl α)->Option ((Int×Sl α)⊕(Sl α))}(hf:∀i7 s8,f (i7,s8)=bif decide (i7<(s8.l.length:Int))then((o5 s8.l i7 s8.l.length).bind fun l9=>
 (o5 s8.l 0 i7).bind fun l10=>
 some (.inl (wr .i64 (i7+((min ((s8.to l10).l).length ((s8.to l9).l).length:Nat):Int)),(s8.to (A4 s8.l i7.toNat ((s8.to l9).l).length ((s8.to l10).l))))))else
 (some (.inr s8))) (x z:α) (n:Nat) (hn:n<=8):∀(k i:Nat),n-i<=k->1<=i->i<=n->aY f ((i:Int),Sl.mk (ak i x++ak (n-i) z))=some (Sl.mk (ak n x)):=by
 intro k;induction k with
 |zero=>
  intro i hk h1 hi;obtain rfl:i=n:=by omega
  refine bH ?_;rw[hf,h_,decide_eq_false (by simp)];simp
 |succ k ih=>
  intro i hk h1 hi;by_cases he:i=n
  .exact ih i (by omega) h1 hi
  .have hlen:(ak i x++ak (n-i) z).length=n:=by simp;omega
   have c1:o5 (ak i x++ak (n-i) z) (i:Int) ((ak i x++ak (n-i) z).length:Int)=some (ak (n-i) z):=by
    unfold o5;rw[if_pos ⟨by omega,by rw[hlen];omega,Int.le_refl _⟩,hlen];congr 1;have e1:((i:Nat):Int).toNat=i:=by omega
    have e2:((n:Nat):Int).toNat=n:=by omega
    rw[e1,e2,List.drop_append,List.drop_replicate,a_,Nat.sub_self];simp
   have c2:o5 (ak i x++ak (n-i) z) 0 (i:Int)=some (ak i x):=by
    unfold o5;rw[if_pos ⟨by omega,by omega,by rw[hlen];omega⟩];congr 1;have e1:((i:Nat):Int).toNat=i:=by omega
    rw[e1];simp
   refine(cz (a':=(((i+min i (n-i):Nat):Int),Sl.mk (ak (i+min i (n-i)) x++ak (n-(i+min i (n-i))) z))) ?_).trans (ih _ (by omega) (by omega) (by omega));rw[hf,h_,decide_eq_true (by rw[hlen];omega),cond_true,c1,ae,c2,ae];show some (Sum.inl (wr .i64 ((i:Int)+((min (ak i x).length (ak (n-i) z).length:Nat):Int)),Sl.mk (aW (ak i x++ak (n-i) z) ((i:Nat):Int).toNat ((ak i x).take (ak (n-i) z).length))))=_;have e1:((i:Nat):Int).toNat=i:=by omega
   rw[e1,a_,a_,Gg,vR (by omega) (by omega)];have e3:n-i-min i (n-i)=n-(i+min i (n-i)):=by omega
   rw[e3];congr 3
theorem Iw{n:Nat}(h0:1<=n)(h:n<=8):jl (wr .u64 (((1:Nat):Int))) (wr .u64 (n:Int))=some (0,(n:Int)):=by
 have:∀k:Fin 8,jl (wr .u64 (((1:Nat):Int))) (wr .u64 ((k.val:Int)+1))=some (0,(k.val:Int)+1):=by unfold jl lE;rw[Ds];decide+kernel
 have h2:=this ⟨n-1,by omega⟩;have e:(((n-1:Nat):Int))+1=(n:Int):=by omega
 simp only[e]at h2;exact h2
theorem Lt{x:Nat}{n:Nat}(h0:1<=n)(h:n<=8):dz (Sl.mk [x]) (n:Int)=some (Sl.mk (ak n x)):=by
 unfold dz;have e1:((Sl.mk [x]:Sl Nat).l.length:Int)=((1:Nat):Int):=rfl;have w:wr .i64 (n:Int)=(n:Int):=vR (by omega) (by omega);rw[decide_eq_false (by omega),cond_false,e1,Iw h0 h,ae];simp only[];rw[decide_eq_false (by decide),decide_eq_false (by omega),kw,cond_false,w];have hm:A0 0 (n:Int) (n:Int)=some (ak n 0):=by unfold A0;rw[if_pos (by omega)];rfl
 rw[hm,ae]
 have hs:Sl.mk (A4 (ak n 0) 0 (ak n 0).length (Sl.mk [x]:Sl Nat).l)=Sl.mk (ak 1 x++ak (n-1) 0):=by
  obtain⟨m,rfl⟩:∃m,n=m+1:=⟨n-1,by omega⟩
  simp[A4,aW,ga,Sl.l]
 have hmin:((min (Sl.mk [x]:Sl Nat).l.length (ak n 0).length:Nat):Int)=((1:Nat):Int):=by rw[a_];show((min 1 n:Nat):Int)=_;omega
 rw[hs,hmin,Ef (fun _ _=>rfl) x 0 n h (n-1) 1 (am _) (am _) h0];rfl
theorem Eg{x:Int}{n:Nat}(h0:1<=n)(h:n<=8):fy (Sl.mk [x]) (n:Int)=some (Sl.mk (ak n x)):=by
 unfold fy;have e1:((Sl.mk [x]:Sl Int).l.length:Int)=((1:Nat):Int):=rfl;have w:wr .i64 (n:Int)=(n:Int):=vR (by omega) (by omega);rw[decide_eq_false (by omega),cond_false,e1,Iw h0 h,ae];simp only[];rw[decide_eq_false (by decide),decide_eq_false (by omega),kw,cond_false,w];have hm:A0 (0:Int) (n:Int) (n:Int)=some (ak n 0):=by unfold A0;rw[if_pos (by omega)];rfl
 rw[hm,ae]
 have hs:Sl.mk (A4 (ak n 0) 0 (ak n (0:Int)).length (Sl.mk [x]:Sl Int).l)=Sl.mk (ak 1 x++ak (n-1) 0):=by
  obtain⟨m,rfl⟩:∃m,n=m+1:=⟨n-1,by omega⟩
  simp[A4,aW,ga,Sl.l]
 have hmin:((min (Sl.mk [x]:Sl Int).l.length (ak n (0:Int)).length:Nat):Int)=((1:Nat):Int):=by rw[a_];show((min 1 n:Nat):Int)=_;omega
 rw[hs,hmin,Ef (fun _ _=>rfl) x 0 n h (n-1) 1 (am _) (am _) h0];rfl
def vP(n:Nat):Bool:=decide (n<=9218868437227405312)||(n==9223372036854775808)
theorem tf{n:Nat}:vP n=true<->nn n:=by unfold vP nn;rw[rL,Bool.or_eq_true,decide_eq_true_eq,beq_iff_eq]
theorem Pj{n:Nat}(h:x7 n):tt n=some (vP n):=by
 unfold tt;congr 1;by_cases hn:nn n
 .rw [O2 hn,tf.2 hn]
 .have e:vP n=false:=by rw[Bool.eq_false_iff];exact fun q=>hn (tf.1 q)
  rw[e];cases hnan:kz n with
  |true=>rw[Dd (.inl hnan),IS (.inl hnan)];rfl
  |false=>
   have z:ok 0:=⟨by decide,by decide⟩
   have p0:pl 0=0:=by decide
   have hf:=ub hnan;have hlt:pl n<0:=by unfold nn at hn;rw[rL]at hn;unfold pl;split<;>omega
   rw[vF (nL h hnan) z,As (nL h hnan) z,p0,decide_eq_false (by omega),decide_eq_false (by omega)];rfl
theorem Nc(n:Nat):sY (n:Int)=some (vP n):=by unfold sY vP;congr 1;have h1:decide ((n:Int)<=9218868437227405312)=decide (n<=9218868437227405312):=decide_eq_decide.2 (by omega);have h2:((n:Int)==9223372036854775808)=(n==9223372036854775808):=Bt n 9223372036854775808;rw[h1,h2]
theorem JS(n:Nat):vP (gM n)=vP n:=by
 cases h:kz n with
 |false=>rw[pD h]
 |true=>
  rw[xU h];have h2:=L0 h;have:vP n=false:=by rw[Bool.eq_false_iff];intro q;have:=tf.1 q;unfold nn at this;rw[rL]at this;omega
  rw[this];decide
def EO(t:aj)(L:List Nat):Bool:=decide (lF t)&&(L.length==t.aP.l.length&&L.all vP)
theorem sS{α β:Type}{p:α->Bool}{g:Nat->β}:∀(l:List α)(i:Nat),(mB (fun i x=>if p x then some (g i)else none) l i).isSome=l.any p
 |[],i=>rfl
 |x::l,i=>by simp only[mB,List.any_cons];cases p x with|true=>rfl|false=>exact sS l (i+1)
theorem rY{t:aj}{L:List Nat}(hw:∀x∈L,x7 x)(hb:L.length<=30):j_ t (dW (L.map gM))=some (EO t L):=by
 unfold j_ EO;rw[Gb,ae];by_cases hV:lF t
 .rw [decide_eq_true hV,cond_true];have hl:(dW (L.map gM)).l=L.map gM:=rF _
  have h1:bG (dW (L.map gM))=some (match mB (fun i x=>if !(vP x)then some (i:Int)else none) (L.map gM) 0 with|some b=>b|none=>-1):=by
   unfold bG
   have:=BG (f:=bU (dW (L.map gM))) (L.map gM) (fun i x=>if !(vP x)then some (i:Int)else none) () (by rw[aF];omega) (fun i hi=>by
    simp only[bU];rw[hl,decide_eq_true (by omega),cond_true,nV hi,ae];unfold rt;rw[Pj (by obtain⟨y,hy,e⟩:=bv.1 (mP hi);rw[<-e];exact Ps (hw y hy)),ae,ae];cases vP (gt (L.map gM) i)<;>rfl) (by
    simp only[bU];rw[hl,decide_eq_false (by omega),cond_false])
   rw[this,ae];cases mB (fun i x=>if !(vP x)then some (i:Int)else none) (L.map gM) 0<;>rfl
  have h2:bA (dW (L.map gM))=some (!(L.all vP)):=by
   unfold bA;rw[h1,ae];have h3:=sS (p:=fun x=>!(vP x)) (g:=fun i=>(i:Int)) (L.map gM) 0;have h4:(L.map gM).any (fun x=>!(vP x))=!(L.all vP):=by rw[List.any_map,List.not_all_eq_any_not];congr 1;funext x;show(!(vP (gM x)))=_;rw[JS]
   rw[h4]at h3;rw[<-h3];congr 1;cases hsc:mB (fun i x=>if !(vP x)then some (i:Int)else none) (L.map gM) 0 with
   |none=>rfl
   |some b=>
    obtain⟨j,x,_,h5,_⟩:=qj hsc;split at h5
    .obtain rfl:=aa h5;simp only[Option.isSome_some];exact decide_eq_true (by omega)
    .cases h5
  unfold pm;rw[hl,aF,h2,ae,Bt,dE,Bool.not_not];cases(L.length==t.aP.l.length)<;>rfl
 .rw [decide_eq_false hV];rfl
theorem qv{t:aj}{b:Sl Int}{L:List Nat}(hl:b.l=eh L)(hb:L.length<=30)(h1:t.aP.l.length<=30)(h2:t.bg.l.length<=12):mj t b=some (EO t L):=by
 unfold mj EO;rw[Jw h1 h2,ae];by_cases hV:lF t
 .rw [decide_eq_true hV,cond_true];unfold t7;have e0:b.l.length=L.length:=by rw[hl,aF]
  have:=BG (f:=n_ b) L (fun _ x=>if !(vP x)then some false else none) () (by omega) (fun i hi=>by
   simp only[n_];rw[decide_eq_true (by omega),cond_true,nV (by omega),ae,hl,ph hi,Nc,ae];cases vP (gt L i)<;>rfl) (by
   simp only[n_];rw[decide_eq_false (by omega),cond_false])
  rw[this,ae,e0,Bt];have h3:=sS (p:=fun x=>!(vP x)) (g:=fun _=>false) L 0;have h4:L.any (fun x=>!(vP x))=!(L.all vP):=by rw[List.not_all_eq_any_not]
  rw[h4]at h3;rw[dE];cases hsc:mB (fun _ x=>if !(vP x)then some false else none) L 0 with
  |none=>
   rw[hsc]at h3;have h3':L.all vP=true:=by cases h:L.all vP with|true=>rfl|false=>rw[h]at h3;cases h3
   rw[h3',Bool.and_true];rfl
  |some z=>
   rw[hsc]at h3;have h3':L.all vP=false:=by cases h:L.all vP with|true=>rw[h]at h3;cases h3|false=>rfl
   obtain⟨j,x,_,h5,_⟩:=qj hsc;split at h5
   .obtain rfl:=aa h5;rw[h3',Bool.and_false];rfl
   .cases h5
 .rw [decide_eq_false hV];rfl
def wt(L:List Nat)(k:Int):Nat:=ab (gt L k.toNat)
def iF(t:aj)(L:List Nat)(i:Nat):List (Nat×Nat):=(fU t (i:Int)).map fun x=>(x.To.toNat,wt L x.iI)
theorem nk{t:aj}(hV:lF t){i:Nat}{x:aE}(h:x∈fU t (i:Int)):0<=x.To/\x.To<t.ah/\x.To≠(i:Int)/\0<=x.iI/\x.iI<t.aP.l.length:=by
 obtain⟨j,l,b,h1,h2,h3⟩:=(wD hV).1 h;have hp:=hV.iK ⟨x.To,b⟩ (by rw[mC];exact List.mem_append_left _ (List.mem_flatMap.2 ⟨l,aR h1,h2.symm.Bj⟩));have hj:=(List.getElem?_eq_some_iff.1 h1).1;have hl:=hV.Mi l (aR h1);have hp1:0<=x.To/\x.To<t.ah:=hp.1;refine⟨hp1.1,hp1.2,?_,by omega,by omega⟩;rcases h2 with⟨a1,_,a3,_⟩|⟨a1,_,a3,_⟩
 .rw [a3,a1];exact fun e=>hl.1 e.symm
 .rw [a3,a1];exact fun e=>hl.1 e
theorem wJ{t:aj}(hV:lF t)(L:List Nat):wY t.ah.toNat (iF t L)where
 lt:=fun i _ e he=>by obtain⟨x,hx,rfl⟩:=bv.1 he;have:=nk hV hx;show x.To.toNat<_;omega
 ne:=fun i _ e he=>by obtain⟨x,hx,rfl⟩:=bv.1 he;have:=nk hV hx;show x.To.toNat≠i;omega
 K8:=fun i _ e he=>by
  obtain⟨x,hx,rfl⟩:=bv.1 he;have hk:=nk hV hx;obtain⟨j,l,b,h1,h2,h3⟩:=(wD hV).1 hx;have hto:((x.To.toNat:Nat):Int)=x.To:=by omega
  refine bv.2 ⟨(b,(i:Int),x.iI),(wD hV).2 ⟨j,l,x.f_,h1,?_,h3⟩,rfl⟩;show yN l ((x.To.toNat:Nat):Int) b (i:Int) x.f_;rw[hto];exact h2.symm
theorem En{a b:Nat}(ha:nn a)(hb:b<=oK):o3 a b=some (P (ab a) b):=by
 unfold o3;obtain⟨h1,h2⟩:=NC ha (qC hb);rw[rn hb]at h2;rw[Cg (uU h1),pD (mq h1),ae];have z:ok 0:=⟨by decide,by decide⟩
 have p0:pl 0=0:=by decide
 rw[As (nL (uU h1) (mq h1)) z,p0,yg h1];unfold P;rw[<-h2];by_cases h0:ab (xQ .f64 a b)=0
 .rw [h0];rfl
 .rw [decide_eq_false (by omega),cond_false];congr 1;unfold ab at h0|-;split
  .rename_i h;rw[if_pos h]at h0;exact absurd rfl h0
  .rfl
theorem OO{a b:Nat}(ha:a<=oK)(hb:b<=oK):Kh .f64 a b=min a b:=by
 have oa:=nL (uU (qC ha)) (mq (qC ha));have ob:=nL (uU (qC hb)) (mq (qC hb));have h:FloatKind.f64.format.order a b=some (compare (pl a) (pl b)):=wm oa ob;unfold Kh;rw[h,yg (qC ha),yg (qC hb),rn ha,rn hb];rcases Nat.lt_trichotomy a b with e|e|e
 .rw [Int.compare_eq_lt.2 (by omega)];show a=_;omega
 .rw [Int.compare_eq_eq.2 (by omega)];subst e;show(if _ then a else a)=_;rw[ite_self];omega
 .rw [Int.compare_eq_gt.2 (by omega)];show b=_;omega
end Go.Proofs.Ytingpmogbibghaa.S
