/- Findings: what the reference's Check notes. Conditions: lengths as stated. -/
import Derived.Test.YthcplpfiidlinaaDoorJC
open Go.Ev Go
open Bool renaming and_eq_true->ai
open List renaming append_assoc->aH,filter_cons->j6,length_append->ap,length_singleton->aW
open Option renaming bind_some->ae
namespace Go.Proofs.YthcplpfiidlinaaDoor.J
theorem JQ(s:Sl Int)(x:Int)(hb:s.l.length<1000000):wD s x=some (decide (x∈s.l)):=tK s x hb
theorem wE{p:am}{k:Nat}{m:aZ}(hk:k<(am.az p).l.length)(hb:(gt (am.az p).l k).2.2.l.length<1000000):
  nR p (k:Int) m=some (mj (gt (am.az p).l k) m):=by
 have h:=JQ (dE.Of (gt (am.az p).l k)) (aZ.Sw m) hb;simp only[nR,bm hk,ae,h,mj];have e:((dE.No (gt (am.az p).l k))==(aZ.zU m))=(m.2.2.2==(gt (am.az p).l k).1):=BEq.comm;rw[e];cases(m.2.2.2==(gt (am.az p).l k).1)<;>rfl
theorem AQ{p:am}{m:aZ}(hr:(am.az p).l.length<9223372036854775808)(hb:∀r∈(am.az p).l,r.2.2.l.length<1000000):
  nQ p m=some ((am.az p).l.any fun r=>mj r m):=by
 have h:=NI (f:=oq p m) (am.az p).l (fun r=>mj r m) hr (fun i hi=>by have hd:=wE (m:=m) hi (hb _ (by rw[dV hi];exact List.getElem_mem _));simp only[oq,fz hi,cond_true,hd,ae];cases mj (gt (am.az p).l i) m<;>rfl) (by simp only[oq,gk,cond_false]);simp only[nQ,h,ae];cases(am.az p).l.any fun r=>mj r m<;>rfl
section
variable{t:af}{old now:Sl (Sl Int)}{p:am}
theorem Dj{s h:Nat}(hr:p.az.l.length<9223372036854775808)(hb:∀r∈p.az.l,r.2.2.l.length<1000000)(hm:p.aJ.l.length<=1000000)(hs:s<now.l.length)(hh:h<(gt now.l s).l.length):
  ∀(n j k:Nat),j+n=p.aJ.l.length->k<=j->bc (jQ now p (s:Int) (h:Int)) ((k:Int),(j:Int))=some ((k+lC p.az.l (s:Int) (h:Int) (gt (gt now.l s).l h) (p.aJ.l.drop j):Nat):Int):=by
 intro n;induction n with
 |zero=>
  intro j k hj hk;obtain rfl:j=p.aJ.l.length:=by omega
  exact bC (by simp only[jQ,gk,cond_false,List.drop_length];rfl)
 |succ n ih=>
  intro j k hj hk;have hjl:j<p.aJ.l.length:=by omega
  have e:p.aJ.l.drop j=gt p.aJ.l j::p.aJ.l.drop (j+1):=by rw[dV hjl];exact List.drop_eq_getElem_cons hjl
  have hd:=AQ (m:=gt p.aJ.l j) hr hb;have hc:(bif(((aZ.Sw (gt p.aJ.l j))==(s:Int))&&((aZ.jF (gt p.aJ.l j))==(h:Int)))then(bif((aZ.h_ (gt p.aJ.l j))==(gt (gt now.l s).l h))then(some (p.az.l.any fun r=>mj r (gt p.aJ.l j)):Option Bool)else some false)else some false)=some (F7 p.az.l (s:Int) (h:Int) (gt (gt now.l s).l h) (gt p.aJ.l j)):=by unfold F7;show(bif(((gt p.aJ.l j).1==(s:Int))&&((gt p.aJ.l j).2.1==(h:Int)))then(bif((gt p.aJ.l j).2.2.1==_)then _ else _)else _)=_;cases(((gt p.aJ.l j).1==(s:Int))&&((gt p.aJ.l j).2.1==(h:Int)))<;>cases((gt p.aJ.l j).2.2.1==(gt (gt now.l s).l h))<;>rfl
  rw[e];cases hh2:F7 p.az.l (s:Int) (h:Int) (gt (gt now.l s).l h) (gt p.aJ.l j)with
  |true=>
   have:=ih (j+1) (k+1) (by omega) (by omega);have e2:k+lC p.az.l (s:Int) (h:Int) (gt (gt now.l s).l h) (gt p.aJ.l j::p.aJ.l.drop (j+1))=k+1+lC p.az.l (s:Int) (h:Int) (gt (gt now.l s).l h) (p.aJ.l.drop (j+1)):=by unfold lC;rw[j6,if_pos hh2,List.length_cons];omega
   rw[e2];refine(bL ?_).trans this;rw[hh2]at hc;simp only[jQ,fz hjl,cond_true,bm hjl,ae,bm hs,bm hh,hd,hc,gB (show j<9223372036854775807 by omega),gB (show k<9223372036854775807 by omega)]
  |false=>
   have:=ih (j+1) k (by omega) (by omega);have e2:k+lC p.az.l (s:Int) (h:Int) (gt (gt now.l s).l h) (gt p.aJ.l j::p.aJ.l.drop (j+1))=k+lC p.az.l (s:Int) (h:Int) (gt (gt now.l s).l h) (p.aJ.l.drop (j+1)):=by unfold lC;rw[j6,if_neg (by rw[hh2];simp)]
   rw[e2];refine(bL ?_).trans this;rw[hh2]at hc;simp only[jQ,fz hjl,cond_true,bm hjl,ae,bm hs,bm hh,hd,hc,cond_false,gB (show j<9223372036854775807 by omega)]
theorem Fs{s:Nat}(hr:p.az.l.length<9223372036854775808)(hb:∀r∈p.az.l,r.2.2.l.length<1000000)(hm:p.aJ.l.length<=1000000)(hs:s<old.l.length)(hsn:s<now.l.length)(h1:(gt old.l s).l.length=t.aN.l.length)(h2:(gt now.l s).l.length=t.aN.l.length)(hh:t.aN.l.length<=1000):
  ∀(n h:Nat)(cF:Sl aL),h+n=t.aN.l.length->cF.l.length+n<1000000000->∃out',bc (lc t old now p (s:Int)) ((h:Int),cF)=some out'/\out'.l=cF.l++xw old now p.aJ.l p.az.l s h n:=by
 intro n;induction n with
 |zero=>
  intro h cF hh ho;obtain rfl:h=t.aN.l.length:=by omega
  exact⟨cF,bC (by simp only[lc,gk,cond_false]),by simp[xw]⟩
 |succ n ih=>
  intro h cF hh ho;have hhl:h<t.aN.l.length:=by omega
  have hc:=Dj (now:=now) (p:=p) (s:=s) (h:=h) hr hb hm hsn (by omega) p.aJ.l.length 0 0 (by omega) (Nat.le_refl _);rw[List.drop_zero,Nat.zero_add]at hc;have hc:bc (jQ now p (s:Int) (h:Int)) (0,0)=_:=hc;have hlen:(lk cF (rt old now p.aJ.l p.az.l s h) 2 (s:Int) (h:Int)).l.length<=cF.l.length+1:=by rw[mB];cases rt old now p.aJ.l p.az.l s h<;>simp
  obtain⟨o',e1,e2⟩:=ih (h+1) (lk cF (rt old now p.aJ.l p.az.l s h) 2 (s:Int) (h:Int)) (by omega) (by omega);refine⟨o',(bL ?_).trans e1,?_⟩
  .have hq:((gt (gt old.l s).l h !=gt (gt now.l s).l h)&&(((lC p.az.l (s:Int) (h:Int) (gt (gt now.l s).l h) p.aJ.l:Nat):Int) !=1))=rt old now p.aJ.l p.az.l s h:=by unfold rt;rw[bne_comm]
   have hcap:fF (cF.l++[((2,(s:Int),(h:Int)):aL)])=some _:=fR (by rw[ap,aW];omega);simp only[lc,fz hhl,cond_true,hc,ae,bm hs,bm hsn,bm (show h<(gt old.l s).l.length by omega),bm (show h<(gt now.l s).l.length by omega),hq,hcap,gB (show h<9223372036854775807 by omega)];unfold lk;cases rt old now p.aJ.l p.az.l s h<;>rfl
  .rw [e2,mB,aH];congr 1
theorem HU(hr:p.az.l.length<9223372036854775808)(hb:∀r∈p.az.l,r.2.2.l.length<1000000)(hm:p.aJ.l.length<=1000000)(h1:(old.l.length:Int)=t.aU)(h2:(now.l.length:Int)=t.aU)(r1:∀s,s<old.l.length->(gt old.l s).l.length=t.aN.l.length)(r2:∀s,s<now.l.length->(gt now.l s).l.length=t.aN.l.length)(hh:t.aN.l.length<=1000)(hn:now.l.length<=1000):
  ∀(n s:Nat)(cF:Sl aL),s+n=now.l.length->cF.l.length+1000*n<1000000000->∃out',bc (k_ t old now p) ((s:Int),cF)=some out'/\out'.l=cF.l++y_ old now p.aJ.l p.az.l s n:=by
 intro n;induction n with
 |zero=>
  intro s cF hs ho;obtain rfl:s=now.l.length:=by omega
  have hd:decide ((now.l.length:Int)<af.aU t)=false:=decide_eq_false (by omega);exact⟨cF,bC (by simp only[k_,hd,cond_false]),by simp[y_]⟩
 |succ n ih=>
  intro s cF hs ho;have hsl:s<now.l.length:=by omega
  have hd:decide ((s:Int)<af.aU t)=true:=decide_eq_true (by omega);obtain⟨o1,f1,f2⟩:=Fs (t:=t) (old:=old) (now:=now) (p:=p) hr hb hm (show s<old.l.length by omega) hsl (r1 s (by omega)) (r2 s hsl) hh t.aN.l.length 0 cF (by omega) (by omega);have f1:bc (lc t old now p (s:Int)) (0,cF)=_:=f1;have hl1:o1.l.length<=cF.l.length+1000:=by rw[f2,ap];have:=y9 (old:=old) (now:=now) (mv:=p.aJ) (rd:=p.az) (s:=s) (h:=0) (n:=t.aN.l.length);omega
  obtain⟨o',e1,e2⟩:=ih (s+1) o1 (by omega) (by omega);refine⟨o',(bL ?_).trans e1,?_⟩
  .simp only[k_,hd,cond_true,f1,ae,gB (show s<9223372036854775807 by omega)]
  .rw [e2,f2,aH,<-r2 s hsl];congr 1
theorem Dd(hr:p.az.l.length<9223372036854775808)(hrs:∀r∈p.az.l,r.2.2.l.length<1000000)(hm:p.aJ.l.length<=1000000)(h1:(now.l.length:Int)=t.aU)(h2:(old.l.length:Int)=t.aU)
  (hn:∀s,s<now.l.length->(gt now.l s).l.length=t.aN.l.length) (ho:∀s,s<old.l.length->(gt old.l s).l.length=t.aN.l.length):
  ∀(n k:Nat)(cF:Sl aL),k+n=p.aJ.l.length->cF.l.length+n<1000000000->∃out',bc (k9 t old now p) ((k:Int),cF)=some out'/\out'.l=cF.l++vc t old now p.aJ.l p.az.l k n:=by
 intro n;induction n with
 |zero=>
  intro k cF hk hl;obtain rfl:k=p.aJ.l.length:=by omega
  exact⟨cF,bC (by simp only[k9,gk,cond_false]),by simp[vc]⟩
 |succ n ih=>
  intro k cF hk hl;have hkl:k<p.aJ.l.length:=by omega
  have hlen:(lk cF (ko t old now p.az.l (gt p.aJ.l k)) 3 (k:Int) (gt p.aJ.l k).2.1).l.length<=cF.l.length+1:=by rw[mB];cases ko t old now p.az.l (gt p.aJ.l k)<;>simp
  obtain⟨o',e1,e2⟩:=ih (k+1) (lk cF (ko t old now p.az.l (gt p.aJ.l k)) 3 (k:Int) (gt p.aJ.l k).2.1) (by omega) (by omega);refine⟨o',(bL ?_).trans e1,?_⟩
  .have hout:cF.l.length<2147483648:=by omega
   have hcap:fF (cF.l++[((3,(k:Int),aZ.jF (gt p.aJ.l k)):aL)])=some _:=fR (by rw[ap,aW];omega);have hi:yO t (gt p.aJ.l k)=some (s7 t (gt p.aJ.l k)):=rfl;have hd:nQ p (gt p.aJ.l k)=some (p.az.l.any fun r=>mj r (gt p.aJ.l k)):=AQ hr hrs;have key:∀(b:Bool),ko t old now p.az.l (gt p.aJ.l k)=b->((bif b then((fF (cF.l++[((3,(k:Int),aZ.jF (gt p.aJ.l k)):aL)])).bind fun l41=>some (Sl.mk l41))else(some cF):Option (Sl aL)).bind fun s42=>some (Sum.inl (wr .i64 ((k:Int)+1),s42)))=(some (Sum.inl (((k+1:Nat):Int),lk cF (ko t old now p.az.l (gt p.aJ.l k)) 3 (k:Int) (gt p.aJ.l k).2.1)):Option ((Int×Sl aL)⊕Sl aL)):=by intro b hb;rw[hb,hcap,gB (show k<9223372036854775807 by omega)];cases b<;>rfl
   simp only[k9,fz hkl,cond_true,bm hkl,ae,hi];cases hB:s7 t (gt p.aJ.l k)with
   |false=>
    have hx:ko t old now p.az.l (gt p.aJ.l k)=true:=by unfold ko;rw[hB];rfl
    exact key true hx
   |true=>
    unfold s7 at hB;simp only[ai,decide_eq_true_eq]at hB;obtain⟨⟨⟨b1,b2⟩,b3⟩,b4⟩:=hB;have hBt:s7 t (gt p.aJ.l k)=true:=by unfold s7;simp only[ai,decide_eq_true_eq];exact⟨⟨⟨b1,b2⟩,b3⟩,b4⟩
    have s1:(gt p.aJ.l k).1.toNat<now.l.length:=by omega
    have s2:(gt p.aJ.l k).1.toNat<old.l.length:=by omega
    have i1:df (aZ.Sw (gt p.aJ.l k)) now.l.length=some (gt p.aJ.l k).1.toNat:=fo.2 ⟨by show(gt p.aJ.l k).1=_;omega,s1⟩;have i2:df (aZ.jF (gt p.aJ.l k)) (gt now.l (gt p.aJ.l k).1.toNat).l.length=some (gt p.aJ.l k).2.1.toNat:=fo.2 ⟨by show(gt p.aJ.l k).2.1=_;omega,by rw[hn _ s1];omega⟩;have i3:df (aZ.Sw (gt p.aJ.l k)) old.l.length=some (gt p.aJ.l k).1.toNat:=fo.2 ⟨by show(gt p.aJ.l k).1=_;omega,s2⟩;have i4:df (aZ.jF (gt p.aJ.l k)) (gt old.l (gt p.aJ.l k).1.toNat).l.length=some (gt p.aJ.l k).2.1.toNat:=fo.2 ⟨by show(gt p.aJ.l k).2.1=_;omega,by rw[ho _ s2];omega⟩;have hx:ko t old now p.az.l (gt p.aJ.l k)=bif(gt (gt now.l (gt p.aJ.l k).1.toNat).l (gt p.aJ.l k).2.1.toNat !=(aZ.h_ (gt p.aJ.l k)))then true else bif(gt (gt old.l (gt p.aJ.l k).1.toNat).l (gt p.aJ.l k).2.1.toNat==(aZ.h_ (gt p.aJ.l k)))then true else !(p.az.l.any fun r=>mj r (gt p.aJ.l k)):=by unfold ko;rw[hBt];rfl
    simp only[Bool.not_true,cond_false,i1,i2,i3,i4,ae,hd];refine Eq.trans ?_ (key _ rfl);rw[hx];cases(gt (gt now.l (gt p.aJ.l k).1.toNat).l (gt p.aJ.l k).2.1.toNat !=(aZ.h_ (gt p.aJ.l k)))with
    |true=>rfl
    |false=>cases(gt (gt old.l (gt p.aJ.l k).1.toNat).l (gt p.aJ.l k).2.1.toNat==(aZ.h_ (gt p.aJ.l k)))with|true=>rfl|false=>rfl
  .rw [e2,mB,aH];congr 1
theorem HT(n:Int):lf n (-1125899906842624) 1125899906842624=some (j9 n):=by
 unfold lf j9;by_cases h1:n< -1125899906842624
 .rw [decide_eq_true h1,cond_true,if_pos h1,if_neg (by omega)]
 .rw [decide_eq_false h1,cond_false,if_neg h1];by_cases h2:n>1125899906842624
  .rw [decide_eq_true h2,cond_true,if_pos h2]
  .rw [decide_eq_false h2,cond_false,if_neg h2]
theorem yK(n:Int):lf n 0 1048576=some (g_ n):=by
 unfold lf g_;by_cases h1:n<0
 .rw [decide_eq_true h1,cond_true,if_pos h1,if_neg (by omega)]
 .rw [decide_eq_false h1,cond_false,if_neg h1];by_cases h2:n>1048576
  .rw [decide_eq_true h2,cond_true,if_pos h2]
  .rw [decide_eq_false h2,cond_false,if_neg h2]
theorem C6(hV:kS t)(hb:p.az.l.length<=1000):
  ∀(n i:Nat)(cF:Sl aL),i+n=p.az.l.length->1<=i->cF.l.length+n<1000000000->∃out',bc (iT t p (g_ p.j4)) ((i:Int),cF)=some out'/\out'.l=cF.l++qj (2*g_ p.j4+j_ t+1) p.az.l i n:=by
 intro n;obtain⟨m1,m2⟩:=G8 p.j4;obtain⟨l1,l2⟩:=xZ hV;induction n with
 |zero=>
  intro i cF hi h1 _;obtain rfl:i=p.az.l.length:=by omega
  exact⟨cF,bC (by simp only[iT,gk,cond_false]),by simp[qj]⟩
 |succ n ih=>
  intro i cF hi h1 ho;have hil:i<p.az.l.length:=by omega
  have hw:wr .i64 ((i:Int)-1)=((i-1:Nat):Int):=by rw[ku (by omega) (by omega)];omega
  have n1:=xY (gt p.az.l i).2.1;have n2:=xY (gt p.az.l (i-1)).2.1;have w1:wr .i64 (j9 (dE.At (gt p.az.l (i-1)))+g_ p.j4)=j9 (gt p.az.l (i-1)).2.1+g_ p.j4:=ku (n:=j9 (gt p.az.l (i-1)).2.1+g_ p.j4) (by omega) (by omega);have w2:wr .i64 (j9 (gt p.az.l (i-1)).2.1+g_ p.j4+g_ p.j4)=j9 (gt p.az.l (i-1)).2.1+g_ p.j4+g_ p.j4:=ku (by omega) (by omega);have w3:wr .i64 (j9 (gt p.az.l (i-1)).2.1+g_ p.j4+g_ p.j4+j_ t)=j9 (gt p.az.l (i-1)).2.1+g_ p.j4+g_ p.j4+j_ t:=ku (by omega) (by omega);have hc:decide (j9 (dE.At (gt p.az.l i))<=j9 (gt p.az.l (i-1)).2.1+g_ p.j4+g_ p.j4+j_ t)=og (2*g_ p.j4+j_ t+1) p.az.l i:=by unfold og;show decide (j9 (gt p.az.l i).2.1<=_)=_;rw[decide_eq_decide];omega
  have hlen:(lk cF (og (2*g_ p.j4+j_ t+1) p.az.l i) 4 (i:Int) 0).l.length<=cF.l.length+1:=by rw[mB];cases og (2*g_ p.j4+j_ t+1) p.az.l i<;>simp
  obtain⟨o',e1,e2⟩:=ih (i+1) (lk cF (og (2*g_ p.j4+j_ t+1) p.az.l i) 4 (i:Int) 0) (by omega) (by omega) (by omega);refine⟨o',(bL ?_).trans e1,?_⟩
  .have hcap:fF (cF.l++[((4,(i:Int),0):aL)])=some _:=fR (by rw[ap,aW];omega);simp only[iT,fz hil,cond_true,hw,bm (show i-1<p.az.l.length by omega),bm hil,ae,HT,Di hV,w1,w2,w3,hc,hcap,gB (show i<9223372036854775807 by omega)];unfold lk;cases og (2*g_ p.j4+j_ t+1) p.az.l i<;>rfl
  .rw [e2,mB,aH];congr 1
theorem Fj(hV:kS t)(hb:p.az.l.length<=1000):∃cF,oI t p=some cF/\cF.l=qj (2*g_ p.j4+j_ t+1) p.az.l 1 (p.az.l.length-1):=by
 by_cases h0:p.az.l.length=0
 .refine ⟨.nil,?_,by rw[h0];simp[qj]⟩;have e:bc (iT t p (g_ p.j4)) (1,.nil)=some .nil:=bC (by have hlt:decide ((1:Int)<(p.az.l.length:Int))=false:=decide_eq_false (by omega);simp only[iT,hlt,cond_false]);simp only[oI,yK,ae,e]
 .obtain ⟨o',e1,e2⟩:=C6 (t:=t) (p:=p) hV hb (p.az.l.length-1) 1 .nil (by omega) (by omega) (by simp;omega);have e1:bc (iT t p (g_ p.j4)) (1,.nil)=_:=e1;exact⟨o',by simp only[oI,yK,ae,e1],by rw[e2,Sl.DU,List.nil_append]⟩
end
end Go.Proofs.YthcplpfiidlinaaDoor.J
