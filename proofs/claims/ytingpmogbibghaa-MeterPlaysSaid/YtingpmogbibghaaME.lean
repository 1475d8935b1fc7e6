/- MeterPlays: whatever a meter counts, it has what the reference has. Conditions: words of 64 bits. -/
import Derived.Test.YtingpmogbibghaaMC
import Derived.Test.YtingpmogbibghaaMD
open Bool renaming and_self->Ma
open Int renaming toNat_of_nonneg->lB
open Option renaming bind_some->aR
open Go.Ev Go Go.Fl
namespace Go.Proofs.Ytingpmogbibghaa.M
structure A1(sh:Nat)(m:dG)(r:dN)(v c t:Nat):Prop where
 r1:m=((sh,v,(c:Int),(t:Int)):dG)
 r2:r=(((sh:Int),(v:Int),(c:Int),(t:Int)):dN)
 r3:oz sh
 r4:oz v
 r5:fM v=v
 r6:c<=1125899906842624
 r7:t<=1125899906842624
 r8:f_ v=true\/nn v
 r9:0<t->nn v
theorem C1{sh:Nat}{m:dG}{r:dN}{v c t:Nat}(h:A1 sh m r v c t)(n:Int):∃m' r' c',hC m n=some m'/\gA r n=some r'/\A1 sh m' r' v c' t:=by
 obtain⟨rfl,rfl,hsh,hv,hcl,hc,ht,hn,hp⟩:=h;unfold hC gA;simp only[dG.lN,dG.BP,dG.value,dG.sA,dN.l6,dN.x6,dN.Value,dN.w6];have w0:wr .i64 (0-1125899906842624)=-1125899906842624:=by decide
 rw[w0];by_cases h1:n< -1125899906842624
 .rw [decide_eq_true h1,decide_eq_false (show¬n>=-1125899906842624 by omega)];exact⟨_,_,c,rfl,rfl,rfl,rfl,hsh,hv,hcl,hc,ht,hn,hp⟩
 by_cases h2:n>1125899906842624
 .rw [decide_eq_false h1,decide_eq_true h2,decide_eq_true (show n>=-1125899906842624 by omega),decide_eq_false (show¬n<=1125899906842624 by omega)];exact⟨_,_,c,rfl,rfl,rfl,rfl,hsh,hv,hcl,hc,ht,hn,hp⟩
 have w1:wr .i64 ((c:Int)+n)=(c:Int)+n:=wq (by omega) (by omega);rw[decide_eq_false h1,decide_eq_false h2,decide_eq_true (show n>=-1125899906842624 by omega),decide_eq_true (show n<=1125899906842624 by omega),w1,Bool.or_false,cond_false,Ma,Bool.true_and];by_cases h3:(c:Int)+n>=0/\(c:Int)+n<=1125899906842624
 .rw [decide_eq_true h3.1,decide_eq_true h3.2,Ma,cond_true,cond_true];refine⟨_,_,((c:Int)+n).toNat,rfl,rfl,?_,?_,hsh,hv,hcl,by omega,ht,hn,hp⟩
  .rw [lB h3.1]
  .rw [lB h3.1]
 .have:(decide ((c:Int)+n>=0)&&decide ((c:Int)+n<=1125899906842624))=false:=by
   rw[Bool.and_eq_false_iff];by_cases h4:(c:Int)+n>=0
   .right;exact decide_eq_false (by omega)
   .left;exact decide_eq_false h4
  rw[this,cond_false,cond_false];exact⟨_,_,c,rfl,rfl,rfl,rfl,hsh,hv,hcl,hc,ht,hn,hp⟩
theorem Sw{c d:Int}(h0:0<=c)(h1:c<=1125899906842624)(h2:0<d)(h3:d<=1125899906842624):nn (AZ .f64 (FloatKind.nearest .f64 c) (FloatKind.nearest .f64 d)):=by obtain⟨z,e,hz⟩:=UP (sw h0 (by omega)).1 (sw (Int.le_of_lt h2) (by omega)).1 ((sw (Int.le_of_lt h2) (by omega)).2 h2);rw[UN e];exact .inl hz
theorem B2{o x s:Nat}(ho:fM o=o)(hx:fM x=x):fM (AH o x s)=AH o x s:=by
 unfold AH;cases f_ o
 .rw [cond_false];generalize(f_ x||f_ s||decide (pl s<=0))=c;cases c
  .rw [cond_false];cases decide (4607182418800017408<=s)
   .exact ww _
   .exact hx
  .exact ho
 .exact ww _
theorem M1{sh:Nat}{m:dG}{r:dN}{v c t:Nat}(h:A1 sh m r v c t)(n:Int):∃m' r' v' c' t',hN m n=some m'/\gB r n=some r'/\A1 sh m' r' v' c' t':=by
 obtain⟨rfl,rfl,hsh,hv,hcl,hc,ht,hn,hp⟩:=h;unfold hN gB;simp only[dG.lN,dG.BP,dG.value,dG.sA,dN.l6,dN.x6,dN.Value,dN.w6];by_cases h1:n<=(t:Int)
 .rw [decide_eq_true h1,decide_eq_false (show¬n>(t:Int)by omega)];exact⟨_,_,v,c,t,rfl,rfl,rfl,rfl,hsh,hv,hcl,hc,ht,hn,hp⟩
 by_cases h2:n>1125899906842624
 .rw [decide_eq_false h1,decide_eq_true h2,decide_eq_true (show n>(t:Int)by omega),decide_eq_false (show¬n<=1125899906842624 by omega)];exact⟨_,_,v,c,t,rfl,rfl,rfl,rfl,hsh,hv,hcl,hc,ht,hn,hp⟩
 have w1:wr .i64 (n-(t:Int))=n-(t:Int):=wq (by omega) (by omega);have hr:=Sw (c:=(c:Int)) (d:=n-(t:Int)) (by omega) (by omega) (by omega) (by omega);have hrw:=FX (FloatKind.nearest .f64 (c:Int)) (FloatKind.nearest .f64 (n-(t:Int)));have hrc:=wv (Ks hr);rw[decide_eq_false h1,decide_eq_false h2,decide_eq_true (show n>(t:Int)by omega),decide_eq_true (show n<=1125899906842624 by omega),w1,B0,Af,hrc,Bool.or_false,cond_false,Ma,cond_true,aR,aR,EP hv hrw hsh,Cs hv hrw hsh,aR,aR]
 have hnn:nn (AH v (AZ .f64 (FloatKind.nearest .f64 (c:Int)) (FloatKind.nearest .f64 (n-(t:Int)))) sh):=by
  rcases hn with hn|hn
  .unfold AH;rw[hn,cond_true,hrc];exact hr
  .exact Lb hn hr
 refine⟨_,_,AH v (AZ .f64 (FloatKind.nearest .f64 (c:Int)) (FloatKind.nearest .f64 (n-(t:Int)))) sh,0,n.toNat,rfl,rfl,?_,?_,hsh,Ip hv hrw,B2 hcl hrc,by omega,by omega,.inr hnn,fun _=>hnn⟩
 .rw [lB (by omega)];rfl
 .rw [lB (by omega)];rfl
theorem sB:MI Sl.nil=some 9221120237041090561:=by unfold MI;have:((((Sl.nil:Sl Nat).l.length:Nat):Int)==0)=true:=rfl;rw[this,cond_true];unfold N9;have h:lJ 9221120237041090561=some 9221120237041090561:=rfl;rw[h,aR,pg (by decide)];rfl
theorem B1(BP:Int)(l:Sl dR)(h1:0<=BP/\BP<=18446744073709551615)(hl:l.l.length<9223372036854775808):lD BP l=some true:=by
 obtain⟨sh,rfl,hsh⟩:=xP h1.1 h1.2;unfold lD;rw[Eu,aR];have hnew:l7 sh=some ((sh,9221120237041090561,0,0):dG):=by unfold l7;rw[sB];rfl
 have hnewR:pA (sh:Int)=some (((sh:Int),9221120237041090561,0,0):dN):=rfl;rw[hnew,aR,hnewR,aR];have hrel:A1 sh ((sh,9221120237041090561,0,0):dG) (((sh:Int),9221120237041090561,0,0):dN) 9221120237041090561 0 0:=⟨rfl,rfl,hsh,by decide,by decide,by omega,by omega,.inl (by decide),fun h=>absurd h (by omega)⟩
 have key:∀(k i:Nat)(m:dG)(r:dN)(v c t:Nat),i+k=min l.l.length 60->A1 sh m r v c t->zu (eR l) ((i:Int),m,r)=some (.inr ()):=by
  intro k;induction k with
  |zero=>
   intro i m r v c t hi _;refine LJ ?_;simp only[eR]
   have:(decide ((i:Int)<(l.l.length:Int))&&decide ((i:Int)<60))=false:=by
    rw[Bool.and_eq_false_iff];by_cases h:i<l.l.length
    .right;exact decide_eq_false (by omega)
    .left;exact decide_eq_false (by omega)
   rw[this];rfl
  |succ k ih=>
   intro i m r v c t hi hR;have hlt:i<l.l.length:=by omega
   obtain⟨m',r',v',c',t',e1,hR'⟩:∃m' r' v' c' t',((rM (i:Int) l.l.length).bind fun n11=>
 (bif((dR.T2 (gt l.l n11))==0)then(some ((dR.T2 (gt l.l n11))==0))else
 (bif((dR.T2 (gt l.l n11))==1)then(some ((dR.T2 (gt l.l n11))==1))else
 (some ((dR.T2 (gt l.l n11))==2))):Option Bool).bind fun b12=>
 bif b12 then((rM (i:Int) l.l.length).bind fun n13=>
 (hC m (dR.N (gt l.l n13))).bind fun q14=>
 (rM (i:Int) l.l.length).bind fun n15=>
 (gA r (dR.N (gt l.l n15))).bind fun q16=>
 some (q14,q16))else
 ((bif((dR.T2 (gt l.l n11))==3)then(some ((dR.T2 (gt l.l n11))==3))else
 (some ((dR.T2 (gt l.l n11))==4)):Option Bool).bind fun b17=>
 bif b17 then((rM (i:Int) l.l.length).bind fun n18=>
 (hN m (dR.N (gt l.l n18))).bind fun q19=>
 (rM (i:Int) l.l.length).bind fun n20=>
 (gB r (dR.N (gt l.l n20))).bind fun q21=>
 some (q19,q21))else
 (some (m,r))):Option (dG×dN))=some (m',r')/\A1 sh m' r' v' c' t':=by
       obtain⟨m1,r1,c1,a1,a2,a3⟩:=C1 hR (dR.N (gt l.l i));obtain⟨m2,r2,v2,c2,t2,b1,b2,b3⟩:=M1 hR (dR.N (gt l.l i));rw[M7 hlt];simp only[aR];rw[a1,a2,b1,b2];simp only[aR];have g:∀b0 b1 b2:Bool,(bif b0 then some b0 else bif b1 then some b1 else some b2:Option Bool)=some (b0||b1||b2):=by intro b0 b1 b2;cases b0<;>cases b1<;>cases b2<;>rfl
       have g2:∀b0 b1:Bool,(bif b0 then some b0 else some b1:Option Bool)=some (b0||b1):=by intro b0 b1;cases b0<;>cases b1<;>rfl
       rw[g,aR,g2,aR];generalize((dR.T2 (gt l.l i))==0||(dR.T2 (gt l.l i))==1||(dR.T2 (gt l.l i))==2)=k1;generalize((dR.T2 (gt l.l i))==3||(dR.T2 (gt l.l i))==4)=k2;cases k1
       .cases k2
        .exact ⟨_,_,_,_,_,rfl,hR⟩
        .exact ⟨_,_,_,_,_,rfl,b3⟩
       .exact ⟨_,_,_,_,_,rfl,a3⟩
   refine(LK (a':=(((i+1:Nat):Int),m',r')) ?_).trans (ih (i+1) m' r' v' c' t' (by omega) hR');simp only[eR];rw[decide_eq_true (show(i:Int)<(l.l.length:Int)by omega),decide_eq_true (show(i:Int)<60 by omega),Ma,cond_true,e1,aR];obtain⟨rfl,rfl,q1,q2,q3,q4,q5,q6,q7⟩:=hR';simp only[lk,lu,lr,dG.value,dG.lN,dG.sA,dN.Value,dN.l6,dN.w6,aR];rw[wC q2,aR,q3,bne_self_eq_false,cond_false,bne_self_eq_false,cond_false,bne_self_eq_false,cond_false];by_cases h0:0<t'
   .rw [decide_eq_true (show(t':Int)>0 by omega),cond_true,Le (q7 h0),aR,aR,Bool.not_true,cond_false,OE (by omega)]
   .rw [decide_eq_false (show¬(t':Int)>0 by omega),cond_false,aR,cond_false,OE (by omega)]
 have e0:zu (eR l) (0,((sh,9221120237041090561,0,0):dG),(((sh:Int),9221120237041090561,0,0):dN))=some (.inr ()):=key (min l.l.length 60) 0 _ _ _ _ _ (by omega) hrel;rw[e0,aR];simp only[];have n1:gx=some 9221120237041090561:=by unfold gx;rw[sB];rfl
 have n2:Mr 9221120237041090561=some 9221120237041090561:=by rw[wC (by decide)];rfl
 rw[n1,oY];simp only[j4,lj,hP,j3,aR];rw[n2];rfl
end Go.Proofs.Ytingpmogbibghaa.M
