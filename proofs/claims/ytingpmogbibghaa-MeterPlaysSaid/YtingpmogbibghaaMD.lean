/- MeterBetween: what is mixed of costs is a cost. Conditions: words of 64 bits. -/
import Derived.Test.YtingpmogbibghaaMB
open Ieee renaming Datum->J8
open Ieee.Datum renaming number->Kh
open Nat renaming le_of_lt->Kj,le_refl->ai,lt_or_ge->LN,zero_le->gi
open Go.Ev Go Go.Fl
namespace Go.Proofs.Ytingpmogbibghaa.M
def nn(x:Nat):Prop:=x<=D.infRung\/x=9223372036854775808
def ab(x:Nat):Nat:=if x=9223372036854775808 then 0 else x
theorem KD{x:Nat}(h:x<=D.infRung):ab x=x:=by unfold ab;rw[if_neg];rw[t4]at h;omega
theorem K6{x:Nat}(h:nn x):oz x:=by
 rcases h with h|h
 .rw [t4]at h;unfold oz;omega
 .rw [h];exact(by decide:oz 9223372036854775808)
theorem Ks{x:Nat}(h:nn x):f_ x=false:=by
 rcases h with h|h
 .rw [t4]at h;exact decide_eq_false (by omega)
 .rw [h];decide
theorem La{x:Nat}(h:nn x):pl x=ab x:=by
 rcases h with h|h
 .rw [KD h];rw[t4]at h;unfold pl;rw[if_neg (by omega)]
 .rw [h];decide
theorem Lo(p:Int):∀d:J8,d.neg=false->(Kh true 0 p).sum d=(Kh false 0 p).sum d
 |.number t n j,h=>by obtain rfl:t=false:=h;simp only[J8.sum,Ieee.signed];simp
 |.infinity _,_=>rfl
 |.nan ..,_=>rfl
theorem Lq(p:Int):∀d:J8,d.neg=false->d.sum (Kh true 0 p)=d.sum (Kh false 0 p)
 |.number t n j,h=>by obtain rfl:t=false:=h;simp only[J8.sum,Ieee.signed];simp
 |.infinity _,_=>rfl
 |.nan ..,_=>rfl
theorem KI:D.read 9223372036854775808=.number true 0 D.leastPlace:=by decide
theorem K_:D.read 0=.number false 0 D.leastPlace:=by decide
theorem KQ{x:Nat}(h:x<=D.infRung):(D.read x).neg=false:=by
 rcases LN x D.infRung with h1|h1
 .obtain ⟨m,k,e,_⟩:=Kc D h1 (by decide);rw[e];rfl
 .obtain rfl:x=D.infRung:=by omega
  rw[Kw D (by decide) (by decide)];rfl
theorem KF(x y:Nat):D.add x y=((D.read x).sum (D.read y)).map D.write:=rfl
theorem Lj(x y:Nat):D.mul x y=((D.read x).product (D.read y)).map D.write:=rfl
theorem Ll{x y z:Nat}(h:D.add x y=some z):Dd .f64 x y=z:=by show(D.add x y).getD _=z;rw[h];rfl
theorem KN{x y z:Nat}(h:D.mul x y=some z):yf .f64 x y=z:=by show(D.mul x y).getD _=z;rw[h];rfl
theorem Lk{x y z:Nat}(h:D.sub x y=some z):E3 .f64 x y=z:=by show(D.sub x y).getD _=z;rw[h];rfl
theorem UN{x y z:Nat}(h:D.div x y=some z):AZ .f64 x y=z:=by show(D.div x y).getD _=z;rw[h];rfl
theorem KY{x y:Nat}(hx:nn x)(hy:nn y):nn (Dd .f64 x y)/\ab (Dd .f64 x y)=plus D (ab x) (ab y):=by
 have hs:D.infRung<D.signWeight:=by decide
 have hb:D.binade<=D.infRung:=by decide
 have fin:∀{z a b:Nat},D.add x y=D.add a b->a<=D.infRung->b<=D.infRung->ab x=a->ab y=b->nn (Dd .f64 x y)/\ab (Dd .f64 x y)=plus D (ab x) (ab y):=by intro z a b e ha hb2 e1 e2;have h:=Lg (f:=D) hs hb ha hb2;rw[Ll (e.trans h),e1,e2];exact⟨.inl KJ,KD KJ⟩
 rcases hx with hx|hx
 .rcases hy with hy|hy
  .exact fin (z:=0) rfl hx hy (KD hx) (KD hy)
  .refine fin (z:=0) (a:=x) (b:=0) ?_ hx (gi _) (KD hx) (by unfold ab;rw[if_pos hy]);rw[KF,KF,hy,KI,K_,Lq _ _ (KQ hx)]
 .rcases hy with hy|hy
  .refine fin (z:=0) (a:=0) (b:=y) ?_ (gi _) hy (by unfold ab;rw[if_pos hx]) (KD hy);rw[KF,KF,hx,KI,K_,Lo _ _ (KQ hy)]
  .subst hx;subst hy;have e:Dd .f64 9223372036854775808 9223372036854775808=9223372036854775808:=by decide+kernel
   rw[e];exact⟨.inr rfl,by decide+kernel⟩
theorem KL{x t:Nat}(hx:nn x)(h0:0<t)(h1:t<=Kr):nn (yf .f64 x t)/\ab (yf .f64 x t)<=ab x:=by
 rcases hx with hx|hx
 .rcases LN x D.infRung with h|h
  .obtain ⟨z,e,hz⟩:=Lr h h1;rw[KN e,KD (x:=z) (by omega),KD hx];exact⟨.inl (by omega),hz⟩
  .obtain rfl:x=D.infRung:=by omega
   rw[KN (Li h0 h1)];exact⟨.inl (ai _),ai _⟩
 .subst hx;have hi:t<D.infRung:=by rw[t4];unfold Kr at h1;omega
  obtain⟨m,k,e,_⟩:=Kc D hi (by decide)
  have hp:D.mul 9223372036854775808 t=some 9223372036854775808:=by
   rw[Lj,KI,e];have:(Kh true 0 D.leastPlace).product (.number false m (D.leastPlace+(k:Int)))=some (.number true 0 (D.leastPlace+(D.leastPlace+(k:Int)))):=by simp only[J8.product,Nat.zero_mul];rfl
   rw[this];have hw:∀p:Int,D.write (.number true 0 p)=9223372036854775808:=by intro p;show D.nearest true 0 p=_;unfold Ieee.Format.nearest;rw[if_pos rfl];rfl
   rw[Option.map_some,hw]
  rw[KN hp];exact⟨.inr rfl,ai _⟩
theorem KS{s:Nat}(h:s<Kr):0<E3 .f64 4607182418800017408 s/\E3 .f64 4607182418800017408 s<=Kr:=by rw[Lk (Lh (Kj h))];exact⟨KO h,KV⟩
theorem Lb{o x s:Nat}(ho:nn o)(hx:nn x):nn (AH o x s):=by
 unfold AH;rw[Ks ho,cond_false];cases hc:(f_ x||f_ s||decide (pl s<=0))with
 |true=>exact ho
 |false=>
  rw[cond_false];simp only[Bool.or_eq_false_iff]at hc;have hp:=B5.1 (show 0<pl s by have:=of_decide_eq_false hc.2;omega);by_cases h1:4607182418800017408<=s
  .rw [decide_eq_true h1];exact hx
  .rw [decide_eq_false h1,cond_false];have hs:s<Kr:=by unfold Kr;omega
   obtain⟨a1,a2⟩:=KS hs;have:=(KY (KL ho a1 a2).1 (KL hx hp.1 (Kj hs)).1).1;rw[wv (Ks this)];exact this
theorem K1{x:Nat}(h:nn x):(H5 .f64 x 0||wT .f64 x 0)=true:=by
 have z:ok 0:=⟨by decide,by decide⟩
 have p0:pl 0=0:=by decide
 rw[G_ (sH (K6 h) (Ks h)) z,yg (sH (K6 h) (Ks h)) z,p0,La h];by_cases h0:ab x=0
 .rw [h0];decide
 .rw [decide_eq_true (show(0:Int)<((ab x:Nat):Int)by omega)];rfl
theorem Le{x:Nat}(h:nn x):Kt x=some true:=by unfold Kt;rw[K1 h]
end Go.Proofs.Ytingpmogbibghaa.M
