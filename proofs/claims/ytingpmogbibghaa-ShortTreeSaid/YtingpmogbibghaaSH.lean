/- ShortTells: costs, steps, trees and routes are the reference's. Conditions: words of 64 bits. -/
import Derived.Test.YtingpmogbibghaaSG
import Derived.Test.YtingpmogbibghaaSu
open Bool renaming true_and->dE
open List renaming length_replicate->a_,replicate->ak
open Option renaming bind_some->ae
open Go.Ev Go Go.Fl Go.Ways
namespace Go.Proofs.Ytingpmogbibghaa.S
def cB(t:aj)(L:List Nat)(g:Nat):Nat->Nat:=B (iF t L) g t.ah.toNat
theorem yr(t:aj)(L:List Nat)(g i:Nat):cB t L g i<=oK:=TE _ _
def hg(t:aj)(h:Nat):Nat:=(gt t.bg.l h).At.toNat
def qQ(t:aj)(L:List Nat)(h:Nat):Nat->Int:=PP t L (cB t L (hg t h)) (hg t h) (gt t.bg.l h).f_
section
variable{t:aj}{L:List Nat}(hV:lF t)(hL:L.length=t.aP.l.length)(hn:∀x∈L,nn x)
include hV hL hn in
theorem IY{g:Nat}(hg:g<t.ah.toNat):gD t (dW L) (g:Int)=some (Sl.mk (bw t.ah.toNat (cB t L g))):=by obtain⟨cl,ez,h1,h2⟩:=Hu hV hL hn hg;rw[h1,gE fun i hi=>(h2.rO (wJ hV L)).1 i hi];rfl
include hV hL hn in
theorem LS:EO t L=true:=by unfold EO;rw[decide_eq_true hV,dE,hL,beq_self_eq_true,dE];exact List.all_eq_true.2 fun x hx=>tf.2 (hn x hx)
include hV hL hn in
theorem Ec:j_ t (dW L)=some true:=by have hok:=LS hV hL hn;have hr:=rY (t:=t) (L:=L) (fun x hx=>uU (hn x hx)) (by have:=hV.yi;omega);rwa[(zZ hok).2.2.2,hok]at hr
include hV hL hn in
theorem DS{h:Nat}(hh:h<t.bg.l.length):kp t (dW L) (h:Int)=some (Sl.mk (bw t.ah.toNat (qQ t L h)),0):=by
 obtain⟨s1,s2,s3⟩:=l_ hV;obtain⟨p1,p2,p3,p4⟩:=IJ hV hh;have hgn:hg t h<t.ah.toNat:=by unfold hg;omega
 have hat:(gt t.bg.l h).At=((hg t h:Nat):Int):=by unfold hg;omega
 have hcs:=IY hV hL hn hgn;have eE:=zu hV hL hn hgn (fun i _=>yr t L (hg t h) i) hcs;have hrep:=Eg (x:=-1) s2 s3;rw[<-s1]at hrep;unfold kp;rw[Ec hV hL hn,ae,Bool.not_true,cond_false];have hguard:((decide ((h:Int)<0))||(decide ((h:Int)>=(((aj.bg t).l).length:Int))))=false:=by rw[decide_eq_false (show¬(h:Int)<0 by omega),decide_eq_false (by omega)];rfl
 have hloop:=Bc (f:=ko t (dW L) (Sl.mk (bw t.ah.toNat (cB t L (hg t h)))) (Sl.mk (bw t.ah.toNat (rT t L (cB t L (hg t h)) (hg t h)))) (Sl.mk (ak t.ah.toNat (-1)))) (fun i:Nat=>((i:Int),Sl.mk (bw t.ah.toNat fun j=>if j<i then vU t L (cB t L (hg t h)) (hg t h) j else-1))) t.ah.toNat (b:=Sl.mk (bw t.ah.toNat (vU t L (cB t L (hg t h)) (hg t h)))) (fun i hi=>by
  obtain⟨s,q1,q2⟩:=BA hV hL hn (fun i _=>yr t L (hg t h) i) hi;simp only[ko];rw[h_,a_,decide_eq_true (by omega),cond_true,q1,ae,K5 hV hi q2 (by rw[cu]) (by rw[g_ hi,if_neg (by omega)]),ae,ng hi,u4 (by omega)];congr 4;refine gE fun j hj=>?_;by_cases e:j=i
  .rw [if_pos e,if_pos (by omega),e]
  .rw [if_neg e];by_cases e2:j<i
   .rw [if_pos e2,if_pos (by omega)]
   .rw [if_neg e2,if_neg (by omega)]) (by
  simp only[ko];rw[h_,a_,decide_eq_false (by omega),cond_false];congr 2;exact congrArg Sl.mk (gE fun j hj=>if_pos hj))
 have e0:(bw t.ah.toNat fun j=>if j<0 then vU t L (cB t L (hg t h)) (hg t h) j else-1)=ak t.ah.toNat (-1):=List.ext_getElem (by simp[bw]) fun j h1 h2=>by simp[bw]
 have hloop2:aY (ko t (dW L) (Sl.mk (bw t.ah.toNat (cB t L (hg t h)))) (Sl.mk (bw t.ah.toNat (rT t L (cB t L (hg t h)) (hg t h)))) (Sl.mk (ak t.ah.toNat (-1)))) (0,Sl.mk (ak t.ah.toNat (-1)))=some (Sl.mk (bw t.ah.toNat (vU t L (cB t L (hg t h)) (hg t h)))):=by rw[<-e0]at hloop|-;exact hloop
 rw[hguard,cond_false,nV hh,ae,hat,hcs,ae,eE,ae,hrep,ae,hloop2,ae,ae,h_,nV (by rw[cu];exact hgn),ae,ng hgn];rfl
variable{b:Sl Int}(hb:b.l=eh L)(h12:t.bg.l.length<=12)
end
end Go.Proofs.Ytingpmogbibghaa.S
