/- Steps and trees: both tell the same. Conditions: a topology and weights that may be. -/
import Derived.Test.YtingpmogbibghaaSE
open List renaming replicate->ak
open Nat renaming le_trans->bt
open Option renaming bind_some->ae
open Go.Ev Go Go.Fl Go.Ways
namespace Go.Proofs.Ytingpmogbibghaa.S
section
variable{t:aj}{L:List Nat}(hV:lF t)(hL:L.length=t.aP.l.length)(hn:∀x∈L,nn x)
def rT(t:aj)(L:List Nat)(c:Nat->Nat)(g:Nat):Nat->Int:=j5 (iF t L) c g (t.ah.toNat-1)
theorem Ic{n g:Nat}(hg:g<n){E:Nat->List (Nat×Nat)}{c:Nat->Nat}:(ak n (-1:Int)).set g 0=bw n (j5 E c g 0):=by
 have e1:ak n (-1:Int)=bw n (fun _=>(-1:Int)):=List.ext_getElem (by simp[bw]) fun j h1 h2=>by simp[bw]
 rw[e1,ng hg];rfl
include hV hL hn in
theorem zu{g:Nat}(hg:g<t.ah.toNat){c:Nat->Nat}(hc:∀i,i<t.ah.toNat->c i<=oK)(hcosts:gD t (dW L) (g:Int)=some (Sl.mk (bw t.ah.toNat c))):
  kc t (dW L) (g:Int)=some (Sl.mk (bw t.ah.toNat (rT t L c g))):=by
 obtain⟨s1,s2,s3⟩:=l_ hV;unfold kc;have hrep:=Eg (x:=-1) s2 s3;rw[<-s1]at hrep;obtain⟨K,k1,k2⟩:=Gz hV hL hn (g:=g) hc;have hnil:(Sl.mk (bw t.ah.toNat c):Sl Nat).fT=false:=rfl;rw[hcosts,ae,hnil,cond_false,hrep,ae,h_,nV (by rw[List.length_replicate];exact hg),ae,Ic hg (E:=iF t L) (c:=c),k1,ae];congr 1;exact congrArg Sl.mk (gE fun i hi=>Ml (wJ hV L) k2 hi)
variable{c:Nat->Nat}(hc:∀i,i<t.ah.toNat->c i<=oK){b:Sl Int}(hb:b.l=eh L){g:Nat}
def vU(t:aj)(L:List Nat)(c:Nat->Nat)(g i:Nat):Int:=match(fU t (i:Int)).find? (fun x=>jU (iF t L) c i (ed L x)&&(rT t L c g x.To.toNat+1==rT t L c g i))with|some x=>x.f_|none=>-1
theorem Fu{i:Nat}:(vz t L c i).find? (fun x=>rT t L c g x.To.toNat==rT t L c g i-1)=(fU t (i:Int)).find? (fun x=>jU (iF t L) c i (ed L x)&&(rT t L c g x.To.toNat+1==rT t L c g i)):=by
 unfold vz;rw[List.find?_filter];congr 1;funext x;rw[Bool.eq_iff_iff];simp only[decide_eq_true_eq,Bool.and_eq_true,beq_iff_eq];constructor
 .rintro ⟨a,b⟩;exact⟨a,by omega⟩
 .rintro ⟨a,b⟩;exact⟨a,by omega⟩
include hV in
theorem K5{i:Nat}(hi:i<t.ah.toNat){s:Sl aE}(hs:s.l=vz t L c i){z:List Int}(hz:z.length=t.ah.toNat)(hzi:gt z i=-1):
  aY (jj (Sl.mk (bw t.ah.toNat (rT t L c g))) (i:Int) s) (0,Sl.mk z)=some (Sl.mk (z.set i (vU t L c g i))):=by
 have hlen:s.l.length<=8:=by rw[hs];exact bt (List.length_filter_le _ _) (bt (List.length_filterMap_le _ _) (by simp))
 have hfr:=th (E:=iF t L) (c:=c) (g:=g) (t.ah.toNat-1) i;have h8:=l_ hV;have hw:wr .i64 (rT t L c g i-1)=rT t L c g i-1:=vR (by unfold rT;omega) (by unfold rT;omega)
 have key:∀(R A:List aE),s.l=A++R->aY (jj (Sl.mk (bw t.ah.toNat (rT t L c g))) (i:Int) s) ((A.length:Int),Sl.mk z)=some (match R.find? (fun x=>rT t L c g x.To.toNat==rT t L c g i-1)with|some x=>Sl.mk (z.set i x.f_)|none=>Sl.mk z):=by
  intro R;induction R with
  |nil=>intro A e;refine bH ?_;simp only[jj];rw[decide_eq_false (by rw[e];simp),cond_false];rfl
  |cons x R ih=>
   intro A e;have hj:A.length<s.l.length:=by rw[e];simp
   have hx:gt s.l A.length=x:=by rw[e];exact tH
   have hxm:x∈fU t (i:Int):=by
    have:x∈vz t L c i:=by rw[<-hs,e];simp
    exact(List.mem_filter.1 this).1
   obtain⟨k1,k2,k3,k4,k5⟩:=nk hV hxm;have hto:x.To.toNat<t.ah.toNat:=by omega
   have i1:cZ (aE.To x) (bw t.ah.toNat (rT t L c g)).length=some x.To.toNat:=eC.2 ⟨by show x.To=_;omega,by rw[cu];exact hto⟩;rw[List.find?_cons];cases hb2:(rT t L c g x.To.toNat==rT t L c g i-1)with|true=>refine bH ?_;simp only[jj];rw[decide_eq_true (by omega),cond_true,nV hj,ae,hx,h_,i1,ae,nV (by rw[cu];exact hi),ae,g_ hto,g_ hi,hw,hb2,cond_true,h_,nV (by omega),ae]|false=>refine(cz (a':=(((A++[x]).length:Int),Sl.mk z)) ?_).trans (ih (A++[x]) (by rw[e];simp));simp only[jj];rw[decide_eq_true (by omega),cond_true,nV hj,ae,hx,h_,i1,ae,nV (by rw[cu];exact hi),ae,g_ hto,g_ hi,hw,hb2,cond_false,u4 (by omega),List.length_append];rfl
 have:=key s.l [] rfl;rw[hs,Fu]at this;have e0:aY (jj (Sl.mk (bw t.ah.toNat (rT t L c g))) (i:Int) s) (0,Sl.mk z)=_:=this;rw[e0];unfold vU;congr 1;cases(fU t (i:Int)).find? (fun x=>jU (iF t L) c i (ed L x)&&(rT t L c g x.To.toNat+1==rT t L c g i))with|some x=>rfl|none=>show Sl.mk z=Sl.mk (z.set i (-1));congr 1;rw[<-hzi,oM (by omega),List.set_getElem_self]
def PP(t:aj)(L:List Nat)(c:Nat->Nat)(g:Nat)(p:Int)(i:Nat):Int:=if i=g then p else vU t L c g i
variable{h:Nat}(hh:h<t.bg.l.length)
theorem IJ(hV:lF t){h:Nat}(hh:h<t.bg.l.length):0<=(gt t.bg.l h).At/\(gt t.bg.l h).At<t.ah/\0<=(gt t.bg.l h).f_/\(gt t.bg.l h).f_<8:=by have hp:=hV.iK ⟨(gt t.bg.l h).At,(gt t.bg.l h).f_⟩ (by rw[mC];exact List.mem_append_right _ (List.mem_flatMap.2 ⟨gt t.bg.l h,mP hh,by simp[wL]⟩));exact⟨hp.1.1,hp.1.2,hp.2.1,hp.2.2⟩
end
end Go.Proofs.Ytingpmogbibghaa.S
