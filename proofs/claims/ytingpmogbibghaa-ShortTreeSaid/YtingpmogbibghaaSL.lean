/- Ways over links: what Walk adds up is no less than the cost. The law ShortBest. Conditions: words of 64 bits. -/
import Derived.Test.YtingpmogbibghaaSI
import Derived.Test.YtingpmogbibghaaSx
open List renaming getElem?_eq_getElem->aB,getElem_mem->ij
open Nat renaming zero_le->eQ
open Go.Ev Go Go.Fl Go.Ways
namespace Go.Proofs.Ytingpmogbibghaa.S
inductive Zs(t:aj):Nat->List Int->Nat->Prop
 |nil (i:Nat):Zs t i [] i
 |cons {i g:Nat} {ls:List Int} {x:aE} (hx:x∈fU t (i:Int)) (h:Zs t x.To.toNat ls g):Zs t i (x.iI::ls) g
def Zg(L:List Nat)(ls:List Int):Nat:=ls.foldr (fun l s=>P (wt L l) s) 0
theorem Zc(L:List Nat)(ls:List Int):Zg L ls<=oK:=by cases ls with|nil=>exact eQ _|cons l ls=>exact R8
theorem Zt{n:Nat}(h:nn n):¬yl .f64 n:=fun h2=>by unfold yl at h2;rw[ua,mq h]at h2;cases h2
section
variable{t:aj}{L:List Nat}(hV:lF t)(hL:L.length=t.aP.l.length)(hn:∀x∈L,nn x)
include hV
include hL hn
theorem Ze{g:Nat}(hg:g<t.ah.toNat):cB t L g g=0/\(∀i,i<t.ah.toNat->∀e∈iF t L i,cB t L g i<=P e.2 (cB t L g e.1))/\∃cl,(∀x∈cl,x<t.ah.toNat)/\∀i,i<t.ah.toNat->cB t L g i<oK->Tp (iF t L) g (cB t L g) cl i:=by
 obtain⟨cl,ez,h1,hd⟩:=Hu hV hL hn hg;have hE:=wJ hV L;have hf:=hd.rO hE;have hp:=hd.GM;rw[List.append_nil]at hp;have hcl:∀x∈cl,x<t.ah.toNat:=fun x hx=>List.mem_range.1 (hp.mem_iff.1 hx);refine⟨by rw[cB,<-hf.1 g hg];exact hd.g0,fun i hi e he=>?_,cl,hcl,fun i hi hlt=>?_⟩
 .have h2:=hd.ZB hE i hi e he;rw[hf.1 i hi,hf.1 _ (hE.lt i hi e he)]at h2;exact h2
 .exact (hf.2 i hi (by rw[hf.1 i hi];exact hlt)).nz (fun c hc=>(hf.1 c (hcl c hc)).symm) (fun _ h=>h) (hf.1 i hi).symm
omit hV hL in
theorem Qs:ZV o3 L (fun s=>s<=oK)where
 zero:=eQ _
 ZU:=fun s h=>Zt (qC h)
 ZJ:=fun j hj=>Zt (hn _ (by rw[aB hj];exact ij hj))
 nW:=fun s j hs hj=>by refine⟨_,En (hn _ ?_) hs,R8⟩;rw[aB hj];exact ij hj
omit hV in
theorem Yb{ls:Sl Int}(hr:∀l∈ls.l,0<=l/\l<t.aP.l.length)(hlen:ls.l.length<=100):Y3 (dW L) ls=some (Zg L ls.l):=by
 unfold Y3 Zf;have hc:∀j,j<ls.l.length->∃m:Nat,ls.l[j]?.getD 0=(m:Int)/\m<L.length:=fun j hj=>by have hx:=hr ls.l[j] (ij hj);exact⟨ls.l[j].toNat,by rw[aB hj];show ls.l[j]=_;omega,by omega⟩
 rw[rF,if_pos ⟨⟨_,Qs hn⟩,hc,by omega⟩];congr 1;clear hc hlen;unfold Zg;generalize ls.l=l at hr;induction l with
 |nil=>rfl
 |cons x l ih=>
  have hx:=hr x (List.mem_cons_self);have ih:=ih (fun y hy=>hr y (List.mem_cons_of_mem _ hy));rw[List.foldr_cons,List.foldr_cons,ih];have h1:x.toNat<L.length:=by omega
  have h2:L[x.toNat]?.getD 0=gt L x.toNat:=by unfold gt;rw[List.getD_eq_getElem?_getD];rfl
  have h3:=En (hn _ (mP h1)) (Zc L l);unfold Zg at h3;unfold DC;rw[h2,h3];rfl
end
end Go.Proofs.Ytingpmogbibghaa.S
