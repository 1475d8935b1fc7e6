/- Rows that are sorted, equals in their order: what that is, and that it is one row alone. Conditions: as stated. -/
import Derived.Test.YtingpmogbibghaaEvY
open List renaming filter_append->L8,mem_filter->RF
namespace Go.Ev
structure NP{α:Type}(lt:α->α->Bool):Prop where
 Pt:∀x,lt x x=false
 tr:∀x y z,lt x y=true->lt y z=true->lt x z=true
 Pn:∀x y z,lt x y=false->lt y z=false->lt x z=false
section
variable{α:Type}{lt:α->α->Bool}
def NU(lt:α->α->Bool)(x y:α):Bool:=!lt x y&&!lt y x
def MK(lt:α->α->Bool)(l:List α):Prop:=l.Pairwise fun x y=>lt y x=false
def LP(lt:α->α->Bool)(a b:List α):Prop:=∀x,a.filter (NU lt x)=b.filter (NU lt x)
theorem ND{x y:α}:NU lt x y=true<->lt x y=false/\lt y x=false:=by unfold NU;simp
theorem Oa(h:NP lt)(x:α):NU lt x x=true:=ND.2 ⟨h.Pt x,h.Pt x⟩
theorem Pr(h:NP lt){c x y:α}(h1:NU lt c x=true)(h2:NU lt c y=true):NU lt x y=true:=by rw[ND]at*;exact⟨h.Pn _ _ _ h1.2 h2.1,h.Pn _ _ _ h2.2 h1.1⟩
theorem NP.O1(h:NP lt){x y:α}(h1:lt x y=true):lt y x=false:=by cases h2:lt y x with|false=>rfl|true=>have:=h.tr _ _ _ h1 h2;rw[h.Pt]at this;cases this
theorem NP.Py(h:NP lt){x y z:α}(h1:lt x y=true)(h2:lt z y=false):lt x z=true:=by cases h3:lt x z with|true=>rfl|false=>have:=h.Pn _ _ _ h3 h2;rw[h1]at this;cases this
theorem NP.Pz(h:NP lt){x y z:α}(h1:lt y x=false)(h2:lt y z=true):lt x z=true:=by cases h3:lt x z with|true=>rfl|false=>have:=h.Pn _ _ _ h1 h3;rw[h2]at this;cases this
theorem LP.refl(a:List α):LP lt a a:=fun _=>rfl
theorem LP.symm{a b:List α}(h:LP lt a b):LP lt b a:=fun x=>(h x).symm
theorem LP.trans{a b c:List α}(h:LP lt a b)(g:LP lt b c):LP lt a c:=fun x=>(h x).trans (g x)
theorem LP.H6{a b c d:List α}(h:LP lt a b)(g:LP lt c d):LP lt (a++c) (b++d):=fun x=>by rw[L8,L8,h x,g x]
theorem LP.Oz(hs:NP lt){a b:List α}(h:LP lt a b){x:α}:x∈a<->x∈b:=by
 have key:∀l:List α,x∈l<->x∈l.filter (NU lt x):=fun l=>by simp[RF,Oa hs]
 rw[key a,key b,h x]
theorem LP.OH(hs:NP lt){u v:List α}(h:∀x∈u,∀y∈v,NU lt x y=false):LP lt (u++v) (v++u):=fun c=>by
 rw[L8,L8];cases hu:u.filter (NU lt c)with
 |nil=>simp
 |cons x r=>
  have hx:x∈u.filter (NU lt c):=by rw[hu];exact List.mem_cons_self
  have hv:v.filter (NU lt c)=[]:=List.filter_eq_nil_iff.2 fun y hy hc=>by have:=h x (RF.1 hx).1 y hy;rw[Pr hs (RF.1 hx).2 hc]at this;cases this
  rw[hv];simp
theorem MK.H6{a b:List α}(ha:MK lt a)(hb:MK lt b)(h:∀x∈a,∀y∈b,lt y x=false):MK lt (a++b):=List.pairwise_append.2 ⟨ha,hb,h⟩
theorem MK.No{a b:List α}(h:MK lt (a++b)):MK lt a/\MK lt b/\∀x∈a,∀y∈b,lt y x=false:=List.pairwise_append.1 h
end
end Go.Ev
