/- Rows that are sorted, equals in their order: what that is, and that it is one row alone. Conditions: as stated. -/
import Derived.Test.YtoekkpmeeclpeaaGreatEvY
open List renaming filter_append->ky,filter_cons->me,mem_cons->aW,mem_cons_self->bC,mem_filter->jl,pairwise_cons->fW
open List.cons renaming inj->cj
namespace Go.Ev
structure za{α:Type}(lt:α->α->Bool):Prop where
 T_:∀x,lt x x=false
 tr:∀x y z,lt x y=true->lt y z=true->lt x z=true
 SK:∀x y z,lt x y=false->lt y z=false->lt x z=false
section
variable{α:Type}{lt:α->α->Bool}
def yW(lt:α->α->Bool)(x y:α):Bool:=!lt x y&&!lt y x
def re(lt:α->α->Bool)(l:List α):Prop:=l.Pairwise fun x y=>lt y x=false
def hN(lt:α->α->Bool)(a b:List α):Prop:=∀x,a.filter (yW lt x)=b.filter (yW lt x)
theorem xh{x y:α}:yW lt x y=true<->lt x y=false/\lt y x=false:=by unfold yW;simp
theorem AX(h:za lt)(x:α):yW lt x x=true:=xh.2 ⟨h.T_ x,h.T_ x⟩
theorem TD(h:za lt){c x y:α}(h1:yW lt c x=true)(h2:yW lt c y=true):yW lt x y=true:=by rw[xh]at*;exact⟨h.SK _ _ _ h1.2 h2.1,h.SK _ _ _ h2.2 h1.1⟩
theorem za.QT(h:za lt){x y:α}(h1:lt x y=true):lt y x=false:=by cases h2:lt y x with|false=>rfl|true=>have:=h.tr _ _ _ h1 h2;rw[h.T_]at this;cases this
theorem za.UO(h:za lt){x y z:α}(h1:lt x y=true)(h2:lt z y=false):lt x z=true:=by cases h3:lt x z with|true=>rfl|false=>have:=h.SK _ _ _ h3 h2;rw[h1]at this;cases this
theorem za.UQ(h:za lt){x y z:α}(h1:lt y x=false)(h2:lt y z=true):lt x z=true:=by cases h3:lt x z with|true=>rfl|false=>have:=h.SK _ _ _ h1 h3;rw[h2]at this;cases this
theorem hN.refl(a:List α):hN lt a a:=fun _=>rfl
theorem hN.symm{a b:List α}(h:hN lt a b):hN lt b a:=fun x=>(h x).symm
theorem hN.trans{a b c:List α}(h:hN lt a b)(g:hN lt b c):hN lt a c:=fun x=>(h x).trans (g x)
theorem hN.yZ{a b c d:List α}(h:hN lt a b)(g:hN lt c d):hN lt (a++c) (b++d):=fun x=>by rw[ky,ky,h x,g x]
theorem hN.xW(hs:za lt){a b:List α}(h:hN lt a b){x:α}:x∈a<->x∈b:=by
 have key:∀l:List α,x∈l<->x∈l.filter (yW lt x):=fun l=>by simp[jl,AX hs]
 rw[key a,key b,h x]
theorem hN.Pq(hs:za lt){u v:List α}(h:∀x∈u,∀y∈v,yW lt x y=false):hN lt (u++v) (v++u):=fun c=>by
 rw[ky,ky];cases hu:u.filter (yW lt c)with
 |nil=>simp
 |cons x r=>
  have hx:x∈u.filter (yW lt c):=by rw[hu];exact bC
  have hv:v.filter (yW lt c)=[]:=List.filter_eq_nil_iff.2 fun y hy hc=>by have:=h x (jl.1 hx).1 y hy;rw[TD hs (jl.1 hx).2 hc]at this;cases this
  rw[hv];simp
theorem Mb(h:za lt):∀{a b:List α},re lt a->re lt b->hN lt a b->a=b:=by
 intro a;induction a with
 |nil=>intro b _ _ hs;cases b with|nil=>rfl|cons y b=>have:=(hs.xW h (x:=y)).2 bC;cases this
 |cons x a ih=>
  intro b ha hb hs;cases b with
  |nil=>have:=(hs.xW h (x:=x)).1 bC;cases this
  |cons y b=>
   obtain⟨ha1,ha2⟩:=fW.1 ha;obtain⟨hb1,hb2⟩:=fW.1 hb
   have hxy:lt y x=false:=by
    rcases aW.1 ((hs.xW h (x:=y)).2 bC)with e|e
    .rw [e];exact h.T_ x
    .exact ha1 y e
   have hyx:lt x y=false:=by
    rcases aW.1 ((hs.xW h (x:=x)).1 bC)with e|e
    .rw [e];exact h.T_ y
    .exact hb1 x e
   have hc:=hs x;rw[me,me,if_pos (AX h x),if_pos (xh.2 ⟨hyx,hxy⟩)]at hc;obtain rfl:=(cj hc).1;congr 1;refine ih ha2 hb2 fun c=>?_;have hc:=hs c;rw[me,me]at hc;split at hc
   .exact (cj hc).2
   .exact hc
theorem re.yZ{a b:List α}(ha:re lt a)(hb:re lt b)(h:∀x∈a,∀y∈b,lt y x=false):re lt (a++b):=List.pairwise_append.2 ⟨ha,hb,h⟩
theorem re.xS{a b:List α}(h:re lt (a++b)):re lt a/\re lt b/\∀x∈a,∀y∈b,lt y x=false:=List.pairwise_append.1 h
end
end Go.Ev
