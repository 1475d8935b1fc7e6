/- Rows that are sorted, equals in their order: what that is, and that it is one row alone. Conditions: as stated. -/
import Derived.Test.YtingpmogbibghaaEvY
open List renaming filter_append->lr,filter_cons->kW,mem_cons->aJ,mem_cons_self->bh,mem_filter->j8,pairwise_cons->jK
open List.cons renaming inj->bT
namespace Go.Ev
structure yL{α:Type}(lt:α->α->Bool):Prop where
 Sg:∀x,lt x x=false
 tr:∀x y z,lt x y=true->lt y z=true->lt x z=true
 QZ:∀x y z,lt x y=false->lt y z=false->lt x z=false
section
variable{α:Type}{lt:α->α->Bool}
def yE(lt:α->α->Bool)(x y:α):Bool:=!lt x y&&!lt y x
def rp(lt:α->α->Bool)(l:List α):Prop:=l.Pairwise fun x y=>lt y x=false
def iE(lt:α->α->Bool)(a b:List α):Prop:=∀x,a.filter (yE lt x)=b.filter (yE lt x)
theorem wO{x y:α}:yE lt x y=true<->lt x y=false/\lt y x=false:=by unfold yE;simp
theorem AF(h:yL lt)(x:α):yE lt x x=true:=wO.2 ⟨h.Sg x,h.Sg x⟩
theorem RJ(h:yL lt){c x y:α}(h1:yE lt c x=true)(h2:yE lt c y=true):yE lt x y=true:=by rw[wO]at*;exact⟨h.QZ _ _ _ h1.2 h2.1,h.QZ _ _ _ h2.2 h1.1⟩
theorem yL.Pz(h:yL lt){x y:α}(h1:lt x y=true):lt y x=false:=by cases h2:lt y x with|false=>rfl|true=>have:=h.tr _ _ _ h1 h2;rw[h.Sg]at this;cases this
theorem yL.SY(h:yL lt){x y z:α}(h1:lt x y=true)(h2:lt z y=false):lt x z=true:=by cases h3:lt x z with|true=>rfl|false=>have:=h.QZ _ _ _ h3 h2;rw[h1]at this;cases this
theorem yL.S4(h:yL lt){x y z:α}(h1:lt y x=false)(h2:lt y z=true):lt x z=true:=by cases h3:lt x z with|true=>rfl|false=>have:=h.QZ _ _ _ h1 h3;rw[h2]at this;cases this
theorem iE.refl(a:List α):iE lt a a:=fun _=>rfl
theorem iE.symm{a b:List α}(h:iE lt a b):iE lt b a:=fun x=>(h x).symm
theorem iE.trans{a b c:List α}(h:iE lt a b)(g:iE lt b c):iE lt a c:=fun x=>(h x).trans (g x)
theorem iE.yJ{a b c d:List α}(h:iE lt a b)(g:iE lt c d):iE lt (a++c) (b++d):=fun x=>by rw[lr,lr,h x,g x]
theorem iE.Bj(hs:yL lt){a b:List α}(h:iE lt a b){x:α}:x∈a<->x∈b:=by
 have key:∀l:List α,x∈l<->x∈l.filter (yE lt x):=fun l=>by simp[j8,AF hs]
 rw[key a,key b,h x]
theorem iE.N5(hs:yL lt){u v:List α}(h:∀x∈u,∀y∈v,yE lt x y=false):iE lt (u++v) (v++u):=fun c=>by
 rw[lr,lr];cases hu:u.filter (yE lt c)with
 |nil=>simp
 |cons x r=>
  have hx:x∈u.filter (yE lt c):=by rw[hu];exact bh
  have hv:v.filter (yE lt c)=[]:=List.filter_eq_nil_iff.2 fun y hy hc=>by have:=h x (j8.1 hx).1 y hy;rw[RJ hs (j8.1 hx).2 hc]at this;cases this
  rw[hv];simp
theorem Lb(h:yL lt):∀{a b:List α},rp lt a->rp lt b->iE lt a b->a=b:=by
 intro a;induction a with
 |nil=>intro b _ _ hs;cases b with|nil=>rfl|cons y b=>have:=(hs.Bj h (x:=y)).2 bh;cases this
 |cons x a ih=>
  intro b ha hb hs;cases b with
  |nil=>have:=(hs.Bj h (x:=x)).1 bh;cases this
  |cons y b=>
   obtain⟨ha1,ha2⟩:=jK.1 ha;obtain⟨hb1,hb2⟩:=jK.1 hb
   have hxy:lt y x=false:=by
    rcases aJ.1 ((hs.Bj h (x:=y)).2 bh)with e|e
    .rw [e];exact h.Sg x
    .exact ha1 y e
   have hyx:lt x y=false:=by
    rcases aJ.1 ((hs.Bj h (x:=x)).1 bh)with e|e
    .rw [e];exact h.Sg y
    .exact hb1 x e
   have hc:=hs x;rw[kW,kW,if_pos (AF h x),if_pos (wO.2 ⟨hyx,hxy⟩)]at hc;obtain rfl:=(bT hc).1;congr 1;refine ih ha2 hb2 fun c=>?_;have hc:=hs c;rw[kW,kW]at hc;split at hc
   .exact (bT hc).2
   .exact hc
theorem rp.yJ{a b:List α}(ha:rp lt a)(hb:rp lt b)(h:∀x∈a,∀y∈b,lt y x=false):rp lt (a++b):=List.pairwise_append.2 ⟨ha,hb,h⟩
theorem rp.xz{a b:List α}(h:rp lt (a++b)):rp lt a/\rp lt b/\∀x∈a,∀y∈b,lt y x=false:=List.pairwise_append.1 h
end
end Go.Ev
