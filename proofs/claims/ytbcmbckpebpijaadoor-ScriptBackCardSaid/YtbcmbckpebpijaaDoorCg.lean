/- The package-level variables, as the rows say them. Conditions: as stated. -/
import Derived.Test.YtbcmbckpebpijaaDoorCl
import Derived.Test.YtbcmbckpebpijaaDoorCards
import Derived.Lib.LaidTab
open Array renaming getElem?_eq_some_iff->aP
open List renaming mem_of_getElem?->aT
open Option.some renaming inj->aa
open Go.Ev Go
open Go.ChangeShapes Go.WideShapes Go.ChangeAt Go.RowKit
namespace Go.Proofs.YtbcmbckpebpijaaDoor.C
def Lb(W:World)(n:String)(d:DataW Unit):Prop:=∃g t cs fuel p,Tryd.prog.globalNamed n=some g/\(Tryd.prog.globals[g]?).map (·.type)=some t/\W.var? Tryd.prog n=some cs/\DataW.trod (fun _=>()) Tryd.prog W 0 (fun _=>true) false fuel t cs.toList=some (d,p)
theorem oI{W:World}:∀{l:List (String×DataW Unit)}{ps:List MemPlace},DataW.LaidVars Tryd.prog W l ps->∀n d,(n,d)∈l->Lb W n d
 |[],_,_,_,_,hm=>by cases hm
 |(n',d')::r,ps,h,n,d,hm=>by
  obtain⟨g,t,cs,fuel,p,q,h1,h2,h3,h4,h5,_⟩:=h;rcases List.mem_cons.1 hm with e|e
  .cases e;exact⟨g,t,cs,fuel,p,h1,h2,h3,h4⟩
  .exact oI h5 n d e
theorem uJ{W:World}{n:String}{g:Nat}{cs:Array Value}(hg:Tryd.prog.globalNamed n=some g)(h:W.var? Tryd.prog n=some cs):∃t fz,W.heap[g]?=some (.cells cs t fz):=by
 unfold World.var? at h;rw[hg]at h;simp only[Option.bind_some]at h;split at h
 .rename_i c t fz hc;obtain rfl:=aa h;exact⟨t,fz,hc⟩
 .cases h
theorem Hy{W:World}{n:String}(hn:Tryd.prog.globalNamed n=some 1)(h:Lb W n Rows.laid_internal_strconv_uint64pow10):∃t fz,W.heap[1]?=some (.cells (Lib.pow10Tab.map fun z=>Value.int .u64 z).toArray t fz):=by
 obtain⟨g,t,cs,fuel,p,hg,ht,hvar,hd⟩:=h;have hy:(Tryd.prog.globals[1]?).map (·.type)=some 97:=by kernel_rfl
 obtain rfl:=aa (hn.symm.trans hg);obtain rfl:=aa (hy.symm.trans ht);have hc:=Lib.cells_of_tab (zs:=Lib.pow10Tab) Tryd.underlying97 Tryd.underlying81 (by kernel_rfl) (by kernel_rfl) hd;obtain⟨t,fz,hb⟩:=uJ hn hvar;refine⟨t,fz,?_⟩;rw[hb];congr 2;rw[<-hc]
set_option maxRecDepth 100000 in
theorem Cj{W:World}{n:String}{g:Nat}{nm:String}{d:DataW Unit}(hn:Tryd.prog.globalNamed n=some g)(hy:(Tryd.prog.globals[g]?).map (·.type)=some 62)(h:Lb W n (.iface nm d)):∃v,W.cell? ⟨g,0,none⟩=some v/\AU v=true/\g<W.heap.size:=by
 obtain⟨g',t,cs,fuel,p,hg,ht,hvar,hd⟩:=h;obtain rfl:=aa (hn.symm.trans hg);obtain rfl:=aa (hy.symm.trans ht);obtain⟨t,fz,hb⟩:=uJ hn hvar;have hlt:=(aP.1 hb).1;cases fuel with
 |zero=>unfold DataW.trod at hd;cases hd
 |succ fuel=>
  rw[DataW.trod.eq_def]at hd;simp only[Tryd.underlying62]at hd
  have hc:∃v,cs.toList=[v]/\AU v=true:=by
   generalize cs.toList=l at hd
   split at hd<;>first
    |(rename_i e;cases e;done)
    |exact⟨_,rfl,rfl⟩
    |cases hd
    |(rename_i e _;cases e;done)
  obtain⟨v,hv,hi⟩:=hc;refine⟨v,?_,hi,hlt⟩;simp only[World.cell?,hb];have:cs[0]?=cs.toList[0]?:=by simp
  rw[hv]at this;simpa using this
theorem FU{W:World}(h:laidMetH Tryd.prog Rows.scriptTellsRow.laid W):ph (S0 W) W:=by
 have h:laidMet Tryd.prog Rows.scriptTellsRow.laid W:=h;obtain⟨ps,hv,_⟩:=h;have hp:=Hy (by kernel_rfl) (oI hv _ Rows.laid_internal_strconv_uint64pow10 (aT (i:=2) rfl));have hs:=Cj (g:=2) (by kernel_rfl) (by kernel_rfl) (oI hv _ Rows.laid_strconv_ErrSyntax (aT (i:=5) rfl));have hr:=Cj (g:=3) (by kernel_rfl) (by kernel_rfl) (oI hv _ Rows.laid_strconv_ErrRange (aT (i:=4) rfl))
 have key:∀{g:Nat},(∃v,W.cell? ⟨g,0,none⟩=some v/\AU v=true/\g<W.heap.size)->RD (S0 W) W (.pt [.lit (.complex .f32 0 1)]) (.pointer (some ⟨g,0,none⟩)):=fun{g}⟨v,h1,h2,h3⟩=>by
  refine .pt (fun _=>v) h3 (fun j x hx=>?_) (fun j x hx=>?_)
  .cases j with|zero=>exact h1|succ j=>simp at hx
  .cases j with|zero=>obtain rfl:=aa hx;exact .jk h2|succ j=>simp at hx
 intro g;refine⟨fun d hd=>?_,fun cs hc=>?_⟩
 .unfold Lo at hd;split at hd
  .rename_i e;obtain rfl:=aa hd;rw[e];exact key hs
  .split at hd
   .rename_i _ e;obtain rfl:=aa hd;rw[e];exact key hr
   .cases hd
 .unfold Nz at hc;split at hc
  .rename_i e;obtain rfl:=aa hc;rw[e];obtain⟨t,fz,hb⟩:=hp;exact⟨(aP.1 hb).1,t,fz,hb⟩
  .cases hc
end Go.Proofs.YtbcmbckpebpijaaDoor.C
