/- math.Float64bits of what is a number, math.Float64frombits: functions without a text, by the model's own. Conditions: as stated. -/
import Derived.Test.YtingpmogbibghaaKm
import Derived.Test.YtingpmogbibghaaEvW
open Nat renaming le_refl->am
open Option.some renaming inj->aa
namespace Go.Ev
def ou(n:Nat):Option Int:=bif(FloatKind.f64.format.read n).isNaN then none else some (n:Int)
def p_(n:Int):Option Nat:=some n.toNat
def Av(ro:Bool):kD:=⟨[(false,.x (.f .f64))],[([.x (.i .u64)],[])],ro,[],fun p=>ou p⟩
def Au(ro:Bool):kD:=⟨[(false,.x (.i .u64))],[([.x (.f .f64)],[])],ro,[],fun p=>p_ p⟩
theorem MX{P:Program}{f:FuncId}{fn:Func}{e:Array Value->Sem Value}(hf:P.funcs[f]?=some fn)(hn:(fn.name== "runtime.NumGoroutine")=false)(hb:fn.body.isNone=true)
  (hx:Extern.findNext fn=none) (he:Extern.find fn=some e) {d z:Value} (hz:fg z=true) (h:∀v,rK d v->e #[v]=pure z):AW P f [.d (.lit d)] [.c (.d (.lit z))] []:=by
 intro S w vs fp hS hr hnd hfp hG
 match vs,hr with
 |[v],⟨f1,f2,hfp2,⟨hd,h1⟩,h2⟩=>
  obtain rfl:f1=[]:=h1;obtain rfl:f2=[]:=h2;obtain rfl:fp=[]:=hfp2;have hv:rK d v:=by cases hd with|lit h=>exact .lit h|nan hn hm=>exact .nan hn hm|ex=>exact .ex
  refine .inr ⟨z,?_,S,[z],[],[],rfl,ia.refl _ _,fun b hb=>.inl hb,hS,⟨[],[],rfl,.d (.lit hz),rfl⟩,rfl,List.nodup_nil,fun b hb=>(by cases hb),⟨fun b hb=>hb.1,fun _ _=>rfl,am _,fun _ _=>rfl,fun b aL ho=>⟨aL,ho,rfl⟩,⟨rfl,rfl,rfl,am _⟩⟩⟩;have hn':fn.name≠ "runtime.NumGoroutine" :=by simpa using hn
  have hb':fn.body=none:=by simpa using hb
  simp[callFunc,hf,hn',hb',hx,he,h v hv]
def Kj(P:Program)(f:Nat):Bool:=match P.funcs[f]?with
 |some fn=>!(fn.name== "runtime.NumGoroutine")&&fn.body.isNone&&(Extern.findNext fn).isNone
 |none=>false
def Ki(P:Program)(f:Nat):Option (Array Value->Sem Value):=match P.funcs[f]?with
 |some fn=>Extern.find fn
 |none=>none
theorem B9{P:Program}{f:FuncId}{e:Array Value->Sem Value}(h1:Kj P f=true)(h2:Ki P f=some e){d z:Value}(hz:fg z=true)(h:∀v,rK d v->e #[v]=pure z):AW P f [.d (.lit d)] [.c (.d (.lit z))] []:=by
 unfold Kj at h1;unfold Ki at h2;split at h1
 .rename_i fn hf;rw[hf]at h2;simp only[Bool.and_eq_true,Bool.not_eq_true',Option.isNone_iff_eq_none]at h1;exact MX hf h1.1.1 (by simp[h1.1.2]) h1.2 h2 hz h
 .cases h1
theorem Df{P:Program}{f:FuncId}(h1:Kj P f=true)(h2:Ki P f=some Extern.MathFloatBits.float64bits){p:Nat}{z:Int}(hz:ou p=some z):AW P f [.d (.lit (.float .f64 p))] [.c (.d (.lit (.int .u64 z)))] []:=by
 unfold ou at hz;cases hc:(FloatKind.f64.format.read p).isNaN with
 |true=>rw[hc]at hz;cases hz
 |false=>rw[hc]at hz;obtain rfl:=aa hz;refine B9 h1 h2 (d:=.float .f64 p) (z:=.int .u64 (p:Int)) rfl fun v hv=>?_;cases hv with|lit _=>rfl|nan h3 _=>exact absurd h3 (by unfold yl;rw[hc];simp)
theorem Hm{P:Program}{f:FuncId}{ro:Bool}(h1:Kj P f=true)(h2:Ki P f=some Extern.MathFloatBits.float64bits):cm P f (Av ro):=by exact⟨by cases ro<;>rfl,fun p z hz=>Df h1 h2 hz⟩
theorem De{P:Program}{f:FuncId}(h1:Kj P f=true)(h2:Ki P f=some Extern.MathFloatBits.float64frombits)(p:Int):AW P f [.d (.lit (.int .u64 p))] [.c (.d (.lit (.float .f64 p.toNat)))] []:=by refine B9 h1 h2 rfl fun v hv=>?_;cases hv with|lit _=>rfl
theorem Hl{P:Program}{f:FuncId}{ro:Bool}(h1:Kj P f=true)(h2:Ki P f=some Extern.MathFloatBits.float64frombits):cm P f (Au ro):=by refine⟨by cases ro<;>rfl,fun p z hz=>?_⟩;obtain rfl:=aa (show some p.toNat=some z from hz);exact De h1 h2 p
end Go.Ev
