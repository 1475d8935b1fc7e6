/- math.Float64bits of what is a number, math.Float64frombits: functions without a text, by the model's own. Conditions: as stated. -/
import Derived.Test.YtoekkpmeeclpeaaGreatKm
import Derived.Test.YtoekkpmeeclpeaaGreatKr
open Nat renaming beq->gb,eq_of_beq_eq_true->bB,le_refl->am
open Option.some renaming inj->aa
open Prod.mk renaming inj->af
namespace Go.Ev
def pN(n:Nat):Option Int:=bif(FloatKind.f64.format.read n).isNaN then none else some (n:Int)
def qV(n:Int):Option Nat:=some n.toNat
def AK(ro:Bool):iz:=⟨[(false,.x (.f .f64))],[([.x (.i .u64)],[])],ro,[],fun p=>pN p⟩
def AJ(ro:Bool):iz:=⟨[(false,.x (.i .u64))],[([.x (.f .f64)],[])],ro,[],fun p=>qV p⟩
theorem N4{P:Program}{f:FuncId}{fn:Func}{e:Array Value->Sem Value}(hf:P.funcs[f]?=some fn)(hn:(fn.name== "runtime.NumGoroutine")=false)(hb:fn.body.isNone=true)
  (hx:Extern.findNext fn=none) (he:Extern.find fn=some e) {d z:Value} (hz:ez z=true) (h:∀v,rt d v->e #[v]=pure z):xw P f [.d (.lit d)] [.c (.d (.lit z))] []:=by
 intro S w vs fp hS hr hnd hfp hG
 match vs,hr with
 |[v],⟨f1,f2,hfp2,⟨hd,h1⟩,h2⟩=>
  obtain rfl:f1=[]:=h1;obtain rfl:f2=[]:=h2;obtain rfl:fp=[]:=hfp2;have hv:rt d v:=by cases hd with|lit h=>exact .lit h|nan hn hm=>exact .nan hn hm|ex=>exact .ex
  refine .inr ⟨z,?_,S,[z],[],[],rfl,gy.refl _ _,fun b hb=>.inl hb,hS,⟨[],[],rfl,.d (.lit hz),rfl⟩,rfl,List.nodup_nil,fun b hb=>(by cases hb),⟨fun b hb=>hb.1,fun _ _=>rfl,am _,fun _ _=>rfl,fun b aG ho=>⟨aG,ho,rfl⟩,⟨rfl,rfl,rfl,am _⟩⟩⟩;have hn':fn.name≠ "runtime.NumGoroutine" :=by simpa using hn
  have hb':fn.body=none:=by simpa using hb
  simp[callFunc,hf,hn',hb',hx,he,h v hv]
def FZ(P:Program)(f:Nat):Bool:=match P.funcs[f]?with
 |some fn=>!(fn.name== "runtime.NumGoroutine")&&fn.body.isNone&&(Extern.findNext fn).isNone
 |none=>false
def FY(P:Program)(f:Nat):Option (Array Value->Sem Value):=match P.funcs[f]?with
 |some fn=>Extern.find fn
 |none=>none
theorem Cp{P:Program}{f:FuncId}{e:Array Value->Sem Value}(h1:FZ P f=true)(h2:FY P f=some e){d z:Value}(hz:ez z=true)(h:∀v,rt d v->e #[v]=pure z):xw P f [.d (.lit d)] [.c (.d (.lit z))] []:=by
 unfold FZ at h1;unfold FY at h2;split at h1
 .rename_i fn hf;rw[hf]at h2;simp only[Bool.and_eq_true,Bool.not_eq_true',Option.isNone_iff_eq_none]at h1;exact N4 hf h1.1.1 (by simp[h1.1.2]) h1.2 h2 hz h
 .cases h1
theorem xa{P:Program}{f:FuncId}(h1:FZ P f=true)(h2:FY P f=some Extern.MathFloatBits.float64bits){p:Nat}{z:Int}(hz:pN p=some z):xw P f [.d (.lit (.float .f64 p))] [.c (.d (.lit (.int .u64 z)))] []:=by
 unfold pN at hz;cases hc:(FloatKind.f64.format.read p).isNaN with
 |true=>rw[hc]at hz;cases hz
 |false=>rw[hc]at hz;obtain rfl:=aa hz;refine Cp h1 h2 (d:=.float .f64 p) (z:=.int .u64 (p:Int)) rfl fun v hv=>?_;cases hv with|lit _=>rfl|nan h3 _=>exact absurd h3 (by unfold yI;rw[hc];simp)
theorem HY{P:Program}{f:FuncId}{ro:Bool}(h1:FZ P f=true)(h2:FY P f=some Extern.MathFloatBits.float64bits):bw P f (AK ro):=by exact⟨by cases ro<;>rfl,fun p z hz=>xa h1 h2 hz⟩
theorem w_{P:Program}{f:FuncId}(h1:FZ P f=true)(h2:FY P f=some Extern.MathFloatBits.float64frombits)(p:Int):xw P f [.d (.lit (.int .u64 p))] [.c (.d (.lit (.float .f64 p.toNat)))] []:=by refine Cp h1 h2 rfl fun v hv=>?_;cases hv with|lit _=>rfl
theorem HX{P:Program}{f:FuncId}{ro:Bool}(h1:FZ P f=true)(h2:FY P f=some Extern.MathFloatBits.float64frombits):bw P f (AJ ro):=by refine⟨by cases ro<;>rfl,fun p z hz=>?_⟩;obtain rfl:=aa (show some p.toNat=some z from hz);exact w_ h1 h2 p
def YF(a b:Nat):Call:=fun f as=>
 bif gb f a then(match as with
  |[.d (.lit (.float .f64 n))]=>(match pN n with|some z=>some ([.c (.d (.lit (.int .u64 z)))],[])|none=>none)
  |_=>none)
 else bif gb f b then(match as with
  |[.d (.lit (.int .u64 n))]=>some ([.c (.d (.lit (.float .f64 n.toNat)))],[])
  |_=>none)
 else none
theorem Td{P:Program}{a b:Nat}(h1:FZ P a=true)(h2:FY P a=some Extern.MathFloatBits.float64bits)(h3:FZ P b=true)(h4:FY P b=some Extern.MathFloatBits.float64frombits):fg P (YF a b):=by
 intro f as rs outs h;unfold YF at h;cases ha:gb f a with
 |true=>
  rw[ha,cond_true]at h;obtain rfl:=bB ha;split at h
  .split at h
   .rename_i z hz;obtain⟨rfl,rfl⟩:=af (aa h);exact xa h1 h2 hz
   .cases h
  .cases h
 |false=>
  rw[ha,cond_false]at h;cases hc:gb f b with
  |true=>
   rw[hc,cond_true]at h;obtain rfl:=bB hc;split at h
   .obtain ⟨rfl,rfl⟩:=af (aa h);exact w_ h3 h4 _
   .cases h
  |false=>rw[hc,cond_false]at h;cases h
end Go.Ev
