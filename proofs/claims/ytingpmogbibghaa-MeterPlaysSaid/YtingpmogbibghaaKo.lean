/- math.Float64bits of what is a number, math.Float64frombits: functions without a text, by the model's own. Conditions: as stated. -/
import Derived.Test.YtingpmogbibghaaKm
import Derived.Test.YtingpmogbibghaaKr
open Ieee.Format renaming read->fZ
open Nat renaming beq->eL,eq_of_beq_eq_true->br,le_refl->ai
open Option.some renaming inj->aa
open Prod.mk renaming inj->ad
namespace Go.Ev
theorem GY{m:Nat}(h:nH .f64 m):9218868437227405312<m %9223372036854775808:=by
 unfold nH fZ at h;have h:(Ieee.Datum.isNaN (if m %9223372036854775808<4503599627370496 then _ else if m %9223372036854775808<9218868437227405312 then _ else if m %9223372036854775808=9218868437227405312 then _ else _))=true:=h;split at h
 .cases h
 split at h
 .cases h
 split at h
 .cases h
 omega
def mN(n:Nat):Option Int:=bif(FloatKind.f64.format.read n).isNaN then none else some (n:Int)
def lJ(n:Int):Option Nat:=some n.toNat
def re(ro:Bool):pE:=⟨[(false,.x (.f .f64))],[([.x (.i .u64)],[])],ro,[],fun p=>mN p⟩
def rb(ro:Bool):pE:=⟨[(false,.x (.i .u64))],[([.x (.f .f64)],[])],ro,[],fun p=>lJ p⟩
theorem De{P:Program}{f:FuncId}{fn:Func}{e:Array Value->Sem Value}(hf:P.funcs[f]?=some fn)(hn:(fn.name== "runtime.NumGoroutine")=false)(hb:fn.body.isNone=true)
  (hx:Extern.findNext fn=none) (he:Extern.find fn=some e) {d z:Value} (hz:cO z=true) (h:∀v,kK d v->e #[v]=pure z):ow P f [.d (.lit d)] [.c (.d (.lit z))] []:=by
 intro S w vs fp hS hr hnd hfp hG
 match vs,hr with
 |[v],⟨f1,f2,hfp2,⟨hd,h1⟩,h2⟩=>
  obtain rfl:f1=[]:=h1;obtain rfl:f2=[]:=h2;obtain rfl:fp=[]:=hfp2;have hv:kK d v:=by cases hd with|lit h=>exact .lit h|nan hn hm=>exact .nan hn hm|ex=>exact .ex
  refine .inr ⟨z,?_,S,[z],[],[],rfl,WJ.refl _ _,fun b hb=>.inl hb,hS,⟨[],[],rfl,.d (.lit hz),rfl⟩,rfl,List.nodup_nil,fun b hb=>(by cases hb),⟨fun b hb=>hb.1,fun _ _=>rfl,ai _,fun _ _=>rfl,fun b aB ho=>⟨aB,ho,rfl⟩,⟨rfl,rfl,rfl,ai _⟩⟩⟩;have hn':fn.name≠ "runtime.NumGoroutine" :=by simpa using hn
  have hb':fn.body=none:=by simpa using hb
  simp[callFunc,hf,hn',hb',hx,he,h v hv]
def uc(P:Program)(f:Nat):Bool:=match P.funcs[f]?with
 |some fn=>!(fn.name== "runtime.NumGoroutine")&&fn.body.isNone&&(Extern.findNext fn).isNone
 |none=>false
def ub(P:Program)(f:Nat):Option (Array Value->Sem Value):=match P.funcs[f]?with
 |some fn=>Extern.find fn
 |none=>none
theorem o8{P:Program}{f:FuncId}{e:Array Value->Sem Value}(h1:uc P f=true)(h2:ub P f=some e){d z:Value}(hz:cO z=true)(h:∀v,kK d v->e #[v]=pure z):ow P f [.d (.lit d)] [.c (.d (.lit z))] []:=by
 unfold uc at h1;unfold ub at h2;split at h1
 .rename_i fn hf;rw[hf]at h2;simp only[Bool.and_eq_true,Bool.not_eq_true',Option.isNone_iff_eq_none]at h1;exact De hf h1.1.1 (by simp[h1.1.2]) h1.2 h2 hz h
 .cases h1
theorem oc{P:Program}{f:FuncId}(h1:uc P f=true)(h2:ub P f=some Extern.MathFloatBits.float64bits){p:Nat}{z:Int}(hz:mN p=some z):ow P f [.d (.lit (.float .f64 p))] [.c (.d (.lit (.int .u64 z)))] []:=by
 unfold mN at hz;cases hc:(FloatKind.f64.format.read p).isNaN with
 |true=>rw[hc]at hz;cases hz
 |false=>rw[hc]at hz;obtain rfl:=aa hz;refine o8 h1 h2 (d:=.float .f64 p) (z:=.int .u64 (p:Int)) rfl fun v hv=>?_;cases hv with|lit _=>rfl|nan h3 _=>exact absurd h3 (by unfold nH;rw[hc];simp)
theorem yj{P:Program}{f:FuncId}(h1:uc P f=true)(h2:ub P f=some Extern.MathFloatBits.float64bits)(p:Nat):ow P f [.d (.lit (.complex .f64 p 0))] [.c (.d (.lit (.int .u64 p)))] []:=by refine o8 h1 h2 rfl fun v hv=>?_;cases hv with|lit h=>cases h|ex=>rfl
theorem yi{P:Program}{f:FuncId}{ro:Bool}(h1:uc P f=true)(h2:ub P f=some Extern.MathFloatBits.float64bits):gg P f (re ro):=by exact⟨by cases ro<;>rfl,fun p z hz=>oc h1 h2 hz⟩
theorem n_{P:Program}{f:FuncId}(h1:uc P f=true)(h2:ub P f=some Extern.MathFloatBits.float64frombits)(p:Int):ow P f [.d (.lit (.int .u64 p))] [.c (.d (.lit (.float .f64 p.toNat)))] []:=by refine o8 h1 h2 rfl fun v hv=>?_;cases hv with|lit _=>rfl
theorem yh{P:Program}{f:FuncId}{ro:Bool}(h1:uc P f=true)(h2:ub P f=some Extern.MathFloatBits.float64frombits):gg P f (rb ro):=by refine⟨by cases ro<;>rfl,fun p z hz=>?_⟩;obtain rfl:=aa (show some p.toNat=some z from hz);exact n_ h1 h2 p
def Ju(a b:Nat):Call:=fun f as=>
 bif eL f a then(match as with
  |[.d (.lit (.float .f64 n))]=>(match mN n with|some z=>some ([.c (.d (.lit (.int .u64 z)))],[])|none=>none)
  |_=>none)
 else bif eL f b then(match as with
  |[.d (.lit (.int .u64 n))]=>some ([.c (.d (.lit (.float .f64 n.toNat)))],[])
  |_=>none)
 else none
theorem Ha{P:Program}{a b:Nat}(h1:uc P a=true)(h2:ub P a=some Extern.MathFloatBits.float64bits)(h3:uc P b=true)(h4:ub P b=some Extern.MathFloatBits.float64frombits):fB P (Ju a b):=by
 intro f as rs outs h;unfold Ju at h;cases ha:eL f a with
 |true=>
  rw[ha,cond_true]at h;obtain rfl:=br ha;split at h
  .split at h
   .rename_i z hz;obtain⟨rfl,rfl⟩:=ad (aa h);exact oc h1 h2 hz
   .cases h
  .cases h
 |false=>
  rw[ha,cond_false]at h;cases hc:eL f b with
  |true=>
   rw[hc,cond_true]at h;obtain rfl:=br hc;split at h
   .obtain ⟨rfl,rfl⟩:=ad (aa h);exact n_ h3 h4 _
   .cases h
  |false=>rw[hc,cond_false]at h;cases h
def JL(a c:Nat)(g:Int->Int):Call:=fun f as=>
 bif eL f a then(match as with
  |[.d (.lit (.complex .f64 n 0))]=>some ([.c (.d (.lit (.int .u64 (n:Int))))],[])
  |_=>none)
 else bif eL f c then(match as with
  |[.d (.lit (.int .u64 n))]=>some ([.c (.d (.lit (.int .u64 (g n))))],[])
  |_=>none)
 else none
theorem Hb{P:Program}{a c:Nat}{g:Int->Int}(ha:∀p:Nat,ow P a [.d (.lit (.complex .f64 p 0))] [.c (.d (.lit (.int .u64 p)))] [])(hc:∀n:Int,ow P c [.d (.lit (.int .u64 n))] [.c (.d (.lit (.int .u64 (g n))))] []):fB P (JL a c g):=by
 intro f as rs outs h;unfold JL at h;cases hq:eL f a with
 |true=>
  rw[hq,cond_true]at h;obtain rfl:=br hq;split at h
  .obtain ⟨rfl,rfl⟩:=ad (aa h);exact ha _
  .cases h
 |false=>
  rw[hq,cond_false]at h;cases hr:eL f c with
  |true=>
   rw[hr,cond_true]at h;obtain rfl:=br hr;split at h
   .obtain ⟨rfl,rfl⟩:=ad (aa h);exact hc _
   .cases h
  |false=>rw[hr,cond_false]at h;cases h
def DD(g:Int->Int)(p:Nat):Option Int:=some (bif(FloatKind.f64.format.read p).isNaN then 9221120237041090561 else g p)
theorem Fm{P:Program}{QC:pT}{f:Nat}{ex:Call}{g:Int->Int}{ro:Bool}(hm:P.follows .mixedOrders=true)(hx:fB P ex)
  (hr:∀m:Nat,BW P QC ex 2 f [.d (.lit (.complex .f64 m 0))]=some ([.c (.d (.lit (.int .u64 (g m))))],[])) (hl:∀m:Nat,nH .f64 m->g m=9221120237041090561):
  gg P f ⟨[(false,.x (.f .f64))],[([.x (.i .u64)],[])],ro,[],fun p=>DD g p⟩:=by
 refine⟨by cases ro<;>rfl,fun(p:Nat)z hz=>?_⟩;obtain rfl:=aa hz;intro S w vs fp hS hRA hnd hfp hG
 match vs,hRA with
 |[v],⟨f1,f2,hfp2,⟨hd,h1⟩,h2⟩=>
  obtain⟨m,rfl,e⟩:∃m:Nat,v=.float .f64 m/\g m=(bif(FloatKind.f64.format.read p).isNaN then 9221120237041090561 else g p):=by
   cases hd with
   |lit _=>refine⟨p,rfl,?_⟩;cases hc:(FloatKind.f64.format.read p).isNaN with|true=>exact hl p hc|false=>rfl
   |nan hn hm=>refine⟨_,rfl,?_⟩;have hn:(FloatKind.f64.format.read p).isNaN=true:=hn;rw[hn];exact hl _ hm
  have:=y9 hm hx 2 f _ _ _ (hr m) S w [.float .f64 m] fp hS ⟨f1,f2,hfp2,⟨.ex,h1⟩,h2⟩ hnd hfp hG;rw[e]at this;exact this
end Go.Ev
