/- law37_awake answers true: by running its twin. Conditions: none. -/
import Derived.Test.YtoekkpmeeclpeaaGreatSa
import Derived.Test.YtoekkpmeeclpeaaGreatFz
import Derived.Test.YtoekkpmeeclpeaaGreatAs
open Go.Ev Go
noncomputable section
namespace Go.Proofs.YtoekkpmeeclpeaaGreat.S
def uR(t_0:ao):Option (Sl bp):=
 (c_ 100000 (m_ t_0) (0,Sl.nil)).bind fun s8=>
 (c_ 100000 (m9 t_0) (0,s8)).bind fun s15=>
 some s15
theorem Dd(t_0:ao):aN (uR t_0) (pH t_0):=by
 unfold uR pH
 with_reducible repeat' first
  |refine aN.loop (fun _=>?_) _ _
  |refine aN.bind ?_ (fun _=>?_)
  |exact aN.refl _
def qc(t_0:ao):Option Bool:=
 bif((((decide ((ao.au t_0)<1))||(decide ((ao.au t_0)>8)))||(decide ((((ao.a7 t_0).l).length:Int)>24)))||(decide ((((ao.bn t_0).l).length:Int)>8)))then(some false)else
 ((c_ 100000 (oF t_0) 0).bind fun
 |.inl b4=>(some b4)
 |.inr _=>((uR t_0).bind fun r5=>
 (c_ 100000 (iZ t_0 r5) (0,(Mp.none:Mp bp Int))).bind fun
 |.inl b13=>(some b13)
 |.inr _=>(some true)))
theorem uS(t_0:ao):aN (qc t_0) (nc t_0):=by
 unfold qc nc
 with_reducible repeat' first
  |apply Dd
  |refine aN.loop (fun _=>?_) _ _
  |refine aN.cond ?_ ?_
  |refine aN.bind ?_ (fun _=>?_)
  |(split<;>try dsimp only)
  |exact aN.refl _
def ql(x_0:Int)(y_1:Int):Option (Int×Int):=some (wr .u64 ((wr .u64 ((wr .u64 ((oT .u64 x_0 32)*(oT .u64 y_1 32)))+(oT .u64 (wr .u64 ((wr .u64 ((oT .u64 x_0 32)*(og .u64 y_1 4294967295)))+(oT .u64 (wr .u64 ((og .u64 x_0 4294967295)*(og .u64 y_1 4294967295))) 32))) 32)))+(oT .u64 (wr .u64 ((og .u64 (wr .u64 ((wr .u64 ((oT .u64 x_0 32)*(og .u64 y_1 4294967295)))+(oT .u64 (wr .u64 ((og .u64 x_0 4294967295)*(og .u64 y_1 4294967295))) 32))) 4294967295)+(wr .u64 ((og .u64 x_0 4294967295)*(oT .u64 y_1 32))))) 32)),wr .u64 (x_0*y_1))
theorem zu(x_0:Int)(y_1:Int):aN (ql x_0 y_1) (mc x_0 y_1):=by
 unfold ql mc;rw[o_]
 with_reducible repeat' first
  |exact aN.refl _
def oZ(x_0:Int)(y_1:Int):Option (Int×Int):=
 (ql x_0 y_1).bind fun(r1,r2)=>
 some (r1,r2)
theorem vI(x_0:Int)(y_1:Int):aN (oZ x_0 y_1) (ja x_0 y_1):=by
 unfold oZ ja
 with_reducible repeat' first
  |apply zu
  |refine aN.bind ?_ (fun _=>?_)
  |(split<;>try dsimp only)
  |exact aN.refl _
def gu(x_0:Sl Int)(count_1:Int):Option (Sl Int):=
 bif decide (count_1<0)then(none)else
 ((oZ (wr .u64 (x_0.l.length:Int)) (wr .u64 count_1)).bind fun(r1,r2)=>
 bif((decide (r1>0))||(decide (r2>9223372036854775807)))then(none)else
 ((zQ 0 (wr .i64 r2) (wr .i64 r2)).bind fun l3=>
 (c_ 100000 (oG) (((min x_0.l.length l3.length:Nat):Int),(Sl.mk (CI l3 0 l3.length x_0.l)))).bind fun s11=>
 some s11))
theorem km(x_0:Sl Int)(count_1:Int):aN (gu x_0 count_1) (dN x_0 count_1):=by
 unfold gu dN
 with_reducible repeat' first
  |apply vI
  |refine aN.loop (fun _=>?_) _ _
  |refine aN.cond ?_ ?_
  |refine aN.bind ?_ (fun _=>?_)
  |(split<;>try dsimp only)
  |exact aN.refl _
def dp(a_1:Int)(b_2:Int):(Int×Sl aD)->Option ((Int×Sl aD)⊕(Sl aD)):=fun(i4,s5)=>
 bif decide (i4<b_2)then((c_ 100000 (fj a_1) (i4,s5)).bind fun s19=>
 some (.inl (wr .i64 (i4+1),s19)))else
 (some (.inr s5))
theorem iz(a_1:Int)(b_2:Int):∀s,aN (dp a_1 b_2 s) (dy a_1 b_2 s):=by
 intro s;unfold dp dy
 with_reducible repeat' first
  |refine aN.loop (fun _=>?_) _ _
  |refine aN.cond ?_ ?_
  |refine aN.bind ?_ (fun _=>?_)
  |(split<;>try dsimp only)
  |exact aN.refl _
def dB(data_0:Sl aD)(a_1:Int)(b_2:Int):Option (Sl aD):=
 (c_ 100000 (dp a_1 b_2) (wr .i64 (a_1+1),data_0)).bind fun s20=>
 some s20
theorem iQ(data_0:Sl aD)(a_1:Int)(b_2:Int):aN (dB data_0 a_1 b_2) (bE data_0 a_1 b_2):=by
 unfold dB bE
 with_reducible repeat' first
  |apply iz
  |refine aN.loop (fun _=>?_) _ _
  |refine aN.bind ?_ (fun _=>?_)
  |exact aN.refl _
def dW:(Int×Int×Int×Bool×Bool×Sl aD)->Option ((Int×Int×Int×Bool×Bool×Sl aD)⊕(Sl aD)):=fun(i12,i13,i14,b15,_,s17)=>
 bif decide ((wr .i64 (i13-i12))<=12)then((dB s17 i12 i13).bind fun s18=>
 (m8 s18 s17).bind fun _=>
 some (.inr s18))else
 (bif(i14==0)then(none)else
 (bif(!b15)then(none)else
 (none)))
theorem jB:∀s,aN (dW s) (cC s):=by
 intro s;unfold dW cC
 with_reducible repeat' first
  |apply iQ
  |refine aN.cond ?_ ?_
  |refine aN.bind ?_ (fun _=>?_)
  |(split<;>try dsimp only)
  |exact aN.refl _
def er(data_0:Sl aD)(a_1:Int)(b_2:Int)(limit_3:Int):Option (Sl aD):=
 (c_ 100000 (dW) (a_1,b_2,limit_3,true,true,data_0)).bind fun s19=>
 some s19
theorem kh(data_0:Sl aD)(a_1:Int)(b_2:Int)(limit_3:Int):aN (er data_0 a_1 b_2 limit_3) (cP data_0 a_1 b_2 limit_3):=by
 unfold er cP
 with_reducible repeat' first
  |apply jB
  |refine aN.loop (fun _=>?_) _ _
  |refine aN.bind ?_ (fun _=>?_)
  |exact aN.refl _
def dR(x_0:Sl aD):Option (Sl aD):=
 (oN (wr .u64 (x_0.l.length:Int))).bind fun r1=>
 (er x_0 0 (x_0.l.length:Int) r1).bind fun s2=>
 (m8 s2 x_0).bind fun _=>
 some s2
theorem ji(x_0:Sl aD):aN (dR x_0) (cu x_0):=by
 unfold dR cu
 with_reducible repeat' first
  |apply kh
  |refine aN.bind ?_ (fun _=>?_)
  |exact aN.refl _
def rS(t_0:ao)(sw_1:Int):Option (Sl aD):=
 (c_ 100000 (iO t_0 sw_1) (0,Sl.nil)).bind fun s11=>
 (dR s11).bind fun s12=>
 (m8 s12 s11).bind fun _=>
 some s12
theorem vY(t_0:ao)(sw_1:Int):aN (rS t_0 sw_1) (nE t_0 sw_1):=by
 unfold rS nE
 with_reducible repeat' first
  |apply ji
  |refine aN.loop (fun _=>?_) _ _
  |refine aN.bind ?_ (fun _=>?_)
  |exact aN.refl _
def tD(t_0:ao):(Sl Int×Sl Int)->Option ((Sl Int×Sl Int)⊕(Sl Int)):=fun(s6,s7)=>
 bif decide ((s7.l.length:Int)>0)then((cH 0 s7.l.length).bind fun n8=>
 (rS t_0 (gt s7.l n8)).bind fun r9=>
 (c_ 100000 (nG r9) (0,s6,s7)).bind fun(s26,s27)=>
 (ou s27.l 1 s27.l.length).bind fun l28=>
 some (.inl (s26,(s27.to l28))))else
 (some (.inr s6))
theorem Ck(t_0:ao):∀s,aN (tD t_0 s) (nF t_0 s):=by
 intro s;unfold tD nF
 with_reducible repeat' first
  |apply vY
  |refine aN.loop (fun _=>?_) _ _
  |refine aN.cond ?_ ?_
  |refine aN.bind ?_ (fun _=>?_)
  |(split<;>try dsimp only)
  |exact aN.refl _
def xj(t_0:ao)(sw_1:Int):Option (Sl Int):=
 (gu (Sl.mk [(-1)]) (if 0>(ao.au t_0)then 0 else(ao.au t_0))).bind fun s1=>
 bif((decide (sw_1<0))||(decide (sw_1>=(ao.au t_0))))then(some s1)else
 ((cH sw_1 s1.l.length).bind fun n2=>
 (c_ 100000 (tD t_0) ((Sl.mk (s1.l.set n2 0)),(Sl.mk [sw_1]))).bind fun s29=>
 some s29)
theorem Ge(t_0:ao)(sw_1:Int):aN (xj t_0 sw_1) (pI t_0 sw_1):=by
 unfold xj pI
 with_reducible repeat' first
  |apply km
  |apply Ck
  |refine aN.loop (fun _=>?_) _ _
  |refine aN.cond ?_ ?_
  |refine aN.bind ?_ (fun _=>?_)
  |exact aN.refl _
def lC(s_0:Sl Int)(v_1:Int):Option Int:=
 (c_ 100000 (cJ s_0 v_1) 0).bind fun
 |.inl i4=>(some i4)
 |.inr _=>(some (-1))
theorem vu(s_0:Sl Int)(v_1:Int):aN (lC s_0 v_1) (fC s_0 v_1):=by
 unfold lC fC
 with_reducible repeat' first
  |refine aN.loop (fun _=>?_) _ _
  |refine aN.bind ?_ (fun _=>?_)
  |(split<;>try dsimp only)
  |exact aN.refl _
def du(s_0:Sl Int)(v_1:Int):Option Bool:=
 (lC s_0 v_1).bind fun r1=>
 some (decide (r1>=0))
theorem eC(s_0:Sl Int)(v_1:Int):aN (du s_0 v_1) (bJ s_0 v_1):=by
 unfold du bJ
 with_reducible repeat' first
  |apply vu
  |refine aN.bind ?_ (fun _=>?_)
  |exact aN.refl _
def vX(t_0:ao):Option Bool:=
 (xj t_0 0).bind fun r1=>
 (du r1 (-1)).bind fun r2=>
 some (!r2)
theorem EO(t_0:ao):aN (vX t_0) (qT t_0):=by
 unfold vX qT
 with_reducible repeat' first
  |apply Ge
  |apply eC
  |refine aN.bind ?_ (fun _=>?_)
  |exact aN.refl _
def fD(s_0:Sl Int):Option Int:=
 (c_ 100000 (fx s_0) 0).bind fun
 |.inl i5=>(some i5)
 |.inr _=>(some (-1))
theorem m7(s_0:Sl Int):aN (fD s_0) (dv s_0):=by
 unfold fD dv
 with_reducible repeat' first
  |refine aN.loop (fun _=>?_) _ _
  |refine aN.bind ?_ (fun _=>?_)
  |(split<;>try dsimp only)
  |exact aN.refl _
def eU(s_0:Sl Int):Option Bool:=
 (fD s_0).bind fun r1=>
 some (decide (r1>=0))
theorem lD(s_0:Sl Int):aN (eU s_0) (cG s_0):=by
 unfold eU cG
 with_reducible repeat' first
  |apply m7
  |refine aN.bind ?_ (fun _=>?_)
  |exact aN.refl _
def yW(bits_0:Sl Int):Option (Sl Nat):=
 (c_ 100000 (rR bits_0) (0,Sl.nil)).bind fun s9=>
 some s9
theorem Hx(bits_0:Sl Int):aN (yW bits_0) (vn bits_0):=by
 unfold yW vn
 with_reducible repeat' first
  |refine aN.loop (fun _=>?_) _ _
  |refine aN.bind ?_ (fun _=>?_)
  |exact aN.refl _
def dZ(s_0:Sl Nat):Option Int:=
 (c_ 100000 (b_ s_0) 0).bind fun
 |.inl i5=>(some i5)
 |.inr _=>(some (-1))
theorem jC(s_0:Sl Nat):aN (dZ s_0) (bM s_0):=by
 unfold dZ bM
 with_reducible repeat' first
  |refine aN.loop (fun _=>?_) _ _
  |refine aN.bind ?_ (fun _=>?_)
  |(split<;>try dsimp only)
  |exact aN.refl _
def dD(s_0:Sl Nat):Option Bool:=
 (dZ s_0).bind fun r1=>
 some (decide (r1>=0))
theorem iS(s_0:Sl Nat):aN (dD s_0) (bF s_0):=by
 unfold dD bF
 with_reducible repeat' first
  |apply jC
  |refine aN.bind ?_ (fun _=>?_)
  |exact aN.refl _
def uP(w_0:Sl Nat)(links_1:Int):Option Bool:=
 (bif((w_0.l.length:Int)==links_1)then((dD w_0).bind fun r1=>
 some (!r1))else
 (some false):Option Bool).bind fun b2=>
 some b2
theorem C9(w_0:Sl Nat)(links_1:Int):aN (uP w_0 links_1) (rQ w_0 links_1):=by
 unfold uP rQ
 with_reducible repeat' first
  |apply iS
  |refine aN.cond ?_ ?_
  |refine aN.bind ?_ (fun _=>?_)
  |exact aN.refl _
def oH(t_0:ao)(w_1:Sl Nat):Option Bool:=
 ((qc t_0).bind fun r1=>
 bif r1 then((uP w_1 (((ao.a7 t_0).l).length:Int)).bind fun r2=>
 some r2)else
 (some false):Option Bool).bind fun b3=>
 some b3
theorem tG(t_0:ao)(w_1:Sl Nat):aN (oH t_0 w_1) (jR t_0 w_1):=by
 unfold oH jR
 with_reducible repeat' first
  |apply uS
  |apply C9
  |refine aN.cond ?_ ?_
  |refine aN.bind ?_ (fun _=>?_)
  |exact aN.refl _
def gS(x_0:Sl Nat)(count_1:Int):Option (Sl Nat):=
 bif decide (count_1<0)then(none)else
 ((oZ (wr .u64 (x_0.l.length:Int)) (wr .u64 count_1)).bind fun(r1,r2)=>
 bif((decide (r1>0))||(decide (r2>9223372036854775807)))then(none)else
 ((zQ 0 (wr .i64 r2) (wr .i64 r2)).bind fun l3=>
 (c_ 100000 (jP) (((min x_0.l.length l3.length:Nat):Int),(Sl.mk (CI l3 0 l3.length x_0.l)))).bind fun s11=>
 some s11))
theorem qf(x_0:Sl Nat)(count_1:Int):aN (gS x_0 count_1) (dQ x_0 count_1):=by
 unfold gS dQ
 with_reducible repeat' first
  |apply vI
  |refine aN.loop (fun _=>?_) _ _
  |refine aN.cond ?_ ?_
  |refine aN.bind ?_ (fun _=>?_)
  |(split<;>try dsimp only)
  |exact aN.refl _
def zw(x_0:Nat):Option Nat:=
 (wE x_0).bind fun r1=>
 (wD (mn .u64 r1 9223372036854775808)).bind fun r2=>
 some r2
theorem IT(x_0:Nat):aN (zw x_0) (AB x_0):=by
 unfold zw AB;rw[kB]
 with_reducible repeat' first
  |refine aN.bind ?_ (fun _=>?_)
  |exact aN.refl _
def qm(f_0:Nat)(sign_1:Int):Option Bool:=
 (bif(sign_1==0)then((zw f_0).bind fun r1=>
 some r1)else
 (bif decide (sign_1<0)then(some (Op.negFloat .f64 f_0))else
 (some f_0)):Option Nat).bind fun f2=>
 some (MJ .f64 f2 9218868437227405311)
theorem yN(f_0:Nat)(sign_1:Int):aN (qm f_0 sign_1) (kw f_0 sign_1):=by
 unfold qm kw
 with_reducible repeat' first
  |apply IT
  |refine aN.cond ?_ ?_
  |refine aN.bind ?_ (fun _=>?_)
  |exact aN.refl _
def vd(x_0:Nat):Option Int:=
 bif(!(Jk .f64 x_0 x_0))then(some 0)else
 ((qm x_0 (-1)).bind fun r1=>
 bif r1 then(some 1)else
 ((qm x_0 1).bind fun r2=>
 bif r2 then(some 6)else
 (bif RU .f64 x_0 0 then(some 2)else
 (bif MJ .f64 x_0 0 then(some 5)else
 ((sR x_0).bind fun r3=>
 bif r3 then(some 3)else
 (some 4))))))
theorem D8(x_0:Nat):aN (vd x_0) (pP x_0):=by
 unfold vd pP
 with_reducible repeat' first
  |apply yN
  |refine aN.cond ?_ ?_
  |refine aN.bind ?_ (fun _=>?_)
  |exact aN.refl _
def sW(x_0:Nat):Option Int:=
 (vd x_0).bind fun r1=>
 bif(r1==0)then(some 2)else
 (bif(r1==3)then(some (-1))else
 (some 0))
theorem E9(x_0:Nat):aN (sW x_0) (lK x_0):=by
 unfold sW lK
 with_reducible repeat' first
  |apply D8
  |refine aN.cond ?_ ?_
  |refine aN.bind ?_ (fun _=>?_)
  |exact aN.refl _
def sC(a_0:Nat)(b_1:Nat):Option Int:=
 bif RU .f64 a_0 b_1 then(some (-1))else
 (bif MJ .f64 a_0 b_1 then(some 1)else
 ((sW a_0).bind fun r1=>
 (sW b_1).bind fun r2=>
 (jN r1 r2).bind fun r3=>
 some r3))
theorem BF(a_0:Nat)(b_1:Nat):aN (sC a_0 b_1) (mz a_0 b_1):=by
 unfold sC mz
 with_reducible repeat' first
  |apply E9
  |refine aN.cond ?_ ?_
  |refine aN.bind ?_ (fun _=>?_)
  |exact aN.refl _
def sf(a_0:Int)(b_1:Int)(c_2:Sl Nat):Option Int:=
 (cH a_0 c_2.l.length).bind fun n1=>
 (cH b_1 c_2.l.length).bind fun n2=>
 (sC (gt c_2.l n1) (gt c_2.l n2)).bind fun r3=>
 some r3
theorem Bj(a_0:Int)(b_1:Int)(c_2:Sl Nat):aN (sf a_0 b_1 c_2) (gD a_0 b_1 c_2):=by
 unfold sf gD
 with_reducible repeat' first
  |apply BF
  |refine aN.bind ?_ (fun _=>?_)
  |exact aN.refl _
def dM(a_1:Int)(cmp_3_c0:Sl Nat):(Int×Sl Int)->Option ((Int×Sl Int)⊕(Sl Int)):=fun(i9,s10)=>
 (bif decide (i9>a_1)then((cH i9 s10.l.length).bind fun n11=>
 (cH (wr .i64 (i9-1)) s10.l.length).bind fun n12=>
 (sf (gt s10.l n11) (gt s10.l n12) cmp_3_c0).bind fun r13=>
 some (decide (r13<0)))else
 (some false):Option Bool).bind fun b14=>
 bif b14 then((cH (wr .i64 (i9-1)) s10.l.length).bind fun n15=>
 (cH i9 s10.l.length).bind fun n16=>
 (cH i9 s10.l.length).bind fun n17=>
 (cH (wr .i64 (i9-1)) (s10.l.set n17 (gt s10.l n15)).length).bind fun n18=>
 some (.inl (wr .i64 (i9-1),(Sl.mk ((s10.l.set n17 (gt s10.l n15)).set n18 (gt s10.l n16))))))else
 (some (.inr s10))
theorem je(a_1:Int)(cmp_3_c0:Sl Nat):∀s,aN (dM a_1 cmp_3_c0 s) (dY a_1 cmp_3_c0 s):=by
 intro s;unfold dM dY
 with_reducible repeat' first
  |apply Bj
  |refine aN.cond ?_ ?_
  |refine aN.bind ?_ (fun _=>?_)
  |(split<;>try dsimp only)
  |exact aN.refl _
def dL(a_1:Int)(b_2:Int)(cmp_3_c0:Sl Nat):(Int×Sl Int)->Option ((Int×Sl Int)⊕(Sl Int)):=fun(i4,s5)=>
 bif decide (i4<b_2)then((c_ 100000 (dM a_1 cmp_3_c0) (i4,s5)).bind fun s19=>
 some (.inl (wr .i64 (i4+1),s19)))else
 (some (.inr s5))
theorem jd(a_1:Int)(b_2:Int)(cmp_3_c0:Sl Nat):∀s,aN (dL a_1 b_2 cmp_3_c0 s) (dX a_1 b_2 cmp_3_c0 s):=by
 intro s;unfold dL dX
 with_reducible repeat' first
  |apply je
  |refine aN.loop (fun _=>?_) _ _
  |refine aN.cond ?_ ?_
  |refine aN.bind ?_ (fun _=>?_)
  |(split<;>try dsimp only)
  |exact aN.refl _
def cZ(data_0:Sl Int)(a_1:Int)(b_2:Int)(cmp_3_c0:Sl Nat):Option (Sl Int):=
 (c_ 100000 (dL a_1 b_2 cmp_3_c0) (wr .i64 (a_1+1),data_0)).bind fun s20=>
 some s20
theorem fX(data_0:Sl Int)(a_1:Int)(b_2:Int)(cmp_3_c0:Sl Nat):aN (cZ data_0 a_1 b_2 cmp_3_c0) (bQ data_0 a_1 b_2 cmp_3_c0):=by
 unfold cZ bQ
 with_reducible repeat' first
  |apply jd
  |refine aN.loop (fun _=>?_) _ _
  |refine aN.bind ?_ (fun _=>?_)
  |exact aN.refl _
def eM(n_1:Int)(cmp_2_c0:Sl Nat):(Int×Int×Sl Int)->Option ((Int×Int×Sl Int)⊕(Int×Sl Int)):=fun(i6,i7,s8)=>
 bif decide (i7<=n_1)then((cZ s8 i6 i7 cmp_2_c0).bind fun s9=>
 (m8 s9 s8).bind fun _=>
 some (.inl (i7,wr .i64 (i7+20),s9)))else
 (some (.inr (i6,s8)))
theorem kN(n_1:Int)(cmp_2_c0:Sl Nat):∀s,aN (eM n_1 cmp_2_c0 s) (cU n_1 cmp_2_c0 s):=by
 intro s;unfold eM cU
 with_reducible repeat' first
  |apply fX
  |refine aN.cond ?_ ?_
  |refine aN.bind ?_ (fun _=>?_)
  |(split<;>try dsimp only)
  |exact aN.refl _
def eL(n_1:Int):Int->Option (Int⊕Unit):=fun i14=>
 bif decide (i14<n_1)then((c_ 100000 (gQ n_1) (0,wr .i64 (2*i14))).bind fun i19=>
 bif decide ((wr .i64 (i19+i14))<n_1)then(none)else
 (some (.inl (wr .i64 (i14*2)))))else
 (some (.inr ()))
theorem kM(n_1:Int):∀s,aN (eL n_1 s) (cT n_1 s):=by
 intro s;unfold eL cT
 with_reducible repeat' first
  |refine aN.loop (fun _=>?_) _ _
  |refine aN.cond ?_ ?_
  |refine aN.bind ?_ (fun _=>?_)
  |exact aN.refl _
def ff(data_0:Sl Int)(n_1:Int)(cmp_2_c0:Sl Nat):Option (Sl Int):=
 (c_ 100000 (eM n_1 cmp_2_c0) (0,20,data_0)).bind fun(i10,s11)=>
 (cZ s11 i10 n_1 cmp_2_c0).bind fun s12=>
 (m8 s12 s11).bind fun _=>
 (c_ 100000 (eL n_1) 20).bind fun _=>
 some s12
theorem lX(data_0:Sl Int)(n_1:Int)(cmp_2_c0:Sl Nat):aN (ff data_0 n_1 cmp_2_c0) (de data_0 n_1 cmp_2_c0):=by
 unfold ff de
 with_reducible repeat' first
  |apply kN
  |apply fX
  |apply kM
  |refine aN.loop (fun _=>?_) _ _
  |refine aN.bind ?_ (fun _=>?_)
  |(split<;>try dsimp only)
  |exact aN.refl _
def ew(x_0:Sl Int)(cmp_1_c0:Sl Nat):Option (Sl Int):=
 (ff x_0 (x_0.l.length:Int) cmp_1_c0).bind fun s1=>
 (m8 s1 x_0).bind fun _=>
 some s1
theorem ki(x_0:Sl Int)(cmp_1_c0:Sl Nat):aN (ew x_0 cmp_1_c0) (bZ x_0 cmp_1_c0):=by
 unfold ew bZ
 with_reducible repeat' first
  |apply lX
  |refine aN.bind ?_ (fun _=>?_)
  |exact aN.refl _
def qX(t_0:ao)(w_1:Sl Nat):(Sl Int×Sl Nat)->Option ((Sl Int×Sl Nat)⊕(Sl Nat)):=fun(s16,s17)=>
 bif decide ((s16.l.length:Int)>0)then((ew s16 s17).bind fun s18=>
 (m8 s18 s16).bind fun _=>
 (cH 0 s18.l.length).bind fun n19=>
 (ou s18.l 1 s18.l.length).bind fun l20=>
 (rS t_0 (gt s18.l n19)).bind fun r21=>
 (c_ 100000 (kQ w_1 n19 s18 r21) (0,s17)).bind fun s33=>
 some (.inl ((s18.to l20),s33)))else
 (some (.inr s17))
theorem Ae(t_0:ao)(w_1:Sl Nat):∀s,aN (qX t_0 w_1 s) (kP t_0 w_1 s):=by
 intro s;unfold qX kP
 with_reducible repeat' first
  |apply ki
  |apply vY
  |refine aN.loop (fun _=>?_) _ _
  |refine aN.cond ?_ ?_
  |refine aN.bind ?_ (fun _=>?_)
  |(split<;>try dsimp only)
  |exact aN.refl _
def rH(t_0:ao)(w_1:Sl Nat)(sw_2:Int):Option (Sl Nat):=
 (oH t_0 w_1).bind fun r1=>
 bif(((!r1)||(decide (sw_2<0)))||(decide (sw_2>=(ao.au t_0))))then(some Sl.nil)else
 ((vJ 1).bind fun r2=>
 (gS (Sl.mk [r2]) (ao.au t_0)).bind fun s3=>
 (cH sw_2 s3.l.length).bind fun n4=>
 (zQ 0 (ao.au t_0) (ao.au t_0)).bind fun l5=>
 (c_ 100000 (kR l5) (0,(Sl.mk l5))).bind fun s12=>
 (c_ 100000 (qX t_0 w_1) (s12,(Sl.mk (s3.l.set n4 0)))).bind fun s34=>
 some s34)
theorem xn(t_0:ao)(w_1:Sl Nat)(sw_2:Int):aN (rH t_0 w_1 sw_2) (jS t_0 w_1 sw_2):=by
 unfold rH jS
 with_reducible repeat' first
  |apply tG
  |apply qf
  |apply Ae
  |refine aN.loop (fun _=>?_) _ _
  |refine aN.cond ?_ ?_
  |refine aN.bind ?_ (fun _=>?_)
  |exact aN.refl _
def rG(t_0:ao)(w_1:Sl Nat)(costs_2:Sl Nat)(at_3:Int):Option (Sl aD):=
 (cH at_3 costs_2.l.length).bind fun n1=>
 (qm (gt costs_2.l n1) 1).bind fun r2=>
 bif r2 then(some Sl.nil)else
 ((rS t_0 at_3).bind fun r3=>
 (c_ 100000 (nf w_1 costs_2 at_3 r3) (0,Sl.nil)).bind fun s18=>
 some s18)
theorem xm(t_0:ao)(w_1:Sl Nat)(costs_2:Sl Nat)(at_3:Int):aN (rG t_0 w_1 costs_2 at_3) (ng t_0 w_1 costs_2 at_3):=by
 unfold rG ng
 with_reducible repeat' first
  |apply yN
  |apply vY
  |refine aN.loop (fun _=>?_) _ _
  |refine aN.cond ?_ ?_
  |refine aN.bind ?_ (fun _=>?_)
  |exact aN.refl _
def dz(s_0:Sl aD)(f_1_c0:Sl Int)(f_1_c1:Int):Option Int:=
 (c_ 100000 (bO s_0 f_1_c0 f_1_c1) 0).bind fun
 |.inl i5=>(some i5)
 |.inr _=>(some (-1))
theorem iL(s_0:Sl aD)(f_1_c0:Sl Int)(f_1_c1:Int):aN (dz s_0 f_1_c0 f_1_c1) (bW s_0 f_1_c0 f_1_c1):=by
 unfold dz bW
 with_reducible repeat' first
  |refine aN.loop (fun _=>?_) _ _
  |refine aN.bind ?_ (fun _=>?_)
  |(split<;>try dsimp only)
  |exact aN.refl _
def dj(s_0:Sl aD)(f_1_c0:Sl Int)(f_1_c1:Int):Option Bool:=
 (dz s_0 f_1_c0 f_1_c1).bind fun r1=>
 some (decide (r1>=0))
theorem ir(s_0:Sl aD)(f_1_c0:Sl Int)(f_1_c1:Int):aN (dj s_0 f_1_c0 f_1_c1) (bq s_0 f_1_c0 f_1_c1):=by
 unfold dj bq
 with_reducible repeat' first
  |apply iL
  |refine aN.bind ?_ (fun _=>?_)
  |exact aN.refl _
def qW(t_0:ao)(w_1:Sl Nat)(r1:Sl Nat)(i7:Int)(s8:Sl Int):(Int×Sl Int)->Option ((Int×Sl Int)⊕(Sl Int)):=fun(i13,s14)=>
 bif decide (i13<(s8.l.length:Int))then((((cH i13 s14.l.length).bind fun n15=>
 bif decide ((gt s14.l n15)<0)then((rG t_0 w_1 r1 i13).bind fun r16=>
 (dj r16 s14 i7).bind fun r17=>
 some r17)else
 (some false):Option Bool).bind fun b18=>
 bif b18 then((cH i13 s14.l.length).bind fun n19=>
 some (Sl.mk (s14.l.set n19 (wr .i64 (i7+1)))))else
 (some s14):Option (Sl Int)).bind fun s20=>
 some (.inl (wr .i64 (i13+1),s20)))else
 (some (.inr s14))
theorem Ad(t_0:ao)(w_1:Sl Nat)(r1:Sl Nat)(i7:Int)(s8:Sl Int):∀s,aN (qW t_0 w_1 r1 i7 s8 s) (jl t_0 w_1 r1 i7 s8 s):=by
 intro s;unfold qW jl
 with_reducible repeat' first
  |apply xm
  |apply ir
  |refine aN.cond ?_ ?_
  |refine aN.bind ?_ (fun _=>?_)
  |(split<;>try dsimp only)
  |exact aN.refl _
def qV(t_0:ao)(w_1:Sl Nat)(r1:Sl Nat):(Int×Sl Int)->Option ((Int×Sl Int)⊕(Sl Int)):=fun(i7,s8)=>
 (du s8 i7).bind fun r9=>
 bif r9 then((c_ 100000 (qW t_0 w_1 r1 i7 s8) (0,s8)).bind fun s21=>
 some (.inl (wr .i64 (i7+1),s21)))else
 (some (.inr s8))
theorem Ac(t_0:ao)(w_1:Sl Nat)(r1:Sl Nat):∀s,aN (qV t_0 w_1 r1 s) (iu t_0 w_1 r1 s):=by
 intro s;unfold qV iu
 with_reducible repeat' first
  |apply eC
  |apply Ad
  |refine aN.loop (fun _=>?_) _ _
  |refine aN.cond ?_ ?_
  |refine aN.bind ?_ (fun _=>?_)
  |(split<;>try dsimp only)
  |exact aN.refl _
def uV(t_0:ao)(w_1:Sl Nat)(sw_2:Int):Option (Sl Int):=
 (rH t_0 w_1 sw_2).bind fun r1=>
 bif r1.od then(some Sl.nil)else
 ((gu (Sl.mk [(-1)]) (ao.au t_0)).bind fun s2=>
 (cH sw_2 s2.l.length).bind fun n3=>
 (c_ 100000 (qV t_0 w_1 r1) (0,(Sl.mk (s2.l.set n3 0)))).bind fun s22=>
 some s22)
theorem Dk(t_0:ao)(w_1:Sl Nat)(sw_2:Int):aN (uV t_0 w_1 sw_2) (pJ t_0 w_1 sw_2):=by
 unfold uV pJ
 with_reducible repeat' first
  |apply xn
  |apply km
  |apply Ac
  |refine aN.loop (fun _=>?_) _ _
  |refine aN.cond ?_ ?_
  |refine aN.bind ?_ (fun _=>?_)
  |exact aN.refl _
def se(t_0:ao)(w_1:Sl Nat)(r3:Sl Nat)(r4:Sl Int)(s5:Sl Int):(Int×Sl Int)->Option ((Int×Sl Int)⊕(Sl Int)):=fun(i9,s10)=>
 bif decide (i9<(s5.l.length:Int))then((rG t_0 w_1 r3 i9).bind fun r11=>
 (c_ 100000 (i_ r4 i9 r11) (0,s10)).bind fun s21=>
 some (.inl (wr .i64 (i9+1),s21)))else
 (some (.inr s10))
theorem Bi(t_0:ao)(w_1:Sl Nat)(r3:Sl Nat)(r4:Sl Int)(s5:Sl Int):∀s,aN (se t_0 w_1 r3 r4 s5 s) (ko t_0 w_1 r3 r4 s5 s):=by
 intro s;unfold se ko
 with_reducible repeat' first
  |apply xm
  |refine aN.loop (fun _=>?_) _ _
  |refine aN.cond ?_ ?_
  |refine aN.bind ?_ (fun _=>?_)
  |(split<;>try dsimp only)
  |exact aN.refl _
def v_(t_0:ao)(w_1:Sl Nat)(h_2:Int):Option (Sl Int×Int):=
 (oH t_0 w_1).bind fun r1=>
 bif(!r1)then(some (Sl.nil,2))else
 (bif((decide (h_2<0))||(decide (h_2>=(((ao.bn t_0).l).length:Int))))then(some (Sl.nil,7))else
 ((cH h_2 ((ao.bn t_0).l).length).bind fun n2=>
 (rH t_0 w_1 (fZ.At (gt ((ao.bn t_0).l) n2))).bind fun r3=>
 (uV t_0 w_1 (fZ.At (gt ((ao.bn t_0).l) n2))).bind fun r4=>
 (gu (Sl.mk [(-1)]) (ao.au t_0)).bind fun s5=>
 (c_ 100000 (se t_0 w_1 r3 r4 s5) (0,s5)).bind fun s22=>
 (cH h_2 ((ao.bn t_0).l).length).bind fun n23=>
 (cH (fZ.At (gt ((ao.bn t_0).l) n2)) s22.l.length).bind fun n24=>
 some ((Sl.mk (s22.l.set n24 (fZ.gk (gt ((ao.bn t_0).l) n23)))),0)))
theorem EQ(t_0:ao)(w_1:Sl Nat)(h_2:Int):aN (v_ t_0 w_1 h_2) (qU t_0 w_1 h_2):=by
 unfold v_ qU
 with_reducible repeat' first
  |apply tG
  |apply xn
  |apply Dk
  |apply km
  |apply Bi
  |refine aN.loop (fun _=>?_) _ _
  |refine aN.cond ?_ ?_
  |refine aN.bind ?_ (fun _=>?_)
  |exact aN.refl _
def qg(t_0:ao)(w_1:Sl Nat):(Int×Sl (Sl Int))->Option ((Int×Sl (Sl Int))⊕(Int⊕(Sl (Sl Int)))):=fun(i6,s7)=>
 bif decide (i6<(((ao.bn t_0).l).length:Int))then((v_ t_0 w_1 i6).bind fun(r8,_)=>
 (du r8 (-1)).bind fun r10=>
 bif r10 then(some (.inr (.inl 7)))else
 ((c_ 100000 (jL r8) (0,s7)).bind fun s20=>
 some (.inl (wr .i64 (i6+1),s20))))else
 (some (.inr (.inr s7)))
theorem zb(t_0:ao)(w_1:Sl Nat):∀s,aN (qg t_0 w_1 s) (fI t_0 w_1 s):=by
 intro s;unfold qg fI
 with_reducible repeat' first
  |apply EQ
  |apply eC
  |refine aN.loop (fun _=>?_) _ _
  |refine aN.cond ?_ ?_
  |refine aN.bind ?_ (fun _=>?_)
  |(split<;>try dsimp only)
  |exact aN.refl _
def tH(t_0:ao)(w_1:Sl Nat):Option (Sl (Sl Int)×Int):=
 (oH t_0 w_1).bind fun r1=>
 bif(!r1)then(some (Sl.nil,2))else
 ((zQ (Sl.nil:Sl Int) (ao.au t_0) (ao.au t_0)).bind fun l2=>
 (c_ 100000 (qg t_0 w_1) (0,(Sl.mk l2))).bind fun
 |.inl i21=>(some (Sl.nil,i21))
 |.inr s22=>(some (s22,0)))
theorem Cm(t_0:ao)(w_1:Sl Nat):aN (tH t_0 w_1) (iU t_0 w_1):=by
 unfold tH iU
 with_reducible repeat' first
  |apply tG
  |apply zb
  |refine aN.loop (fun _=>?_) _ _
  |refine aN.cond ?_ ?_
  |refine aN.bind ?_ (fun _=>?_)
  |(split<;>try dsimp only)
  |exact aN.refl _
def uc(c_0:aj):(Int×Sl (Sl (Sl Int)))->Option ((Int×Sl (Sl (Sl Int)))⊕(Int⊕(Sl (Sl (Sl Int))))):=fun(i16,s17)=>
 bif decide (i16<(((aj.eA c_0).l).length:Int))then((cH i16 ((aj.eA c_0).l).length).bind fun n18=>
 (yW (gt ((aj.eA c_0).l) n18)).bind fun r19=>
 (tH (aj.T c_0) r19).bind fun(r20,r21)=>
 bif(r21 !=0)then(some (.inr (.inl 2)))else
 ((g_ (s17.l++[r20])).bind fun l22=>
 some (.inl (wr .i64 (i16+1),(Sl.mk l22)))))else
 (some (.inr (.inr s17)))
theorem CG(c_0:aj):∀s,aN (uc c_0 s) (sZ c_0 s):=by
 intro s;unfold uc sZ
 with_reducible repeat' first
  |apply Hx
  |apply Cm
  |refine aN.cond ?_ ?_
  |refine aN.bind ?_ (fun _=>?_)
  |(split<;>try dsimp only)
  |exact aN.refl _
def xP(c_0:aj):Option (Sl (Sl (Sl Int))×Int):=
 ((qc (aj.T c_0)).bind fun r1=>
 bif r1 then((vX (aj.T c_0)).bind fun r2=>
 some (((r2&&(decide ((((aj.eA c_0).l).length:Int)>=1)))&&(decide ((((aj.eA c_0).l).length:Int)<=16)))&&((((aj.wN c_0).l).length:Int)==(ao.au (aj.T c_0)))))else
 (some false):Option Bool).bind fun b3=>
 (bif b3 then((ns (aj.SW c_0) 0 500).bind fun r4=>
 bif r4 then((ns (aj.Lz c_0) (((ao.bn (aj.T c_0)).l).length:Int) 64).bind fun r5=>
 bif r5 then((ns (aj.vi c_0) 0 65536).bind fun r6=>
 bif r6 then((ns (aj.yH c_0) 0 65536).bind fun r7=>
 bif r7 then((ns (aj.Ho c_0) 0 65536).bind fun r8=>
 bif r8 then((ns (aj.SV c_0) 1 65536).bind fun r9=>
 some r9)else
 (some false))else
 (some false))else
 (some false))else
 (some false))else
 (some false))else
 (some false):Option Bool).bind fun b10=>
 (bif(!b10)then(some true)else
 ((eU (aj.wN c_0)).bind fun r11=>
 some r11):Option Bool).bind fun b12=>
 bif b12 then(some (Sl.nil,2))else
 ((c_ 100000 (uc c_0) (0,Sl.nil)).bind fun
 |.inl i23=>(some (Sl.nil,i23))
 |.inr s24=>(some (s24,0)))
theorem GZ(c_0:aj):aN (xP c_0) (tz c_0):=by
 unfold xP tz
 with_reducible repeat' first
  |apply uS
  |apply EO
  |apply lD
  |apply CG
  |refine aN.loop (fun _=>?_) _ _
  |refine aN.cond ?_ ?_
  |refine aN.bind ?_ (fun _=>?_)
  |(split<;>try dsimp only)
  |exact aN.refl _
def xL:Option (Int×am×Int×Mp Int aa×Int×Int×Int×Int×Arr 8 ak×Arr 8 Int×Sl aa×Sl aw):=
 (c_ 100000 (wJ) (0,0,(⟨Sl.nil,Sl.nil,0,0,0,0⟩:am),0,0,(-1),0,(-1),(qK (.ar 8 y5)),(qK (.ar 8 (.i .i64))),(Mp.none:Mp Int aa),Sl.nil,Sl.nil)).bind fun(i29,x30,i31,i32,i33,i34,i35,v36,v37,m38,s39,s40)=>
 some (i29,x30,i31,m38,i32,i33,i34,i35,v36,v37,s39,s40)
theorem GY:aN (xL) (pS):=by
 unfold xL pS
 with_reducible repeat' first
  |refine aN.loop (fun _=>?_) _ _
  |refine aN.bind ?_ (fun _=>?_)
  |(split<;>try dsimp only)
  |exact aN.refl _
def vN(c_0:aj):Option (Int⊕(aj×Sl (Sl (Sl Int))×Sl ai×ad×Int×am×Int×Mp Int aa×Int×Int×Int×Int×Arr 8 ak×Arr 8 Int×Sl aa×Sl aw×Int)):=
 (xP c_0).bind fun(r1,r2)=>
 bif(r2 !=0)then(some (.inl r2))else
 ((xL).bind fun(r3,r4,r5,r6,r7,r8,r9,r10,r11,r12,s13,s14)=>
 some (.inr (c_0,r1,Sl.nil,(⟨0,0,false,0,0,0,false,false,0⟩:ad),r3,r4,r5,r6,r7,r8,r9,r10,r11,r12,s13,s14,0)))
theorem Li(c_0:aj):aN (vN c_0) (sY c_0):=by
 unfold vN sY
 with_reducible repeat' first
  |apply GZ
  |apply GY
  |refine aN.cond ?_ ?_
  |refine aN.bind ?_ (fun _=>?_)
  |(split<;>try dsimp only)
  |exact aN.refl _
def pB(x_0_c:aj)(now_1:Int)(up_2:Int):(Int×aj×Sl (Sl (Sl Int))×ad×Int×am×Int×Int×Int×Int×Int×Arr 8 ak×Arr 8 Int×Sl ai×Mp Int aa×Sl aa×Sl aw)->Option ((Int×aj×Sl (Sl (Sl Int))×ad×Int×am×Int×Int×Int×Int×Int×Arr 8 ak×Arr 8 Int×Sl ai×Mp Int aa×Sl aa×Sl aw)⊕(aj×Sl (Sl (Sl Int))×ad×Int×am×Int×Int×Int×Int×Int×Arr 8 ak×Arr 8 Int×Sl ai×Mp Int aa×Sl aa×Sl aw)):=fun(i19,x20,s21,x22,i23,x24,i25,i26,i27,i28,i29,v30,v31,s32,m33,s34,s35)=>
 bif decide (i19<(ao.au (aj.T x_0_c)))then((((yt .i64 up_2 i19).bind fun i36=>
 bif((og .i64 i36 1)==1)then((cH i19 8).bind fun n37=>
 (lw x20 s21 s32 x22 i23 x24 i25 m33 i26 i27 i28 i29 v30 v31 s34 s35 now_1 (gt v31.1 n37)).bind fun(r38,q39,q40,s41,q42,q43,q44,q45,q46,q47,q48,q49,q50,q51,q52,s53,s54)=>
 some (r38,q39,q40,q42,q43,q44,q45,q47,q48,q49,q50,q51,q52,s41,q46,s53,s54))else
 (some (false,x20,s21,x22,i23,x24,i25,i26,i27,i28,i29,v30,v31,s32,m33,s34,s35)):Option (Bool×aj×Sl (Sl (Sl Int))×ad×Int×am×Int×Int×Int×Int×Int×Arr 8 ak×Arr 8 Int×Sl ai×Mp Int aa×Sl aa×Sl aw)).bind fun(b55,x56,s57,x58,i59,x60,i61,i62,i63,i64,i65,v66,v67,s68,m69,s70,s71)=>
 bif b55 then((cH i19 8).bind fun n72=>
 (g_ (s70.l++[(⟨1,i19,0,0,now_1,0,0,0,0,Sl.nil⟩:aa)])).bind fun l73=>
 some (x56,s57,x58,i59,x60,i61,i62,i63,i64,i65,v66,Arr.set v67 n72 now_1,s68,m69,(Sl.mk l73),s71))else
 (some (x56,s57,x58,i59,x60,i61,i62,i63,i64,i65,v66,v67,s68,m69,s70,s71)):Option (aj×Sl (Sl (Sl Int))×ad×Int×am×Int×Int×Int×Int×Int×Arr 8 ak×Arr 8 Int×Sl ai×Mp Int aa×Sl aa×Sl aw)).bind fun(x74,s75,x76,i77,x78,i79,i80,i81,i82,i83,v84,v85,s86,m87,s88,s89)=>
 some (.inl (wr .i64 (i19+1),x74,s75,x76,i77,x78,i79,i80,i81,i82,i83,v84,v85,s86,m87,s88,s89)))else
 (some (.inr (x20,s21,x22,i23,x24,i25,i26,i27,i28,i29,v30,v31,s32,m33,s34,s35)))
theorem yA(x_0_c:aj)(now_1:Int)(up_2:Int):∀s,aN (pB x_0_c now_1 up_2 s) (k_ x_0_c now_1 up_2 s):=by
 intro s;unfold pB k_;rw[o_]
 with_reducible repeat' first
  |refine aN.cond ?_ ?_
  |refine aN.bind ?_ (fun _=>?_)
  |(split<;>try dsimp only)
  |exact aN.refl _
def sG(x_0_c:aj)(x_0_routes:Sl (Sl (Sl Int)))(x_0_l:Sl ai)(x_0_at:ad)(x_0_volatile_phase:Int)(x_0_volatile_plan:am)(x_0_volatile_cur:Int)(x_0_volatile_want:Mp Int aa)(x_0_volatile_sent:Int)(x_0_volatile_rest:Int)(x_0_volatile_skip:Int)(x_0_volatile_healed:Int)(x_0_volatile_est:Arr 8 ak)(x_0_volatile_asked:Arr 8 Int)(x_0_volatile_out:Sl aa)(x_0_volatile_events:Sl aw)(now_1:Int)(up_2:Int):Option (aj×Sl (Sl (Sl Int))×Sl ai×ad×Int×am×Int×Mp Int aa×Int×Int×Int×Int×Arr 8 ak×Arr 8 Int×Sl aa×Sl aw):=
 (c_ 100000 (pB x_0_c now_1 up_2) (0,x_0_c,x_0_routes,x_0_at,x_0_volatile_phase,x_0_volatile_plan,x_0_volatile_cur,x_0_volatile_sent,x_0_volatile_rest,x_0_volatile_skip,x_0_volatile_healed,x_0_volatile_est,x_0_volatile_asked,x_0_l,x_0_volatile_want,x_0_volatile_out,x_0_volatile_events)).bind fun(x90,s91,x92,i93,x94,i95,i96,i97,i98,i99,v100,v101,s102,m103,s104,s105)=>
 some (x90,s91,s102,x92,i93,x94,i95,m103,i96,i97,i98,i99,v100,v101,s104,s105)
theorem BN(x_0_c:aj)(x_0_routes:Sl (Sl (Sl Int)))(x_0_l:Sl ai)(x_0_at:ad)(x_0_volatile_phase:Int)(x_0_volatile_plan:am)(x_0_volatile_cur:Int)(x_0_volatile_want:Mp Int aa)(x_0_volatile_sent:Int)(x_0_volatile_rest:Int)(x_0_volatile_skip:Int)(x_0_volatile_healed:Int)(x_0_volatile_est:Arr 8 ak)(x_0_volatile_asked:Arr 8 Int)(x_0_volatile_out:Sl aa)(x_0_volatile_events:Sl aw)(now_1:Int)(up_2:Int):aN (sG x_0_c x_0_routes x_0_l x_0_at x_0_volatile_phase x_0_volatile_plan x_0_volatile_cur x_0_volatile_want x_0_volatile_sent x_0_volatile_rest x_0_volatile_skip x_0_volatile_healed x_0_volatile_est x_0_volatile_asked x_0_volatile_out x_0_volatile_events now_1 up_2) (mB x_0_c x_0_routes x_0_l x_0_at x_0_volatile_phase x_0_volatile_plan x_0_volatile_cur x_0_volatile_want x_0_volatile_sent x_0_volatile_rest x_0_volatile_skip x_0_volatile_healed x_0_volatile_est x_0_volatile_asked x_0_volatile_out x_0_volatile_events now_1 up_2):=by
 unfold sG mB
 with_reducible repeat' first
  |apply yA
  |refine aN.loop (fun _=>?_) _ _
  |refine aN.bind ?_ (fun _=>?_)
  |(split<;>try dsimp only)
  |exact aN.refl _
def qs(up_2:Int)(x19:aj):(Int×aj×Sl (Sl (Sl Int))×ad×Int×am×Int×Int×Int×Int×Int×Arr 8 ak×Arr 8 Int×Sl ai×Mp Int aa×Sl aa×Sl aw)->Option ((Int×aj×Sl (Sl (Sl Int))×ad×Int×am×Int×Int×Int×Int×Int×Arr 8 ak×Arr 8 Int×Sl ai×Mp Int aa×Sl aa×Sl aw)⊕(aj×Sl (Sl (Sl Int))×ad×Int×am×Int×Int×Int×Int×Int×Arr 8 ak×Arr 8 Int×Sl ai×Mp Int aa×Sl aa×Sl aw)):=fun(i53,x54,s55,x56,i57,x58,i59,i60,i61,i62,i63,v64,v65,s66,m67,s68,s69)=>
 bif decide (i53<(ao.au (aj.T x19)))then(((yt .i64 (og .i64 (ad.oD x56) up_2) i53).bind fun i70=>
 bif((og .i64 i70 1)==1)then((g_ (s68.l++[(⟨5,i53,ad.U x56,(-1),0,0,0,0,0,Sl.nil⟩:aa)])).bind fun l71=>
 some (x54,s55,x56,i57,x58,i59,i60,i61,i62,i63,v64,v65,s66,m67,(Sl.mk l71),s69))else
 (some (x54,s55,x56,i57,x58,i59,i60,i61,i62,i63,v64,v65,s66,m67,s68,s69)):Option (aj×Sl (Sl (Sl Int))×ad×Int×am×Int×Int×Int×Int×Int×Arr 8 ak×Arr 8 Int×Sl ai×Mp Int aa×Sl aa×Sl aw)).bind fun(x72,s73,x74,i75,x76,i77,i78,i79,i80,i81,v82,v83,s84,m85,s86,s87)=>
 some (.inl (wr .i64 (i53+1),x72,s73,x74,i75,x76,i77,i78,i79,i80,i81,v82,v83,s84,m85,s86,s87)))else
 (some (.inr (x54,s55,x56,i57,x58,i59,i60,i61,i62,i63,v64,v65,s66,m67,s68,s69)))
theorem zI(up_2:Int)(x19:aj):∀s,aN (qs up_2 x19 s) (mh up_2 x19 s):=by
 intro s;unfold qs mh;rw[o_]
 with_reducible repeat' first
  |refine aN.cond ?_ ?_
  |refine aN.bind ?_ (fun _=>?_)
  |(split<;>try dsimp only)
  |exact aN.refl _
def t7(x_0_c:aj)(x_0_routes:Sl (Sl (Sl Int)))(x_0_l:Sl ai)(x_0_at:ad)(x_0_volatile_phase:Int)(x_0_volatile_plan:am)(x_0_volatile_cur:Int)(x_0_volatile_want:Mp Int aa)(x_0_volatile_sent:Int)(x_0_volatile_rest:Int)(x_0_volatile_skip:Int)(x_0_volatile_healed:Int)(x_0_volatile_est:Arr 8 ak)(x_0_volatile_asked:Arr 8 Int)(x_0_volatile_out:Sl aa)(x_0_volatile_events:Sl aw)(now_1:Int)(up_2:Int):Option (aj×Sl (Sl (Sl Int))×Sl ai×ad×Int×am×Int×Mp Int aa×Int×Int×Int×Int×Arr 8 ak×Arr 8 Int×Sl aa×Sl aw):=
 (bif((ad.oD x_0_at)==0)then(some (true,x_0_c,x_0_routes,x_0_at,x_0_volatile_phase,x_0_volatile_plan,x_0_volatile_cur,x_0_volatile_sent,x_0_volatile_rest,x_0_volatile_skip,x_0_volatile_healed,x_0_volatile_est,x_0_volatile_asked,x_0_l,x_0_volatile_want,x_0_volatile_out,x_0_volatile_events))else
 ((lw x_0_c x_0_routes x_0_l x_0_at x_0_volatile_phase x_0_volatile_plan x_0_volatile_cur x_0_volatile_want x_0_volatile_sent x_0_volatile_rest x_0_volatile_skip x_0_volatile_healed x_0_volatile_est x_0_volatile_asked x_0_volatile_out x_0_volatile_events now_1 x_0_volatile_healed).bind fun(r1,q2,q3,s4,q5,q6,q7,q8,q9,q10,q11,q12,q13,q14,q15,s16,s17)=>
 some ((!r1),q2,q3,q5,q6,q7,q8,q10,q11,q12,q13,q14,q15,s4,q9,s16,s17)):Option (Bool×aj×Sl (Sl (Sl Int))×ad×Int×am×Int×Int×Int×Int×Int×Arr 8 ak×Arr 8 Int×Sl ai×Mp Int aa×Sl aa×Sl aw)).bind fun(b18,x19,s20,x21,i22,x23,i24,i25,i26,i27,i28,v29,v30,s31,m32,s33,s34)=>
 bif b18 then(some (x19,s20,s31,x21,i22,x23,i24,m32,i25,i26,i27,i28,v29,v30,s33,s34))else
 ((c_ 100000 (qs up_2 x19) (0,x19,s20,x21,i22,x23,i24,i25,i26,i27,now_1,v29,v30,s31,m32,s33,s34)).bind fun(x88,s89,x90,i91,x92,i93,i94,i95,i96,i97,v98,v99,s100,m101,s102,s103)=>
 some (x88,s89,s100,x90,i91,x92,i93,m101,i94,i95,i96,i97,v98,v99,s102,s103))
theorem CD(x_0_c:aj)(x_0_routes:Sl (Sl (Sl Int)))(x_0_l:Sl ai)(x_0_at:ad)(x_0_volatile_phase:Int)(x_0_volatile_plan:am)(x_0_volatile_cur:Int)(x_0_volatile_want:Mp Int aa)(x_0_volatile_sent:Int)(x_0_volatile_rest:Int)(x_0_volatile_skip:Int)(x_0_volatile_healed:Int)(x_0_volatile_est:Arr 8 ak)(x_0_volatile_asked:Arr 8 Int)(x_0_volatile_out:Sl aa)(x_0_volatile_events:Sl aw)(now_1:Int)(up_2:Int):aN (t7 x_0_c x_0_routes x_0_l x_0_at x_0_volatile_phase x_0_volatile_plan x_0_volatile_cur x_0_volatile_want x_0_volatile_sent x_0_volatile_rest x_0_volatile_skip x_0_volatile_healed x_0_volatile_est x_0_volatile_asked x_0_volatile_out x_0_volatile_events now_1 up_2) (nU x_0_c x_0_routes x_0_l x_0_at x_0_volatile_phase x_0_volatile_plan x_0_volatile_cur x_0_volatile_want x_0_volatile_sent x_0_volatile_rest x_0_volatile_skip x_0_volatile_healed x_0_volatile_est x_0_volatile_asked x_0_volatile_out x_0_volatile_events now_1 up_2):=by
 unfold t7 nU
 with_reducible repeat' first
  |apply zI
  |refine aN.loop (fun _=>?_) _ _
  |refine aN.cond ?_ ?_
  |refine aN.bind ?_ (fun _=>?_)
  |(split<;>try dsimp only)
  |exact aN.refl _
def rM(x_0_c:aj)(x_0_routes:Sl (Sl (Sl Int)))(x_0_l:Sl ai)(x_0_at:ad)(x_0_volatile_phase:Int)(x_0_volatile_plan:am)(x_0_volatile_cur:Int)(x_0_volatile_want:Mp Int aa)(x_0_volatile_sent:Int)(x_0_volatile_rest:Int)(x_0_volatile_skip:Int)(x_0_volatile_healed:Int)(x_0_volatile_est:Arr 8 ak)(x_0_volatile_asked:Arr 8 Int)(x_0_volatile_out:Sl aa)(x_0_volatile_events:Sl aw)(r_1:aQ):Option (Sl Int×Bool×aj×Sl (Sl (Sl Int))×Sl ai×ad×Int×am×Int×Mp Int aa×Int×Int×Int×Int×Arr 8 ak×Arr 8 Int×Sl aa×Sl aw):=
 (c_ 100000 (t_ x_0_c x_0_volatile_est r_1) (0,Sl.nil)).bind fun
 |.inl b12=>(some (Sl.nil,b12,x_0_c,x_0_routes,x_0_l,x_0_at,x_0_volatile_phase,x_0_volatile_plan,x_0_volatile_cur,x_0_volatile_want,x_0_volatile_sent,x_0_volatile_rest,x_0_volatile_skip,x_0_volatile_healed,x_0_volatile_est,x_0_volatile_asked,x_0_volatile_out,x_0_volatile_events))
 |.inr s13=>(some (s13,true,x_0_c,x_0_routes,x_0_l,x_0_at,x_0_volatile_phase,x_0_volatile_plan,x_0_volatile_cur,x_0_volatile_want,x_0_volatile_sent,x_0_volatile_rest,x_0_volatile_skip,x_0_volatile_healed,x_0_volatile_est,x_0_volatile_asked,x_0_volatile_out,x_0_volatile_events))
theorem xN(x_0_c:aj)(x_0_routes:Sl (Sl (Sl Int)))(x_0_l:Sl ai)(x_0_at:ad)(x_0_volatile_phase:Int)(x_0_volatile_plan:am)(x_0_volatile_cur:Int)(x_0_volatile_want:Mp Int aa)(x_0_volatile_sent:Int)(x_0_volatile_rest:Int)(x_0_volatile_skip:Int)(x_0_volatile_healed:Int)(x_0_volatile_est:Arr 8 ak)(x_0_volatile_asked:Arr 8 Int)(x_0_volatile_out:Sl aa)(x_0_volatile_events:Sl aw)(r_1:aQ):aN (rM x_0_c x_0_routes x_0_l x_0_at x_0_volatile_phase x_0_volatile_plan x_0_volatile_cur x_0_volatile_want x_0_volatile_sent x_0_volatile_rest x_0_volatile_skip x_0_volatile_healed x_0_volatile_est x_0_volatile_asked x_0_volatile_out x_0_volatile_events r_1) (nv x_0_c x_0_routes x_0_l x_0_at x_0_volatile_phase x_0_volatile_plan x_0_volatile_cur x_0_volatile_want x_0_volatile_sent x_0_volatile_rest x_0_volatile_skip x_0_volatile_healed x_0_volatile_est x_0_volatile_asked x_0_volatile_out x_0_volatile_events r_1):=by
 unfold rM nv
 with_reducible repeat' first
  |refine aN.loop (fun _=>?_) _ _
  |refine aN.bind ?_ (fun _=>?_)
  |(split<;>try dsimp only)
  |exact aN.refl _
def qo(s_0:ad)(r_1:ai):Option (ad×Bool):=
 (bif((ad.jz s_0)||((ai.B r_1) !=0))then(some true)else
 ((gH (ai.A r_1) 8).bind fun r1=>
 bif(!r1)then(some true)else
 ((yt .i64 (ad.oD s_0) (ai.A r_1)).bind fun i2=>
 some ((og .i64 i2 1)==0))):Option Bool).bind fun b3=>
 bif b3 then(some (s_0,false))else
 ((zd .i64 1 (ai.A r_1)).bind fun i4=>
 some ((⟨ad.U s_0,ad.pU s_0,ad.jz s_0,ad.eQ s_0,ad.At s_0,ad.f9 s_0,ad.oU s_0,ad.bH s_0,mn .i64 (ad.oD s_0) i4⟩:ad),true))
theorem zx(s_0:ad)(r_1:ai):aN (qo s_0 r_1) (me s_0 r_1):=by
 unfold qo me;rw[kB,o_]
 with_reducible repeat' first
  |refine aN.cond ?_ ?_
  |refine aN.bind ?_ (fun _=>?_)
  |exact aN.refl _
def tV(s_0:ad)(r_1:ai):Option (ad×Int):=
 (bif((ai.cY r_1)==1)then((rJ s_0 r_1).bind fun(r1,r2)=>
 some (r2,r1))else
 (bif((ai.U r_1) !=(ad.U s_0))then(some (false,s_0))else
 (bif((ai.cY r_1)==7)then((qo s_0 r_1).bind fun(r3,r4)=>
 some (r4,r3))else
 ((jW s_0 r_1).bind fun(r5,r6)=>
 some (r6,r5)))):Option (Bool×ad)).bind fun(b7,x8)=>
 bif(!b7)then(some (s_0,5))else
 (some (x8,0))
theorem CA(s_0:ad)(r_1:ai):aN (tV s_0 r_1) (fP s_0 r_1):=by
 unfold tV fP
 with_reducible repeat' first
  |apply zx
  |refine aN.cond ?_ ?_
  |refine aN.bind ?_ (fun _=>?_)
  |(split<;>try dsimp only)
  |exact aN.refl _
def eV(x_0_c:aj)(x_0_routes:Sl (Sl (Sl Int)))(x_0_l:Sl ai)(x_0_at:ad)(x_0_volatile_phase:Int)(x_0_volatile_plan:am)(x_0_volatile_cur:Int)(x_0_volatile_want:Mp Int aa)(x_0_volatile_sent:Int)(x_0_volatile_rest:Int)(x_0_volatile_skip:Int)(x_0_volatile_healed:Int)(x_0_volatile_est:Arr 8 ak)(x_0_volatile_asked:Arr 8 Int)(x_0_volatile_out:Sl aa)(x_0_volatile_events:Sl aw)(kind_1:Int)(u_2:Int)(a_3:Int)(b_4:Int):Option (aj×Sl (Sl (Sl Int))×Sl ai×ad×Int×am×Int×Mp Int aa×Int×Int×Int×Int×Arr 8 ak×Arr 8 Int×Sl aa×Sl aw):=
 (g_ (x_0_l.l++[(⟨kind_1,u_2,a_3,b_4⟩:ai)])).bind fun l1=>
 (tV x_0_at (⟨kind_1,u_2,a_3,b_4⟩:ai)).bind fun(r2,_)=>
 some (x_0_c,x_0_routes,(Sl.mk l1),r2,x_0_volatile_phase,x_0_volatile_plan,x_0_volatile_cur,x_0_volatile_want,x_0_volatile_sent,x_0_volatile_rest,x_0_volatile_skip,x_0_volatile_healed,x_0_volatile_est,x_0_volatile_asked,x_0_volatile_out,x_0_volatile_events)
theorem g9(x_0_c:aj)(x_0_routes:Sl (Sl (Sl Int)))(x_0_l:Sl ai)(x_0_at:ad)(x_0_volatile_phase:Int)(x_0_volatile_plan:am)(x_0_volatile_cur:Int)(x_0_volatile_want:Mp Int aa)(x_0_volatile_sent:Int)(x_0_volatile_rest:Int)(x_0_volatile_skip:Int)(x_0_volatile_healed:Int)(x_0_volatile_est:Arr 8 ak)(x_0_volatile_asked:Arr 8 Int)(x_0_volatile_out:Sl aa)(x_0_volatile_events:Sl aw)(kind_1:Int)(u_2:Int)(a_3:Int)(b_4:Int):aN (eV x_0_c x_0_routes x_0_l x_0_at x_0_volatile_phase x_0_volatile_plan x_0_volatile_cur x_0_volatile_want x_0_volatile_sent x_0_volatile_rest x_0_volatile_skip x_0_volatile_healed x_0_volatile_est x_0_volatile_asked x_0_volatile_out x_0_volatile_events kind_1 u_2 a_3 b_4) (eI x_0_c x_0_routes x_0_l x_0_at x_0_volatile_phase x_0_volatile_plan x_0_volatile_cur x_0_volatile_want x_0_volatile_sent x_0_volatile_rest x_0_volatile_skip x_0_volatile_healed x_0_volatile_est x_0_volatile_asked x_0_volatile_out x_0_volatile_events kind_1 u_2 a_3 b_4):=by
 unfold eV eI
 with_reducible repeat' first
  |apply CA
  |refine aN.bind ?_ (fun _=>?_)
  |(split<;>try dsimp only)
  |exact aN.refl _
def nT(x_0_c:aj)(x_0_routes:Sl (Sl (Sl Int)))(x_0_l:Sl ai)(x_0_at:ad)(x_0_volatile_phase:Int)(x_0_volatile_plan:am)(x_0_volatile_cur:Int)(x_0_volatile_want:Mp Int aa)(_x_0_volatile_sent:Int)(x_0_volatile_rest:Int)(x_0_volatile_skip:Int)(x_0_volatile_healed:Int)(x_0_volatile_est:Arr 8 ak)(x_0_volatile_asked:Arr 8 Int)(x_0_volatile_out:Sl aa)(x_0_volatile_events:Sl aw)(now_1:Int):Option (aj×Sl (Sl (Sl Int))×Sl ai×ad×Int×am×Int×Mp Int aa×Int×Int×Int×Int×Arr 8 ak×Arr 8 Int×Sl aa×Sl aw):=
 bif FL x_0_volatile_want then((c_ 100000 (mV x_0_volatile_want) (0,x_0_c,x_0_routes,x_0_at,x_0_volatile_phase,x_0_volatile_plan,x_0_volatile_cur,now_1,x_0_volatile_rest,x_0_volatile_skip,x_0_volatile_healed,x_0_volatile_est,x_0_volatile_asked,x_0_l,x_0_volatile_want,x_0_volatile_out,x_0_volatile_events)).bind fun(x38,s39,x40,i41,x42,i43,i44,i45,i46,i47,v48,v49,s50,m51,s52,s53)=>
 some (x38,s39,s50,x40,i41,x42,i43,m51,i44,i45,i46,i47,v48,v49,s52,s53))else(none)
theorem uL(x_0_c:aj)(x_0_routes:Sl (Sl (Sl Int)))(x_0_l:Sl ai)(x_0_at:ad)(x_0_volatile_phase:Int)(x_0_volatile_plan:am)(x_0_volatile_cur:Int)(x_0_volatile_want:Mp Int aa)(_x_0_volatile_sent:Int)(x_0_volatile_rest:Int)(x_0_volatile_skip:Int)(x_0_volatile_healed:Int)(x_0_volatile_est:Arr 8 ak)(x_0_volatile_asked:Arr 8 Int)(x_0_volatile_out:Sl aa)(x_0_volatile_events:Sl aw)(now_1:Int):aN (nT x_0_c x_0_routes x_0_l x_0_at x_0_volatile_phase x_0_volatile_plan x_0_volatile_cur x_0_volatile_want _x_0_volatile_sent x_0_volatile_rest x_0_volatile_skip x_0_volatile_healed x_0_volatile_est x_0_volatile_asked x_0_volatile_out x_0_volatile_events now_1) (jw x_0_c x_0_routes x_0_l x_0_at x_0_volatile_phase x_0_volatile_plan x_0_volatile_cur x_0_volatile_want _x_0_volatile_sent x_0_volatile_rest x_0_volatile_skip x_0_volatile_healed x_0_volatile_est x_0_volatile_asked x_0_volatile_out x_0_volatile_events now_1):=by
 unfold nT jw
 with_reducible repeat' first
  |refine aN.loop (fun _=>?_) _ _
  |refine aN.cond ?_ ?_
  |refine aN.bind ?_ (fun _=>?_)
  |(split<;>try dsimp only)
  |exact aN.refl _
def mD(x_0_c:aj)(x_0_routes:Sl (Sl (Sl Int)))(x_0_l:Sl ai)(x_0_at:ad)(x_0_volatile_phase:Int)(x_0_volatile_plan:am)(x_0_volatile_cur:Int)(_x_0_volatile_want:Mp Int aa)(x_0_volatile_sent:Int)(x_0_volatile_rest:Int)(x_0_volatile_skip:Int)(x_0_volatile_healed:Int)(x_0_volatile_est:Arr 8 ak)(x_0_volatile_asked:Arr 8 Int)(x_0_volatile_out:Sl aa)(x_0_volatile_events:Sl aw)(now_1:Int)(l_2:Sl aa):Option (aj×Sl (Sl (Sl Int))×Sl ai×ad×Int×am×Int×Mp Int aa×Int×Int×Int×Int×Arr 8 ak×Arr 8 Int×Sl aa×Sl aw):=
 (c_ 100000 (qw l_2) (0,x_0_c,x_0_routes,x_0_at,x_0_volatile_phase,x_0_volatile_plan,x_0_volatile_cur,x_0_volatile_sent,x_0_volatile_rest,x_0_volatile_skip,x_0_volatile_healed,x_0_volatile_est,x_0_volatile_asked,x_0_l,(Mp.none:Mp Int aa),x_0_volatile_out,x_0_volatile_events)).bind fun(x38,s39,x40,i41,x42,i43,i44,i45,i46,i47,v48,v49,s50,m51,s52,s53)=>
 (nT x38 s39 s50 x40 i41 x42 i43 m51 i44 i45 i46 i47 v48 v49 s52 s53 now_1).bind fun(q54,q55,s56,q57,q58,q59,q60,q61,q62,q63,q64,q65,q66,q67,s68,s69)=>
 some (q54,q55,s56,q57,q58,q59,q60,q61,q62,q63,q64,q65,q66,q67,s68,s69)
theorem qv(x_0_c:aj)(x_0_routes:Sl (Sl (Sl Int)))(x_0_l:Sl ai)(x_0_at:ad)(x_0_volatile_phase:Int)(x_0_volatile_plan:am)(x_0_volatile_cur:Int)(_x_0_volatile_want:Mp Int aa)(x_0_volatile_sent:Int)(x_0_volatile_rest:Int)(x_0_volatile_skip:Int)(x_0_volatile_healed:Int)(x_0_volatile_est:Arr 8 ak)(x_0_volatile_asked:Arr 8 Int)(x_0_volatile_out:Sl aa)(x_0_volatile_events:Sl aw)(now_1:Int)(l_2:Sl aa):aN (mD x_0_c x_0_routes x_0_l x_0_at x_0_volatile_phase x_0_volatile_plan x_0_volatile_cur _x_0_volatile_want x_0_volatile_sent x_0_volatile_rest x_0_volatile_skip x_0_volatile_healed x_0_volatile_est x_0_volatile_asked x_0_volatile_out x_0_volatile_events now_1 l_2) (jY x_0_c x_0_routes x_0_l x_0_at x_0_volatile_phase x_0_volatile_plan x_0_volatile_cur _x_0_volatile_want x_0_volatile_sent x_0_volatile_rest x_0_volatile_skip x_0_volatile_healed x_0_volatile_est x_0_volatile_asked x_0_volatile_out x_0_volatile_events now_1 l_2):=by
 unfold mD jY
 with_reducible repeat' first
  |apply uL
  |refine aN.loop (fun _=>?_) _ _
  |refine aN.bind ?_ (fun _=>?_)
  |(split<;>try dsimp only)
  |exact aN.refl _
def kZ(_:aj)(_:Sl (Sl (Sl Int)))(_:Sl ai)(_:ad)(_:Int)(_:am)(_:Int)(_:Mp Int aa)(_:Int)(_:Int)(_:Int)(_:Int)(_:Arr 8 ak)(_:Arr 8 Int)(_:Sl aa)(_:Sl aw)(_:Int)(_:Int):Option (aj×Sl (Sl (Sl Int))×Sl ai×ad×Int×am×Int×Mp Int aa×Int×Int×Int×Int×Arr 8 ak×Arr 8 Int×Sl aa×Sl aw):=none
theorem sF(x_0_c:aj)(x_0_routes:Sl (Sl (Sl Int)))(x_0_l:Sl ai)(x_0_at:ad)(x_0_volatile_phase:Int)(x_0_volatile_plan:am)(x_0_volatile_cur:Int)(x_0_volatile_want:Mp Int aa)(x_0_volatile_sent:Int)(x_0_volatile_rest:Int)(x_0_volatile_skip:Int)(x_0_volatile_healed:Int)(x_0_volatile_est:Arr 8 ak)(x_0_volatile_asked:Arr 8 Int)(x_0_volatile_out:Sl aa)(x_0_volatile_events:Sl aw)(now_1:Int)(up_2:Int):aN (kZ x_0_c x_0_routes x_0_l x_0_at x_0_volatile_phase x_0_volatile_plan x_0_volatile_cur x_0_volatile_want x_0_volatile_sent x_0_volatile_rest x_0_volatile_skip x_0_volatile_healed x_0_volatile_est x_0_volatile_asked x_0_volatile_out x_0_volatile_events now_1 up_2) (ik x_0_c x_0_routes x_0_l x_0_at x_0_volatile_phase x_0_volatile_plan x_0_volatile_cur x_0_volatile_want x_0_volatile_sent x_0_volatile_rest x_0_volatile_skip x_0_volatile_healed x_0_volatile_est x_0_volatile_asked x_0_volatile_out x_0_volatile_events now_1 up_2):=fun _ h=>nomatch h
def t8(_:aj)(_:Sl (Sl (Sl Int)))(_:Sl ai)(_:ad)(_:Int)(_:am)(_:Int)(_:Mp Int aa)(_:Int)(_:Int)(_:Int)(_:Int)(_:Arr 8 ak)(_:Arr 8 Int)(_:Sl aa)(_:Sl aw)(_:Int)(_:Int):Option (aj×Sl (Sl (Sl Int))×Sl ai×ad×Int×am×Int×Mp Int aa×Int×Int×Int×Int×Arr 8 ak×Arr 8 Int×Sl aa×Sl aw):=none
theorem CE(x_0_c:aj)(x_0_routes:Sl (Sl (Sl Int)))(x_0_l:Sl ai)(x_0_at:ad)(x_0_volatile_phase:Int)(x_0_volatile_plan:am)(x_0_volatile_cur:Int)(x_0_volatile_want:Mp Int aa)(x_0_volatile_sent:Int)(x_0_volatile_rest:Int)(x_0_volatile_skip:Int)(x_0_volatile_healed:Int)(x_0_volatile_est:Arr 8 ak)(x_0_volatile_asked:Arr 8 Int)(x_0_volatile_out:Sl aa)(x_0_volatile_events:Sl aw)(now_1:Int)(up_2:Int):aN (t8 x_0_c x_0_routes x_0_l x_0_at x_0_volatile_phase x_0_volatile_plan x_0_volatile_cur x_0_volatile_want x_0_volatile_sent x_0_volatile_rest x_0_volatile_skip x_0_volatile_healed x_0_volatile_est x_0_volatile_asked x_0_volatile_out x_0_volatile_events now_1 up_2) (nV x_0_c x_0_routes x_0_l x_0_at x_0_volatile_phase x_0_volatile_plan x_0_volatile_cur x_0_volatile_want x_0_volatile_sent x_0_volatile_rest x_0_volatile_skip x_0_volatile_healed x_0_volatile_est x_0_volatile_asked x_0_volatile_out x_0_volatile_events now_1 up_2):=fun _ h=>nomatch h
def pA(p_0:am)(i7:Int)(n9:Nat):(Int×Int×Arr 8 Int)->Option ((Int×Int×Arr 8 Int)⊕(Int×Arr 8 Int)):=fun(i15,i16,v17)=>
 bif decide (i16<(((aQ.pT (gt ((am.aV p_0).l) n9)).l).length:Int))then((cH i16 ((aQ.pT (gt ((am.aV p_0).l) n9)).l).length).bind fun n18=>
 (zd .i64 1 (gt ((aQ.pT (gt ((am.aV p_0).l) n9)).l) n18)).bind fun i19=>
 (cH (gt ((aQ.pT (gt ((am.aV p_0).l) n9)).l) n18) 8).bind fun n20=>
 (zd .i64 1 i7).bind fun i21=>
 (cH (gt ((aQ.pT (gt ((am.aV p_0).l) n9)).l) n18) 8).bind fun n22=>
 some (.inl (Fe .i64 i15 i19,wr .i64 (i16+1),Arr.set v17 n22 (Fe .i64 (gt v17.1 n20) i21))))else
 (some (.inr (i15,v17)))
theorem yz(p_0:am)(i7:Int)(n9:Nat):∀s,aN (pA p_0 i7 n9 s) (nQ p_0 i7 n9 s):=by
 intro s;unfold pA nQ;rw[xW]
 with_reducible repeat' first
  |refine aN.cond ?_ ?_
  |refine aN.bind ?_ (fun _=>?_)
  |(split<;>try dsimp only)
  |exact aN.refl _
def pz(p_0:am):(Int×Int×Arr 8 Int)->Option ((Int×Int×Arr 8 Int)⊕(Int×Arr 8 Int)):=fun(i6,i7,v8)=>
 bif decide (i7<(((am.aV p_0).l).length:Int))then((cH i7 ((am.aV p_0).l).length).bind fun n9=>
 (c_ 100000 (pA p_0 i7 n9) (i6,0,v8)).bind fun(i23,v24)=>
 some (.inl (i23,wr .i64 (i7+1),v24)))else
 (some (.inr (i6,v8)))
theorem yy(p_0:am):∀s,aN (pz p_0 s) (nP p_0 s):=by
 intro s;unfold pz nP
 with_reducible repeat' first
  |apply yz
  |refine aN.loop (fun _=>?_) _ _
  |refine aN.cond ?_ ?_
  |refine aN.bind ?_ (fun _=>?_)
  |(split<;>try dsimp only)
  |exact aN.refl _
def mg(p_0:am):Option (Int×Arr 8 Int):=
 (c_ 100000 (pz p_0) (0,0,(qK (.ar 8 (.i .i64))))).bind fun(i25,v26)=>
 some (i25,v26)
theorem rC(p_0:am):aN (mg p_0) (jb p_0):=by
 unfold mg jb
 with_reducible repeat' first
  |apply yy
  |refine aN.loop (fun _=>?_) _ _
  |refine aN.bind ?_ (fun _=>?_)
  |(split<;>try dsimp only)
  |exact aN.refl _
def sE(_:aj)(_:Sl (Sl (Sl Int)))(_:Sl ai)(_:ad)(_:Int)(_:am)(_:Int)(_:Mp Int aa)(_:Int)(_:Int)(_:Int)(_:Int)(_:Arr 8 ak)(_:Arr 8 Int)(_:Sl aa)(_:Sl aw)(_:Int)(_:Int):Option (aj×Sl (Sl (Sl Int))×Sl ai×ad×Int×am×Int×Mp Int aa×Int×Int×Int×Int×Arr 8 ak×Arr 8 Int×Sl aa×Sl aw):=none
theorem BM(x_0_c:aj)(x_0_routes:Sl (Sl (Sl Int)))(x_0_l:Sl ai)(x_0_at:ad)(x_0_volatile_phase:Int)(x_0_volatile_plan:am)(x_0_volatile_cur:Int)(x_0_volatile_want:Mp Int aa)(x_0_volatile_sent:Int)(x_0_volatile_rest:Int)(x_0_volatile_skip:Int)(x_0_volatile_healed:Int)(x_0_volatile_est:Arr 8 ak)(x_0_volatile_asked:Arr 8 Int)(x_0_volatile_out:Sl aa)(x_0_volatile_events:Sl aw)(now_1:Int)(up_2:Int):aN (sE x_0_c x_0_routes x_0_l x_0_at x_0_volatile_phase x_0_volatile_plan x_0_volatile_cur x_0_volatile_want x_0_volatile_sent x_0_volatile_rest x_0_volatile_skip x_0_volatile_healed x_0_volatile_est x_0_volatile_asked x_0_volatile_out x_0_volatile_events now_1 up_2) (mA x_0_c x_0_routes x_0_l x_0_at x_0_volatile_phase x_0_volatile_plan x_0_volatile_cur x_0_volatile_want x_0_volatile_sent x_0_volatile_rest x_0_volatile_skip x_0_volatile_healed x_0_volatile_est x_0_volatile_asked x_0_volatile_out x_0_volatile_events now_1 up_2):=fun _ h=>nomatch h
def o8(x_0_c:aj)(x_0_routes:Sl (Sl (Sl Int)))(x_0_l:Sl ai)(x_0_at:ad)(x_0_volatile_phase:Int)(x_0_volatile_plan:am)(x_0_volatile_cur:Int)(x_0_volatile_want:Mp Int aa)(x_0_volatile_sent:Int)(x_0_volatile_rest:Int)(x_0_volatile_skip:Int)(x_0_volatile_healed:Int)(x_0_volatile_est:Arr 8 ak)(x_0_volatile_asked:Arr 8 Int)(x_0_volatile_out:Sl aa)(x_0_volatile_events:Sl aw)(now_1:Int)(up_2:Int):Option (aj×Sl (Sl (Sl Int))×Sl ai×ad×Int×am×Int×Mp Int aa×Int×Int×Int×Int×Arr 8 ak×Arr 8 Int×Sl aa×Sl aw):=
 (eJ x_0_c x_0_routes x_0_l x_0_at x_0_volatile_phase x_0_volatile_plan x_0_volatile_cur x_0_volatile_want x_0_volatile_sent x_0_volatile_rest x_0_volatile_skip x_0_volatile_healed x_0_volatile_est x_0_volatile_asked x_0_volatile_out x_0_volatile_events).bind fun(r1,q2,q3,s4,q5,q6,q7,q8,q9,q10,q11,q12,q13,q14,q15,s16,s17)=>
 bif(r1==6)then(some (q2,q3,s4,q5,q6,q7,q8,q9,q10,q11,q12,q13,q14,q15,s16,s17))else
 ((sG q2 q3 s4 q5 q6 q7 q8 q9 q10 q11 q12 q13 q14 q15 s16 s17 now_1 up_2).bind fun(q18,q19,s20,q21,q22,q23,q24,q25,q26,q27,q28,q29,q30,q31,s32,s33)=>
 bif(q22==0)then((t7 q18 q19 s20 q21 q22 q23 q24 q25 q26 q27 q28 q29 q30 q31 s32 s33 now_1 up_2).bind fun(q34,q35,s36,q37,q38,q39,q40,q41,q42,q43,q44,q45,q46,q47,s48,s49)=>
 some (q34,q35,s36,q37,q38,q39,q40,q41,q42,q43,q44,q45,q46,q47,s48,s49))else
 (bif(q22==5)then((t8 q18 q19 s20 q21 q22 q23 q24 q25 q26 q27 q28 q29 q30 q31 s32 s33 now_1 up_2).bind fun(q50,q51,s52,q53,q54,q55,q56,q57,q58,q59,q60,q61,q62,q63,s64,s65)=>
 some (q50,q51,s52,q53,q54,q55,q56,q57,q58,q59,q60,q61,q62,q63,s64,s65))else
 ((sE q18 q19 s20 q21 q22 q23 q24 q25 q26 q27 q28 q29 q30 q31 s32 s33 now_1 up_2).bind fun(q66,q67,s68,q69,q70,q71,q72,q73,q74,q75,q76,q77,q78,q79,s80,s81)=>
 some (q66,q67,s68,q69,q70,q71,q72,q73,q74,q75,q76,q77,q78,q79,s80,s81))))
theorem BQ(x_0_c:aj)(x_0_routes:Sl (Sl (Sl Int)))(x_0_l:Sl ai)(x_0_at:ad)(x_0_volatile_phase:Int)(x_0_volatile_plan:am)(x_0_volatile_cur:Int)(x_0_volatile_want:Mp Int aa)(x_0_volatile_sent:Int)(x_0_volatile_rest:Int)(x_0_volatile_skip:Int)(x_0_volatile_healed:Int)(x_0_volatile_est:Arr 8 ak)(x_0_volatile_asked:Arr 8 Int)(x_0_volatile_out:Sl aa)(x_0_volatile_events:Sl aw)(now_1:Int)(up_2:Int):aN (o8 x_0_c x_0_routes x_0_l x_0_at x_0_volatile_phase x_0_volatile_plan x_0_volatile_cur x_0_volatile_want x_0_volatile_sent x_0_volatile_rest x_0_volatile_skip x_0_volatile_healed x_0_volatile_est x_0_volatile_asked x_0_volatile_out x_0_volatile_events now_1 up_2) (jc x_0_c x_0_routes x_0_l x_0_at x_0_volatile_phase x_0_volatile_plan x_0_volatile_cur x_0_volatile_want x_0_volatile_sent x_0_volatile_rest x_0_volatile_skip x_0_volatile_healed x_0_volatile_est x_0_volatile_asked x_0_volatile_out x_0_volatile_events now_1 up_2):=by
 unfold o8 jc
 with_reducible repeat' first
  |apply BN
  |apply CD
  |apply CE
  |apply BM
  |refine aN.cond ?_ ?_
  |refine aN.bind ?_ (fun _=>?_)
  |(split<;>try dsimp only)
  |exact aN.refl _
def rh(_:aY)(_:aY):Option Bool:=none
theorem Al(a_0:aY)(b_1:aY):aN (rh a_0 b_1) (kU a_0 b_1):=fun _ h=>nomatch h
def cE(s1_0:Sl aY)(s2_1:Sl aY):Int->Option (Int⊕(Bool⊕Unit)):=fun i2=>
 bif decide (i2<(s1_0.l.length:Int))then((cH i2 s1_0.l.length).bind fun n3=>
 (cH i2 s2_1.l.length).bind fun n4=>
 (rh (gt s1_0.l n3) (gt s2_1.l n4)).bind fun r5=>
 bif(!r5)then(some (.inr (.inl false)))else
 (some (.inl (wr .i64 (i2+1)))))else
 (some (.inr (.inr ())))
theorem ge(s1_0:Sl aY)(s2_1:Sl aY):∀s,aN (cE s1_0 s2_1 s) (bI s1_0 s2_1 s):=by
 intro s;unfold cE bI
 with_reducible repeat' first
  |apply Al
  |refine aN.cond ?_ ?_
  |refine aN.bind ?_ (fun _=>?_)
  |exact aN.refl _
def cL(s1_0:Sl aY)(s2_1:Sl aY):Option Bool:=
 bif((s1_0.l.length:Int) !=(s2_1.l.length:Int))then(some false)else
 ((c_ 100000 (cE s1_0 s2_1) 0).bind fun
 |.inl b6=>(some b6)
 |.inr _=>(some true))
theorem gr(s1_0:Sl aY)(s2_1:Sl aY):aN (cL s1_0 s2_1) (bm s1_0 s2_1):=by
 unfold cL bm
 with_reducible repeat' first
  |apply ge
  |refine aN.loop (fun _=>?_) _ _
  |refine aN.cond ?_ ?_
  |refine aN.bind ?_ (fun _=>?_)
  |(split<;>try dsimp only)
  |exact aN.refl _
def wn(a_0:aa)(b_1:aa):Option Bool:=
 (bif((((((((((aa.cY a_0)==(aa.cY b_1))&&((aa.Sw a_0)==(aa.Sw b_1)))&&((aa.U a_0)==(aa.U b_1)))&&((aa.Rd a_0)==(aa.Rd b_1)))&&((aa.T1 a_0)==(aa.T1 b_1)))&&((aa.T2 a_0)==(aa.T2 b_1)))&&((aa.yG a_0)==(aa.yG b_1)))&&((aa.Of a_0)==(aa.Of b_1)))&&((aa.Code a_0)==(aa.Code b_1)))then((cL (aa.ny a_0) (aa.ny b_1)).bind fun r1=>
 some r1)else
 (some false):Option Bool).bind fun b2=>
 some b2
theorem EY(a_0:aa)(b_1:aa):aN (wn a_0 b_1) (ri a_0 b_1):=by
 unfold wn ri
 with_reducible repeat' first
  |apply gr
  |refine aN.cond ?_ ?_
  |refine aN.bind ?_ (fun _=>?_)
  |exact aN.refl _
def sq(_:aY):Option Bool:=none
theorem Bs(x_0:aY):aN (sq x_0) (mw x_0):=fun _ h=>nomatch h
def dC(s_0:Sl aY):Int->Option (Int⊕(Int⊕Unit)):=fun i2=>
 bif decide (i2<(s_0.l.length:Int))then((cH i2 s_0.l.length).bind fun n3=>
 (sq (gt s_0.l n3)).bind fun r4=>
 bif r4 then(some (.inr (.inl i2)))else
 (some (.inl (wr .i64 (i2+1)))))else
 (some (.inr (.inr ())))
theorem iR(s_0:Sl aY):∀s,aN (dC s_0 s) (cR s_0 s):=by
 intro s;unfold dC cR
 with_reducible repeat' first
  |apply Bs
  |refine aN.cond ?_ ?_
  |refine aN.bind ?_ (fun _=>?_)
  |exact aN.refl _
def d7(s_0:Sl aY):Option Int:=
 (c_ 100000 (dC s_0) 0).bind fun
 |.inl i5=>(some i5)
 |.inr _=>(some (-1))
theorem jD(s_0:Sl aY):aN (d7 s_0) (cD s_0):=by
 unfold d7 cD
 with_reducible repeat' first
  |apply iR
  |refine aN.loop (fun _=>?_) _ _
  |refine aN.bind ?_ (fun _=>?_)
  |(split<;>try dsimp only)
  |exact aN.refl _
def dE(s_0:Sl aY):Option Bool:=
 (d7 s_0).bind fun r1=>
 some (decide (r1>=0))
theorem iT(s_0:Sl aY):aN (dE s_0) (bG s_0):=by
 unfold dE bG
 with_reducible repeat' first
  |apply jD
  |refine aN.bind ?_ (fun _=>?_)
  |exact aN.refl _
def uY(m_0:aa):Option Bool:=
 (bif((aa.cY m_0)==1)then(some 1)else
 (bif((aa.cY m_0)==2)then(some 7)else
 (bif((aa.cY m_0)==3)then(some 152)else
 (bif((aa.cY m_0)==4)then(some 26)else
 (bif((aa.cY m_0)==5)then(some 24)else
 (bif((aa.cY m_0)==6)then(some 72)else
 (bif((aa.cY m_0)==7)then(some 60)else
 (bif((aa.cY m_0)==8)then(some 124)else
 (some 0)))))))):Option Int).bind fun i1=>
 (bif(i1==0)then(some true)else
 ((fY (aa.Sw m_0) 0 7).bind fun r2=>
 bif(!r2)then(some true)else
 ((rV m_0).bind fun r3=>
 (wn r3 m_0).bind fun r4=>
 some (!r4))):Option Bool).bind fun b5=>
 bif b5 then(some false)else
 ((bif((((aa.cY m_0)==5)||((aa.cY m_0)==7))||((aa.cY m_0)==8))then(some (-1))else
 (some 0):Option Int).bind fun i6=>
 ((fY (aa.T1 m_0) 0 1125899906842624).bind fun r7=>
 bif(!r7)then(some true)else
 ((fY (aa.T2 m_0) (-1125899906842624) 1125899906842624).bind fun r8=>
 bif(!r8)then(some true)else
 ((fY (aa.yG m_0) 0 65535).bind fun r9=>
 some (!r9))):Option Bool).bind fun b10=>
 bif b10 then(some false)else
 (((bif((og .i64 i1 8) !=0)then((fY (aa.U m_0) 1 65535).bind fun r11=>
 some (!r11))else
 (some false):Option Bool).bind fun b12=>
 bif b12 then(some b12)else
 ((bif((og .i64 i1 16) !=0)then((fY (aa.Rd m_0) i6 7).bind fun r13=>
 some (!r13))else
 (some false):Option Bool).bind fun b14=>
 bif b14 then(some b14)else
 ((bif((og .i64 i1 32) !=0)then((fY (aa.Of m_0) 3 6).bind fun r15=>
 some (!r15))else
 (some false):Option Bool).bind fun b16=>
 some b16)):Option Bool).bind fun b17=>
 bif b17 then(some false)else
 ((fY (aa.Code m_0) 0 255).bind fun r18=>
 bif((!r18)||(decide ((((aa.ny m_0).l).length:Int)>16)))then(some false)else
 ((dE (aa.ny m_0)).bind fun r19=>
 some (!r19)))))
theorem Dv(m_0:aa):aN (uY m_0) (pK m_0):=by
 unfold uY pK;rw[o_]
 with_reducible repeat' first
  |apply EY
  |apply iT
  |refine aN.cond ?_ ?_
  |refine aN.bind ?_ (fun _=>?_)
  |exact aN.refl _
def agj(_:aj)(_:Sl (Sl (Sl Int)))(_:Sl ai)(_:ad)(_:Int)(_:am)(_:Int)(_:Mp Int aa)(_:Int)(_:Int)(_:Int)(_:Int)(_:Arr 8 ak)(_:Arr 8 Int)(_:Sl aa)(_:Sl aw)(_:aa):Option (Bool×aj×Sl (Sl (Sl Int))×Sl ai×ad×Int×am×Int×Mp Int aa×Int×Int×Int×Int×Arr 8 ak×Arr 8 Int×Sl aa×Sl aw):=none
theorem agk(x_0_c:aj)(x_0_routes:Sl (Sl (Sl Int)))(x_0_l:Sl ai)(x_0_at:ad)(x_0_volatile_phase:Int)(x_0_volatile_plan:am)(x_0_volatile_cur:Int)(x_0_volatile_want:Mp Int aa)(x_0_volatile_sent:Int)(x_0_volatile_rest:Int)(x_0_volatile_skip:Int)(x_0_volatile_healed:Int)(x_0_volatile_est:Arr 8 ak)(x_0_volatile_asked:Arr 8 Int)(x_0_volatile_out:Sl aa)(x_0_volatile_events:Sl aw)(m_1:aa):aN (agj x_0_c x_0_routes x_0_l x_0_at x_0_volatile_phase x_0_volatile_plan x_0_volatile_cur x_0_volatile_want x_0_volatile_sent x_0_volatile_rest x_0_volatile_skip x_0_volatile_healed x_0_volatile_est x_0_volatile_asked x_0_volatile_out x_0_volatile_events m_1) (jt x_0_c x_0_routes x_0_l x_0_at x_0_volatile_phase x_0_volatile_plan x_0_volatile_cur x_0_volatile_want x_0_volatile_sent x_0_volatile_rest x_0_volatile_skip x_0_volatile_healed x_0_volatile_est x_0_volatile_asked x_0_volatile_out x_0_volatile_events m_1):=fun _ h=>nomatch h
def sI(_:aj)(_:Sl (Sl (Sl Int)))(_:Sl ai)(_:ad)(_:Int)(_:am)(_:Int)(_:Mp Int aa)(_:Int)(_:Int)(_:Int)(_:Int)(_:Arr 8 ak)(_:Arr 8 Int)(_:Sl aa)(_:Sl aw)(_:Int)(_:aa)(_:Int):Option (aj×Sl (Sl (Sl Int))×Sl ai×ad×Int×am×Int×Mp Int aa×Int×Int×Int×Int×Arr 8 ak×Arr 8 Int×Sl aa×Sl aw):=none
theorem BP(x_0_c:aj)(x_0_routes:Sl (Sl (Sl Int)))(x_0_l:Sl ai)(x_0_at:ad)(x_0_volatile_phase:Int)(x_0_volatile_plan:am)(x_0_volatile_cur:Int)(x_0_volatile_want:Mp Int aa)(x_0_volatile_sent:Int)(x_0_volatile_rest:Int)(x_0_volatile_skip:Int)(x_0_volatile_healed:Int)(x_0_volatile_est:Arr 8 ak)(x_0_volatile_asked:Arr 8 Int)(x_0_volatile_out:Sl aa)(x_0_volatile_events:Sl aw)(now_1:Int)(m_2:aa)(up_3:Int):aN (sI x_0_c x_0_routes x_0_l x_0_at x_0_volatile_phase x_0_volatile_plan x_0_volatile_cur x_0_volatile_want x_0_volatile_sent x_0_volatile_rest x_0_volatile_skip x_0_volatile_healed x_0_volatile_est x_0_volatile_asked x_0_volatile_out x_0_volatile_events now_1 m_2 up_3) (mE x_0_c x_0_routes x_0_l x_0_at x_0_volatile_phase x_0_volatile_plan x_0_volatile_cur x_0_volatile_want x_0_volatile_sent x_0_volatile_rest x_0_volatile_skip x_0_volatile_healed x_0_volatile_est x_0_volatile_asked x_0_volatile_out x_0_volatile_events now_1 m_2 up_3):=fun _ h=>nomatch h
def ua(x_0_c:aj)(x_0_routes:Sl (Sl (Sl Int)))(x_0_l:Sl ai)(x_0_at:ad)(x_0_volatile_phase:Int)(x_0_volatile_plan:am)(x_0_volatile_cur:Int)(x_0_volatile_want:Mp Int aa)(x_0_volatile_sent:Int)(x_0_volatile_rest:Int)(x_0_volatile_skip:Int)(x_0_volatile_healed:Int)(x_0_volatile_est:Arr 8 ak)(x_0_volatile_asked:Arr 8 Int)(x_0_volatile_out:Sl aa)(x_0_volatile_events:Sl aw)(now_1:Int)(m_2:aa)(up_3:Int):Option (aj×Sl (Sl (Sl Int))×Sl ai×ad×Int×am×Int×Mp Int aa×Int×Int×Int×Int×Arr 8 ak×Arr 8 Int×Sl aa×Sl aw):=
 ((eJ x_0_c x_0_routes x_0_l x_0_at x_0_volatile_phase x_0_volatile_plan x_0_volatile_cur x_0_volatile_want x_0_volatile_sent x_0_volatile_rest x_0_volatile_skip x_0_volatile_healed x_0_volatile_est x_0_volatile_asked x_0_volatile_out x_0_volatile_events).bind fun(r1,q2,q3,s4,q5,q6,q7,q8,q9,q10,q11,q12,q13,q14,q15,s16,s17)=>
 bif(r1==6)then(some (true,q2,q3,q5,q6,q7,q8,q10,q11,q12,q13,q14,q15,s4,q9,s16,s17))else
 ((uY m_2).bind fun r18=>
 some (((!r18)||(decide ((aa.Sw m_2)>=(ao.au (aj.T q2))))),q2,q3,q5,q6,q7,q8,q10,q11,q12,q13,q14,q15,s4,q9,s16,s17)):Option (Bool×aj×Sl (Sl (Sl Int))×ad×Int×am×Int×Int×Int×Int×Int×Arr 8 ak×Arr 8 Int×Sl ai×Mp Int aa×Sl aa×Sl aw)).bind fun(b19,x20,s21,x22,i23,x24,i25,i26,i27,i28,i29,v30,v31,s32,m33,s34,s35)=>
 bif b19 then(some (x20,s21,s32,x22,i23,x24,i25,m33,i26,i27,i28,i29,v30,v31,s34,s35))else
 (bif((aa.cY m_2)==2)then((cH (aa.Sw m_2) 8).bind fun n36=>
 (vw (gt v30.1 n36) (aa.T1 m_2) (aa.T2 m_2) now_1 (aj.SW x20)).bind fun(r37,r38)=>
 bif(r38==0)then((cH (aa.Sw m_2) 8).bind fun n39=>
 some (x20,s21,s32,x22,i23,x24,i25,m33,i26,i27,i28,i29,Arr.set v30 n39 r37,v31,s34,s35))else
 (some (x20,s21,s32,x22,i23,x24,i25,m33,i26,i27,i28,i29,v30,v31,s34,s35)))else
 (bif((aa.U m_2) !=(ad.U x22))then(some (x20,s21,s32,x22,i23,x24,i25,m33,i26,i27,i28,i29,v30,v31,s34,s35))else
 (bif((aa.cY m_2)==7)then((sI x20 s21 s32 x22 i23 x24 i25 m33 i26 i27 i28 i29 v30 v31 s34 s35 now_1 m_2 up_3).bind fun(q40,q41,s42,q43,q44,q45,q46,q47,q48,q49,q50,q51,q52,q53,s54,s55)=>
 some (q40,q41,s42,q43,q44,q45,q46,q47,q48,q49,q50,q51,q52,q53,s54,s55))else
 ((bif(((aa.cY m_2)==8)&&((aa.Of m_2) !=5))then((agj x20 s21 s32 x22 i23 x24 i25 m33 i26 i27 i28 i29 v30 v31 s34 s35 m_2).bind fun(r56,q57,q58,s59,q60,q61,q62,q63,q64,q65,q66,q67,q68,q69,q70,s71,s72)=>
 some (r56,q57,q58,q60,q61,q62,q63,q65,q66,q67,q68,q69,q70,s59,q64,s71,s72))else
 (some (false,x20,s21,x22,i23,x24,i25,i26,i27,i28,i29,v30,v31,s32,m33,s34,s35)):Option (Bool×aj×Sl (Sl (Sl Int))×ad×Int×am×Int×Int×Int×Int×Int×Arr 8 ak×Arr 8 Int×Sl ai×Mp Int aa×Sl aa×Sl aw)).bind fun(b73,x74,s75,x76,i77,x78,i79,i80,i81,i82,i83,v84,v85,s86,m87,s88,s89)=>
 bif b73 then((kZ x74 s75 s86 x76 i77 x78 i79 m87 i80 i81 i82 i83 v84 v85 s88 s89 now_1 up_3).bind fun(q90,q91,s92,q93,q94,q95,q96,q97,q98,q99,q100,q101,q102,q103,s104,s105)=>
 some (q90,q91,s92,q93,q94,q95,q96,q97,q98,q99,q100,q101,q102,q103,s104,s105))else
 (some (x74,s75,s86,x76,i77,x78,i79,m87,i80,i81,i82,i83,v84,v85,s88,s89))))))
theorem CF(x_0_c:aj)(x_0_routes:Sl (Sl (Sl Int)))(x_0_l:Sl ai)(x_0_at:ad)(x_0_volatile_phase:Int)(x_0_volatile_plan:am)(x_0_volatile_cur:Int)(x_0_volatile_want:Mp Int aa)(x_0_volatile_sent:Int)(x_0_volatile_rest:Int)(x_0_volatile_skip:Int)(x_0_volatile_healed:Int)(x_0_volatile_est:Arr 8 ak)(x_0_volatile_asked:Arr 8 Int)(x_0_volatile_out:Sl aa)(x_0_volatile_events:Sl aw)(now_1:Int)(m_2:aa)(up_3:Int):aN (ua x_0_c x_0_routes x_0_l x_0_at x_0_volatile_phase x_0_volatile_plan x_0_volatile_cur x_0_volatile_want x_0_volatile_sent x_0_volatile_rest x_0_volatile_skip x_0_volatile_healed x_0_volatile_est x_0_volatile_asked x_0_volatile_out x_0_volatile_events now_1 m_2 up_3) (j5 x_0_c x_0_routes x_0_l x_0_at x_0_volatile_phase x_0_volatile_plan x_0_volatile_cur x_0_volatile_want x_0_volatile_sent x_0_volatile_rest x_0_volatile_skip x_0_volatile_healed x_0_volatile_est x_0_volatile_asked x_0_volatile_out x_0_volatile_events now_1 m_2 up_3):=by
 unfold ua j5
 with_reducible repeat' first
  |apply Dv
  |apply BP
  |apply agk
  |apply sF
  |refine aN.cond ?_ ?_
  |refine aN.bind ?_ (fun _=>?_)
  |(split<;>try dsimp only)
  |exact aN.refl _
def fg(s_0:Sl Int):Option Int:=
 (c_ 100000 (cV s_0) 0).bind fun
 |.inl i5=>(some i5)
 |.inr _=>(some (-1))
theorem lY(s_0:Sl Int):aN (fg s_0) (df s_0):=by
 unfold fg df
 with_reducible repeat' first
  |refine aN.loop (fun _=>?_) _ _
  |refine aN.bind ?_ (fun _=>?_)
  |(split<;>try dsimp only)
  |exact aN.refl _
def eN(s_0:Sl Int):Option Bool:=
 (fg s_0).bind fun r1=>
 some (decide (r1>=0))
theorem kO(s_0:Sl Int):aN (eN s_0) (cr s_0):=by
 unfold eN cr
 with_reducible repeat' first
  |apply lY
  |refine aN.bind ?_ (fun _=>?_)
  |exact aN.refl _
def rb(t_0:ao)(r_1:Sl (Sl Int)):Int->Option (Int⊕(Bool⊕Unit)):=fun i3=>
 bif decide (i3<(r_1.l.length:Int))then((cH i3 r_1.l.length).bind fun n4=>
 (bif((((gt r_1.l n4).l).length:Int) !=(((ao.bn t_0).l).length:Int))then(some true)else
 ((eN (gt r_1.l n4)).bind fun r5=>
 some r5):Option Bool).bind fun b6=>
 bif b6 then(some (.inr (.inl false)))else
 (some (.inl (wr .i64 (i3+1)))))else
 (some (.inr (.inr ())))
theorem Ai(t_0:ao)(r_1:Sl (Sl Int)):∀s,aN (rb t_0 r_1 s) (kS t_0 r_1 s):=by
 intro s;unfold rb kS
 with_reducible repeat' first
  |apply kO
  |refine aN.cond ?_ ?_
  |refine aN.bind ?_ (fun _=>?_)
  |exact aN.refl _
def oI(t_0:ao)(r_1:Sl (Sl Int)):Option Bool:=
 (qc t_0).bind fun r1=>
 bif((!r1)||((r_1.l.length:Int) !=(ao.au t_0)))then(some false)else
 ((c_ 100000 (rb t_0 r_1) 0).bind fun
 |.inl b7=>(some b7)
 |.inr _=>(some true))
theorem tK(t_0:ao)(r_1:Sl (Sl Int)):aN (oI t_0 r_1) (jT t_0 r_1):=by
 unfold oI jT
 with_reducible repeat' first
  |apply uS
  |apply Ai
  |refine aN.loop (fun _=>?_) _ _
  |refine aN.cond ?_ ?_
  |refine aN.bind ?_ (fun _=>?_)
  |(split<;>try dsimp only)
  |exact aN.refl _
def qh(l_0:Sl Int):Option Bool:=
 (bif decide ((l_0.l.length:Int)>0)then((ou l_0.l 0 (wr .i64 ((l_0.l.length:Int)-1))).bind fun l1=>
 (cH (wr .i64 ((l_0.l.length:Int)-1)) l_0.l.length).bind fun n2=>
 (du (l_0.to l1) (gt l_0.l n2)).bind fun r3=>
 some r3)else
 (some false):Option Bool).bind fun b4=>
 some b4
theorem zk(l_0:Sl Int):aN (qh l_0) (iF l_0):=by
 unfold qh iF
 with_reducible repeat' first
  |apply eC
  |refine aN.cond ?_ ?_
  |refine aN.bind ?_ (fun _=>?_)
  |exact aN.refl _
def xi(t_0:ao)(sw_1:Int)(port_2:Int):Option (Int×Int×Int×Bool):=
 (c_ 100000 (qd t_0 sw_1 port_2) 0).bind fun
 |.inl (i4,i5,i6,b7)=>(some (i4,i5,i6,b7))
 |.inr _=>(some (0,0,0,false))
theorem Gd(t_0:ao)(sw_1:Int)(port_2:Int):aN (xi t_0 sw_1 port_2) (tf t_0 sw_1 port_2):=by
 unfold xi tf
 with_reducible repeat' first
  |refine aN.loop (fun _=>?_) _ _
  |refine aN.bind ?_ (fun _=>?_)
  |(split<;>try dsimp only)
  |exact aN.refl _
def wl(t_0:ao)(r_1:Sl (Sl Int))(sw_2:Int)(h_3:Int):Option (Int×Bool):=
 (pn r_1 sw_2 h_3).bind fun(r1,r2)=>
 bif(!r2)then(some (0,false))else
 ((xi t_0 sw_2 r1).bind fun(r3,_,_,r6)=>
 some (r3,r6))
theorem EW(t_0:ao)(r_1:Sl (Sl Int))(sw_2:Int)(h_3:Int):aN (wl t_0 r_1 sw_2 h_3) (re t_0 r_1 sw_2 h_3):=by
 unfold wl re
 with_reducible repeat' first
  |apply Gd
  |refine aN.cond ?_ ?_
  |refine aN.bind ?_ (fun _=>?_)
  |(split<;>try dsimp only)
  |exact aN.refl _
def sj(t_0:ao)(r_1:Sl (Sl Int))(h_3:Int):(Sl Int)->Option (Sl Int⊕((Int×Sl Int)⊕Unit)):=fun s6=>
 (qh s6).bind fun r7=>
 bif(!r7)then((cH (wr .i64 ((s6.l.length:Int)-1)) s6.l.length).bind fun n8=>
 (cH h_3 ((ao.bn t_0).l).length).bind fun n9=>
 (cH (gt s6.l n8) r_1.l.length).bind fun n10=>
 (cH h_3 ((gt r_1.l n10).l).length).bind fun n11=>
 bif decide ((gt ((ao.bn t_0).l) n9)=(⟨gt s6.l n8,gt ((gt r_1.l n10).l) n11⟩:fZ))then(some (.inr (.inl (0,s6))))else
 ((wl t_0 r_1 (gt s6.l n8) h_3).bind fun(r12,r13)=>
 bif(!r13)then(some (.inr (.inl (13,Sl.nil))))else
 ((g_ (s6.l++[r12])).bind fun l14=>
 some (.inl (Sl.mk l14)))))else
 (some (.inr (.inr ())))
theorem Bo(t_0:ao)(r_1:Sl (Sl Int))(h_3:Int):∀s,aN (sj t_0 r_1 h_3 s) (ku t_0 r_1 h_3 s):=by
 intro s;unfold sj ku
 with_reducible repeat' first
  |apply zk
  |apply EW
  |refine aN.cond ?_ ?_
  |refine aN.bind ?_ (fun _=>?_)
  |(split<;>try dsimp only)
  |exact aN.refl _
def wj(t_0:ao)(r_1:Sl (Sl Int))(sw_2:Int)(h_3:Int):Option (Sl Int×Int):=
 (pn r_1 sw_2 h_3).bind fun(_,r2)=>
 (bif(!r2)then(some true)else
 ((oI t_0 r_1).bind fun r3=>
 some (!r3)):Option Bool).bind fun b4=>
 bif b4 then(some (Sl.nil,2))else
 ((c_ 100000 (sj t_0 r_1 h_3) (Sl.mk [sw_2])).bind fun
 |.inl (i15,s16)=>(some (s16,i15))
 |.inr _=>(some (Sl.nil,12)))
theorem EV(t_0:ao)(r_1:Sl (Sl Int))(sw_2:Int)(h_3:Int):aN (wj t_0 r_1 sw_2 h_3) (ra t_0 r_1 sw_2 h_3):=by
 unfold wj ra
 with_reducible repeat' first
  |apply tK
  |apply Bo
  |refine aN.loop (fun _=>?_) _ _
  |refine aN.cond ?_ ?_
  |refine aN.bind ?_ (fun _=>?_)
  |(split<;>try dsimp only)
  |exact aN.refl _
def tL(t_0:ao)(r_1:Sl (Sl Int))(h_2:Int):(Int×Sl Int)->Option ((Int×Sl Int)⊕(Sl Int)):=fun(i5,s6)=>
 bif decide (i5<(r_1.l.length:Int))then((wj t_0 r_1 i5 h_2).bind fun(r7,_)=>
 (g_ (s6.l++[wr .i64 ((r7.l.length:Int)-1)])).bind fun l9=>
 some (.inl (wr .i64 (i5+1),(Sl.mk l9))))else
 (some (.inr s6))
theorem Cn(t_0:ao)(r_1:Sl (Sl Int))(h_2:Int):∀s,aN (tL t_0 r_1 h_2 s) (lE t_0 r_1 h_2 s):=by
 intro s;unfold tL lE
 with_reducible repeat' first
  |apply EV
  |refine aN.cond ?_ ?_
  |refine aN.bind ?_ (fun _=>?_)
  |(split<;>try dsimp only)
  |exact aN.refl _
def uD(t_0:ao)(r_1:Sl (Sl Int))(h_2:Int):Option (Sl Int):=
 (oI t_0 r_1).bind fun r1=>
 bif(((!r1)||(decide (h_2<0)))||(decide (h_2>=(((ao.bn t_0).l).length:Int))))then(some Sl.nil)else
 ((c_ 100000 (tL t_0 r_1 h_2) (0,Sl.nil)).bind fun s10=>
 some s10)
theorem Aj(t_0:ao)(r_1:Sl (Sl Int))(h_2:Int):aN (uD t_0 r_1 h_2) (rf t_0 r_1 h_2):=by
 unfold uD rf
 with_reducible repeat' first
  |apply tK
  |apply Cn
  |refine aN.loop (fun _=>?_) _ _
  |refine aN.cond ?_ ?_
  |refine aN.bind ?_ (fun _=>?_)
  |exact aN.refl _
def sn(t_0:ao)(r_1:Sl (Sl Int)):Int->Option (Int⊕(Bool⊕Unit)):=fun i3=>
 bif decide (i3<(((ao.bn t_0).l).length:Int))then((uD t_0 r_1 i3).bind fun r4=>
 (du r4 (-1)).bind fun r5=>
 bif r5 then(some (.inr (.inl false)))else
 (some (.inl (wr .i64 (i3+1)))))else
 (some (.inr (.inr ())))
theorem Bp(t_0:ao)(r_1:Sl (Sl Int)):∀s,aN (sn t_0 r_1 s) (mu t_0 r_1 s):=by
 intro s;unfold sn mu
 with_reducible repeat' first
  |apply Aj
  |apply eC
  |refine aN.cond ?_ ?_
  |refine aN.bind ?_ (fun _=>?_)
  |exact aN.refl _
def sP(t_0:ao)(r_1:Sl (Sl Int)):Option Bool:=
 (oI t_0 r_1).bind fun r1=>
 bif(!r1)then(some false)else
 ((c_ 100000 (sn t_0 r_1) 0).bind fun
 |.inl b6=>(some b6)
 |.inr _=>(some true))
theorem EX(t_0:ao)(r_1:Sl (Sl Int)):aN (sP t_0 r_1) (pp t_0 r_1):=by
 unfold sP pp
 with_reducible repeat' first
  |apply tK
  |apply Bp
  |refine aN.loop (fun _=>?_) _ _
  |refine aN.cond ?_ ?_
  |refine aN.bind ?_ (fun _=>?_)
  |(split<;>try dsimp only)
  |exact aN.refl _
def rp(t_0:ao)(old_1:Sl (Sl Int))(now_2:Sl (Sl Int)):(Int×Sl aE)->Option ((Int×Sl aE)⊕(Sl aE)):=fun(i7,s8)=>
 bif decide (i7<(((ao.bn t_0).l).length:Int))then((uD t_0 now_2 i7).bind fun r9=>
 (c_ 100000 (jp old_1 now_2 i7 r9) (0,s8)).bind fun s23=>
 some (.inl (wr .i64 (i7+1),s23)))else
 (some (.inr s8))
theorem AE(t_0:ao)(old_1:Sl (Sl Int))(now_2:Sl (Sl Int)):∀s,aN (rp t_0 old_1 now_2 s) (kX t_0 old_1 now_2 s):=by
 intro s;unfold rp kX
 with_reducible repeat' first
  |apply Aj
  |refine aN.loop (fun _=>?_) _ _
  |refine aN.cond ?_ ?_
  |refine aN.bind ?_ (fun _=>?_)
  |(split<;>try dsimp only)
  |exact aN.refl _
def u7(t_0:ao)(old_1:Sl (Sl Int))(now_2:Sl (Sl Int)):Option (Sl aE×Int):=
 ((sP t_0 old_1).bind fun r1=>
 bif(!r1)then(some true)else
 ((sP t_0 now_2).bind fun r2=>
 some (!r2)):Option Bool).bind fun b3=>
 bif b3 then(some (Sl.nil,2))else
 ((c_ 100000 (rp t_0 old_1 now_2) (0,Sl.nil)).bind fun s24=>
 (Kj s24).bind fun s25=>
 (m8 s25 s24).bind fun _=>
 some (s25,0))
theorem DS(t_0:ao)(old_1:Sl (Sl Int))(now_2:Sl (Sl Int)):aN (u7 t_0 old_1 now_2) (pO t_0 old_1 now_2):=by
 unfold u7 pO
 with_reducible repeat' first
  |apply EX
  |apply AE
  |apply NG
  |refine aN.loop (fun _=>?_) _ _
  |refine aN.cond ?_ ?_
  |refine aN.bind ?_ (fun _=>?_)
  |exact aN.refl _
def tB(t_0:ao):Option Int:=
 (c_ 100000 (jK t_0) (0,0)).bind fun i6=>
 some i6
theorem Cj(t_0:ao):aN (tB t_0) (nD t_0):=by
 unfold tB nD
 with_reducible repeat' first
  |refine aN.loop (fun _=>?_) _ _
  |refine aN.bind ?_ (fun _=>?_)
  |exact aN.refl _
def uE(t_0:ao):Option Int:=
 (tB t_0).bind fun r1=>
 some (wr .i64 ((ao.au t_0)*r1))
theorem Am(t_0:ao):aN (uE t_0) (rk t_0):=by
 unfold uE rk
 with_reducible repeat' first
  |apply Cj
  |refine aN.bind ?_ (fun _=>?_)
  |exact aN.refl _
def tR(l_0:Sl aE):Option (Sl Int):=
 (c_ 100000 (md l_0) (0,Sl.nil)).bind fun s8=>
 (Gk s8).bind fun s9=>
 (m8 s9 s8).bind fun _=>
 (OT qQ s9).bind fun s10=>
 some s10
theorem Cw(l_0:Sl aE):aN (tR l_0) (lI l_0):=by
 unfold tR lI
 with_reducible repeat' first
  |apply Ki
  |refine aN.loop (fun _=>?_) _ _
  |refine aN.bind ?_ (fun _=>?_)
  |exact aN.refl _
def zp(t_0:ao)(miss_1:Int):Option Int:=
 (uE t_0).bind fun r1=>
 some (wr .i64 ((wr .i64 ((wr .i64 (2*miss_1))+r1))+1))
theorem Ir(t_0:ao)(miss_1:Int):aN (zp t_0 miss_1) (vE t_0 miss_1):=by
 unfold zp vE
 with_reducible repeat' first
  |apply Am
  |refine aN.bind ?_ (fun _=>?_)
  |exact aN.refl _
def dw(s_0:Sl a8)(f_1_c0:Int):Option Int:=
 (c_ 100000 (bK s_0 f_1_c0) 0).bind fun
 |.inl i5=>(some i5)
 |.inr _=>(some (-1))
theorem iE(s_0:Sl a8)(f_1_c0:Int):aN (dw s_0 f_1_c0) (bS s_0 f_1_c0):=by
 unfold dw bS
 with_reducible repeat' first
  |refine aN.loop (fun _=>?_) _ _
  |refine aN.bind ?_ (fun _=>?_)
  |(split<;>try dsimp only)
  |exact aN.refl _
def dg(s_0:Sl a8)(f_1_c0:Int):Option Bool:=
 (dw s_0 f_1_c0).bind fun r1=>
 some (decide (r1>=0))
theorem ig(s_0:Sl a8)(f_1_c0:Int):aN (dg s_0 f_1_c0) (bL s_0 f_1_c0):=by
 unfold dg bL
 with_reducible repeat' first
  |apply iE
  |refine aN.bind ?_ (fun _=>?_)
  |exact aN.refl _
def wH(n_0:Int)(l_1:Sl a8):Option Bool:=
 bif(((decide (n_0<0))||(decide (n_0>64)))||(decide ((l_1.l.length:Int)>256)))then(some false)else
 ((dg l_1 n_0).bind fun r1=>
 some (!r1))
theorem Fc(n_0:Int)(l_1:Sl a8):aN (wH n_0 l_1) (rB n_0 l_1):=by
 unfold wH rB
 with_reducible repeat' first
  |apply ig
  |refine aN.cond ?_ ?_
  |refine aN.bind ?_ (fun _=>?_)
  |exact aN.refl _
def tZ(n_0:Int)(l_1:Sl a8):(Int×Int×Sl Int×Sl Int)->Option ((Int×Int×Sl Int×Sl Int)⊕(Int×Sl Int×Sl Int)):=fun(i9,i10,s11,s12)=>
 bif decide (i10<(wr .i64 (n_0+1)))then((c_ 100000 (ij l_1) ((-1),0,s11,s12)).bind fun(i31,s32,s33)=>
 bif decide (i31<0)then(some (.inr (i31,s32,s33)))else
 (some (.inl (i31,wr .i64 (i10+1),s32,s33))))else
 (some (.inr (i9,s11,s12)))
theorem CB(n_0:Int)(l_1:Sl a8):∀s,aN (tZ n_0 l_1 s) (lL n_0 l_1 s):=by
 intro s;unfold tZ lL
 with_reducible repeat' first
  |refine aN.loop (fun _=>?_) _ _
  |refine aN.cond ?_ ?_
  |refine aN.bind ?_ (fun _=>?_)
  |(split<;>try dsimp only)
  |exact aN.refl _
def xK(n_0:Int)(l_1:Sl a8):Option (Sl Int×Sl Int×Int):=
 (zQ 0 n_0 n_0).bind fun l1=>
 (zQ 0 n_0 n_0).bind fun l2=>
 (c_ 100000 (tZ n_0 l_1) ((-1),0,(Sl.mk l1),(Sl.mk l2))).bind fun(i34,s35,s36)=>
 some (s35,s36,i34)
theorem GU(n_0:Int)(l_1:Sl a8):aN (xK n_0 l_1) (tw n_0 l_1):=by
 unfold xK tw
 with_reducible repeat' first
  |apply CB
  |refine aN.loop (fun _=>?_) _ _
  |refine aN.bind ?_ (fun _=>?_)
  |(split<;>try dsimp only)
  |exact aN.refl _
def sD(n_0:Int)(l_1:Sl a8):Option (Sl Int×Bool):=
 (wH n_0 l_1).bind fun r1=>
 bif(!r1)then(some (Sl.nil,false))else
 ((xK n_0 l_1).bind fun(r2,_,r4)=>
 bif decide (r4>=0)then(some (Sl.nil,false))else
 (some (r2,true)))
theorem BL(n_0:Int)(l_1:Sl a8):aN (sD n_0 l_1) (oR n_0 l_1):=by
 unfold sD oR
 with_reducible repeat' first
  |apply Fc
  |apply GU
  |refine aN.cond ?_ ?_
  |refine aN.bind ?_ (fun _=>?_)
  |(split<;>try dsimp only)
  |exact aN.refl _
def wu(n_0:Int)(gap_1:Int):Option (Sl Int):=
 (c_ 100000 (mx n_0 gap_1) (1,Sl.nil)).bind fun s7=>
 (sD n_0 s7).bind fun(r8,_)=>
 some r8
theorem E2(n_0:Int)(gap_1:Int):aN (wu n_0 gap_1) (pq n_0 gap_1):=by
 unfold wu pq
 with_reducible repeat' first
  |apply BL
  |refine aN.loop (fun _=>?_) _ _
  |refine aN.bind ?_ (fun _=>?_)
  |(split<;>try dsimp only)
  |exact aN.refl _
def uZ(l_0:Sl aE)(round_1:Int):(Int×Sl Int)->Option ((Int×Sl Int)⊕(Sl Int)):=fun(i4,s5)=>
 bif decide (i4<(l_0.l.length:Int))then(((cH i4 l_0.l.length).bind fun n6=>
 (bif((aE.ED (gt l_0.l n6))==round_1)then((du s5 (aE.Sw (gt l_0.l n6))).bind fun r7=>
 some (!r7))else
 (some false):Option Bool).bind fun b8=>
 bif b8 then((g_ (s5.l++[aE.Sw (gt l_0.l n6)])).bind fun l9=>
 some (Sl.mk l9))else
 (some s5):Option (Sl Int)).bind fun s10=>
 some (.inl (wr .i64 (i4+1),s10)))else
 (some (.inr s5))
theorem Dx(l_0:Sl aE)(round_1:Int):∀s,aN (uZ l_0 round_1 s) (jU l_0 round_1 s):=by
 intro s;unfold uZ jU
 with_reducible repeat' first
  |apply eC
  |refine aN.cond ?_ ?_
  |refine aN.bind ?_ (fun _=>?_)
  |(split<;>try dsimp only)
  |exact aN.refl _
def zo(l_0:Sl aE)(round_1:Int):Option (Sl Int):=
 (c_ 100000 (uZ l_0 round_1) (0,Sl.nil)).bind fun s11=>
 some s11
theorem Iq(l_0:Sl aE)(round_1:Int):aN (zo l_0 round_1) (vD l_0 round_1):=by
 unfold zo vD
 with_reducible repeat' first
  |apply Dx
  |refine aN.loop (fun _=>?_) _ _
  |refine aN.bind ?_ (fun _=>?_)
  |exact aN.refl _
def tO(at_3:Int)(miss_4:Int)(lead_5:Int)(r5:Sl aE)(r7:Int)(r8:Sl Int)(r10:Sl Int):(Int×Sl aE×Int×Int×Int×Int×Sl aQ)->Option ((Int×Sl aE×Int×Int×Int×Int×Sl aQ)⊕(Sl aE×Int×Int×Int×Int×Sl aQ)):=fun(i19,s20,i21,i22,i23,i24,s25)=>
 bif decide (i19<(r10.l.length:Int))then((cH i19 r10.l.length).bind fun n26=>
 (cH i19 r8.l.length).bind fun n27=>
 (cH i19 r8.l.length).bind fun n28=>
 (zo r5 (gt r8.l n28)).bind fun r29=>
 (g_ (s25.l++[(⟨gt r8.l n27,wr .i64 ((wr .i64 ((wr .i64 ((wr .i64 ((wr .i64 (at_3+lead_5))+miss_4))+r7))+1))+(gt r10.l n26)),r29⟩:aQ)])).bind fun l30=>
 some (.inl (wr .i64 (i19+1),s20,i21,i22,i23,i24,(Sl.mk l30))))else
 (some (.inr (s20,i21,i22,i23,i24,s25)))
theorem Cr(at_3:Int)(miss_4:Int)(lead_5:Int)(r5:Sl aE)(r7:Int)(r8:Sl Int)(r10:Sl Int):∀s,aN (tO at_3 miss_4 lead_5 r5 r7 r8 r10 s) (lF at_3 miss_4 lead_5 r5 r7 r8 r10 s):=by
 intro s;unfold tO lF
 with_reducible repeat' first
  |apply Iq
  |refine aN.cond ?_ ?_
  |refine aN.bind ?_ (fun _=>?_)
  |(split<;>try dsimp only)
  |exact aN.refl _
def xq(t_0:ao)(old_1:Sl (Sl Int))(now_2:Sl (Sl Int))(at_3:Int)(miss_4:Int)(lead_5:Int):Option (am×Int):=
 ((qj at_3 1099511627776).bind fun r1=>
 bif(!r1)then(some true)else
 ((qj miss_4 1048576).bind fun r2=>
 bif(!r2)then(some true)else
 ((qj lead_5 1048576).bind fun r3=>
 some (!r3))):Option Bool).bind fun b4=>
 bif b4 then(some ((⟨Sl.nil,Sl.nil,0,0,0,0⟩:am),2))else
 ((u7 t_0 old_1 now_2).bind fun(r5,r6)=>
 bif(r6 !=0)then(some ((⟨Sl.nil,Sl.nil,0,0,0,0⟩:am),r6))else
 (bif((r5.l.length:Int)==0)then(some ((⟨Sl.nil,Sl.nil,0,0,0,0⟩:am),7))else
 ((uE t_0).bind fun r7=>
 (tR r5).bind fun r8=>
 (zp t_0 miss_4).bind fun r9=>
 (wu (r8.l.length:Int) r9).bind fun r10=>
 (c_ 100000 (tO at_3 miss_4 lead_5 r5 r7 r8 r10) (0,r5,miss_4,r7,0,0,Sl.nil)).bind fun(s31,i32,i33,_,_,s36)=>
 (cH (wr .i64 ((s36.l.length:Int)-1)) s36.l.length).bind fun n37=>
 bif decide ((wr .i64 ((aQ.At (gt s36.l n37))+miss_4))>1099511627776)then(some ((⟨Sl.nil,Sl.nil,0,0,0,0⟩:am),11))else
 (some ((⟨s31,s36,i32,i33,wr .i64 ((wr .i64 ((wr .i64 ((wr .i64 ((wr .i64 ((wr .i64 (at_3+lead_5))+miss_4))+r7))+1))-miss_4))-i33),wr .i64 ((aQ.At (gt s36.l n37))+miss_4)⟩:am),0)))))
theorem Gu(t_0:ao)(old_1:Sl (Sl Int))(now_2:Sl (Sl Int))(at_3:Int)(miss_4:Int)(lead_5:Int):aN (xq t_0 old_1 now_2 at_3 miss_4 lead_5) (kV t_0 old_1 now_2 at_3 miss_4 lead_5):=by
 unfold xq kV
 with_reducible repeat' first
  |apply DS
  |apply Am
  |apply Cw
  |apply Ir
  |apply E2
  |apply Cr
  |refine aN.loop (fun _=>?_) _ _
  |refine aN.cond ?_ ?_
  |refine aN.bind ?_ (fun _=>?_)
  |(split<;>try dsimp only)
  |exact aN.refl _
def t6(x_0_c:aj)(x_0_routes:Sl (Sl (Sl Int)))(x_0_l:Sl ai)(x_0_at:ad)(x_0_volatile_phase:Int)(x_0_volatile_plan:am)(x_0_volatile_cur:Int)(x_0_volatile_want:Mp Int aa)(x_0_volatile_sent:Int)(x_0_volatile_rest:Int)(x_0_volatile_skip:Int)(x_0_volatile_healed:Int)(x_0_volatile_est:Arr 8 ak)(x_0_volatile_asked:Arr 8 Int)(x_0_volatile_out:Sl aa)(x_0_volatile_events:Sl aw)(target_1:Int)(at_2:Int):Option (am×Int×aj×Sl (Sl (Sl Int))×Sl ai×ad×Int×am×Int×Mp Int aa×Int×Int×Int×Int×Arr 8 ak×Arr 8 Int×Sl aa×Sl aw):=
 (cH (ad.pU x_0_at) x_0_routes.l.length).bind fun n1=>
 (cH target_1 x_0_routes.l.length).bind fun n2=>
 (vv (aj.vi x_0_c)).bind fun r3=>
 (xq (aj.T x_0_c) (gt x_0_routes.l n1) (gt x_0_routes.l n2) at_2 r3 (aj.yH x_0_c)).bind fun(r4,r5)=>
 some (r4,r5,x_0_c,x_0_routes,x_0_l,x_0_at,x_0_volatile_phase,x_0_volatile_plan,x_0_volatile_cur,x_0_volatile_want,x_0_volatile_sent,x_0_volatile_rest,x_0_volatile_skip,x_0_volatile_healed,x_0_volatile_est,x_0_volatile_asked,x_0_volatile_out,x_0_volatile_events)
theorem CC(x_0_c:aj)(x_0_routes:Sl (Sl (Sl Int)))(x_0_l:Sl ai)(x_0_at:ad)(x_0_volatile_phase:Int)(x_0_volatile_plan:am)(x_0_volatile_cur:Int)(x_0_volatile_want:Mp Int aa)(x_0_volatile_sent:Int)(x_0_volatile_rest:Int)(x_0_volatile_skip:Int)(x_0_volatile_healed:Int)(x_0_volatile_est:Arr 8 ak)(x_0_volatile_asked:Arr 8 Int)(x_0_volatile_out:Sl aa)(x_0_volatile_events:Sl aw)(target_1:Int)(at_2:Int):aN (t6 x_0_c x_0_routes x_0_l x_0_at x_0_volatile_phase x_0_volatile_plan x_0_volatile_cur x_0_volatile_want x_0_volatile_sent x_0_volatile_rest x_0_volatile_skip x_0_volatile_healed x_0_volatile_est x_0_volatile_asked x_0_volatile_out x_0_volatile_events target_1 at_2) (lM x_0_c x_0_routes x_0_l x_0_at x_0_volatile_phase x_0_volatile_plan x_0_volatile_cur x_0_volatile_want x_0_volatile_sent x_0_volatile_rest x_0_volatile_skip x_0_volatile_healed x_0_volatile_est x_0_volatile_asked x_0_volatile_out x_0_volatile_events target_1 at_2):=by
 unfold t6 lM
 with_reducible repeat' first
  |apply Gu
  |refine aN.bind ?_ (fun _=>?_)
  |(split<;>try dsimp only)
  |exact aN.refl _
def wz(l_0:Sl aE)(round_1:Int)(sw_2:Int):Option (Sl aY):=
 (c_ 100000 (kx l_0 round_1 sw_2) (0,Sl.nil)).bind fun s10=>
 some s10
theorem E8(l_0:Sl aE)(round_1:Int)(sw_2:Int):aN (wz l_0 round_1 sw_2) (rq l_0 round_1 sw_2):=by
 unfold wz rq
 with_reducible repeat' first
  |refine aN.loop (fun _=>?_) _ _
  |refine aN.bind ?_ (fun _=>?_)
  |exact aN.refl _
def sA(p_0:am)(k_1:Int)(n1:Nat):(Int×Sl gi)->Option ((Int×Sl gi)⊕(Sl gi)):=fun(i5,s6)=>
 bif decide (i5<(((aQ.pT (gt ((am.aV p_0).l) n1)).l).length:Int))then((cH i5 ((aQ.pT (gt ((am.aV p_0).l) n1)).l).length).bind fun n7=>
 (cH k_1 ((am.aV p_0).l).length).bind fun n8=>
 (wz (am.JS p_0) (aQ.No (gt ((am.aV p_0).l) n8)) (gt ((aQ.pT (gt ((am.aV p_0).l) n1)).l) n7)).bind fun r9=>
 (g_ (s6.l++[(⟨gt ((aQ.pT (gt ((am.aV p_0).l) n1)).l) n7,r9⟩:gi)])).bind fun l10=>
 some (.inl (wr .i64 (i5+1),(Sl.mk l10))))else
 (some (.inr s6))
theorem Bt(p_0:am)(k_1:Int)(n1:Nat):∀s,aN (sA p_0 k_1 n1 s) (rI p_0 k_1 n1 s):=by
 intro s;unfold sA rI
 with_reducible repeat' first
  |apply E8
  |refine aN.cond ?_ ?_
  |refine aN.bind ?_ (fun _=>?_)
  |(split<;>try dsimp only)
  |exact aN.refl _
def ww(p_0:am)(k_1:Int):Option (Sl gi):=
 bif((decide (k_1<0))||(decide (k_1>=(((am.aV p_0).l).length:Int))))then(some Sl.nil)else
 ((cH k_1 ((am.aV p_0).l).length).bind fun n1=>
 (c_ 100000 (sA p_0 k_1 n1) (0,Sl.nil)).bind fun s11=>
 some s11)
theorem E3(p_0:am)(k_1:Int):aN (ww p_0 k_1) (rj p_0 k_1):=by
 unfold ww rj
 with_reducible repeat' first
  |apply Bt
  |refine aN.loop (fun _=>?_) _ _
  |refine aN.cond ?_ ?_
  |refine aN.bind ?_ (fun _=>?_)
  |exact aN.refl _
def ox(r20:am):(Int×aj×Sl (Sl (Sl Int))×ad×Int×am×Int×Int×Int×Int×Int×Arr 8 ak×Arr 8 Int×Sl aa×Sl ai×Mp Int aa×Sl aa×Sl aw)->Option ((Int×aj×Sl (Sl (Sl Int))×ad×Int×am×Int×Int×Int×Int×Int×Arr 8 ak×Arr 8 Int×Sl aa×Sl ai×Mp Int aa×Sl aa×Sl aw)⊕((Int×aj×Sl (Sl (Sl Int))×ad×Int×am×Int×Int×Int×Int×Int×Arr 8 ak×Arr 8 Int×Sl ai×Mp Int aa×Sl aa×Sl aw)⊕(aj×Sl (Sl (Sl Int))×ad×Int×am×Int×Int×Int×Int×Int×Arr 8 ak×Arr 8 Int×Sl aa×Sl ai×Mp Int aa×Sl aa×Sl aw))):=fun(i59,x60,s61,x62,i63,x64,i65,i66,i67,i68,i69,v70,v71,s72,s73,m74,s75,s76)=>
 bif decide (i59<(((am.aV r20).l).length:Int))then((cH i59 ((am.aV r20).l).length).bind fun n77=>
 (rM x60 s61 s73 x62 i63 x64 i65 m74 i66 i67 i68 i69 v70 v71 s75 s76 (gt ((am.aV r20).l) n77)).bind fun(_,r79,q80,q81,s82,q83,q84,q85,q86,q87,q88,q89,q90,q91,q92,q93,s94,s95)=>
 bif(!r79)then(some (.inr (.inl (15,q80,q81,q83,q84,q85,q86,q88,q89,q90,q91,q92,q93,s82,q87,s94,s95))))else
 ((ww r20 i59).bind fun r96=>
 (c_ 100000 (mX i59 q83 r96) (0,s72)).bind fun s103=>
 some (.inl (wr .i64 (i59+1),q80,q81,q83,q84,q85,q86,q88,q89,q90,q91,q92,q93,s103,s82,q87,s94,s95))))else
 (some (.inr (.inr (x60,s61,x62,i63,x64,i65,i66,i67,i68,i69,v70,v71,s72,s73,m74,s75,s76))))
theorem xO(r20:am):∀s,aN (ox r20 s) (mW r20 s):=by
 intro s;unfold ox mW
 with_reducible repeat' first
  |apply xN
  |apply E3
  |refine aN.loop (fun _=>?_) _ _
  |refine aN.cond ?_ ?_
  |refine aN.bind ?_ (fun _=>?_)
  |(split<;>try dsimp only)
  |exact aN.refl _
def nW(x_0_c:aj)(x_0_routes:Sl (Sl (Sl Int)))(x_0_l:Sl ai)(x_0_at:ad)(x_0_volatile_phase:Int)(x_0_volatile_plan:am)(x_0_volatile_cur:Int)(x_0_volatile_want:Mp Int aa)(x_0_volatile_sent:Int)(x_0_volatile_rest:Int)(x_0_volatile_skip:Int)(x_0_volatile_healed:Int)(x_0_volatile_est:Arr 8 ak)(x_0_volatile_asked:Arr 8 Int)(x_0_volatile_out:Sl aa)(x_0_volatile_events:Sl aw)(now_1:Int)(k_2:Int)(up_3:Int):Option (Int×aj×Sl (Sl (Sl Int))×Sl ai×ad×Int×am×Int×Mp Int aa×Int×Int×Int×Int×Arr 8 ak×Arr 8 Int×Sl aa×Sl aw):=
 (eJ x_0_c x_0_routes x_0_l x_0_at x_0_volatile_phase x_0_volatile_plan x_0_volatile_cur x_0_volatile_want x_0_volatile_sent x_0_volatile_rest x_0_volatile_skip x_0_volatile_healed x_0_volatile_est x_0_volatile_asked x_0_volatile_out x_0_volatile_events).bind fun(r1,q2,q3,s4,q5,q6,q7,q8,q9,q10,q11,q12,q13,q14,q15,s16,s17)=>
 bif(((r1 !=0)||((ad.oD q5) !=0))||(decide ((ad.U q5)>=65535)))then(some (16,q2,q3,s4,q5,q6,q7,q8,q9,q10,q11,q12,q13,q14,q15,s16,s17))else
 ((bif((decide (k_2<0))||(decide (k_2>=(q3.l.length:Int))))then(some true)else
 ((ns now_1 0 1099511627776).bind fun r18=>
 some (!r18)):Option Bool).bind fun b19=>
 bif b19 then(some (2,q2,q3,s4,q5,q6,q7,q8,q9,q10,q11,q12,q13,q14,q15,s16,s17))else
 ((t6 q2 q3 s4 q5 q6 q7 q8 q9 q10 q11 q12 q13 q14 q15 s16 s17 k_2 now_1).bind fun(r20,r21,q22,q23,s24,q25,q26,q27,q28,q29,q30,q31,q32,q33,q34,q35,s36,s37)=>
 bif(r21 !=0)then(some (r21,q22,q23,s24,q25,q26,q27,q28,q29,q30,q31,q32,q33,q34,q35,s36,s37))else
 ((mg r20).bind fun(r38,_)=>
 bif((mn .i64 r38 up_3) !=0)then(some (16,q22,q23,s24,q25,q26,q27,q28,q29,q30,q31,q32,q33,q34,q35,s36,s37))else
 ((c_ 100000 (ox r20) (0,q22,q23,q25,q26,q27,q28,q30,q31,q32,q33,q34,q35,Sl.nil,s24,q29,s36,s37)).bind fun
 |.inl (i104,x105,s106,x107,i108,x109,i110,i111,i112,i113,i114,v115,v116,s117,m118,s119,s120)=>(some (i104,x105,s106,s117,x107,i108,x109,i110,m118,i111,i112,i113,i114,v115,v116,s119,s120))
 |.inr (x121,s122,x123,i124,x125,i126,i127,i128,i129,i130,v131,v132,s133,s134,m135,s136,s137)=>((eV x121 s122 s134 x123 i124 x125 i126 m135 i127 i128 i129 i130 v131 v132 s136 s137 1 (wr .i64 ((ad.U x123)+1)) k_2 now_1).bind fun(q138,q139,s140,q141,q142,_,q144,q145,q146,q147,_,q149,q150,q151,s152,s153)=>
 (fQ q138 q139 s140 q141 q142 r20 q144 q145 q146 q147 0 q149 q150 q151 s152 s153 now_1 8 0 (am.YB r20) (am.To r20)).bind fun(q154,q155,s156,q157,_,q159,q160,q161,q162,q163,q164,q165,q166,q167,s168,s169)=>
 (mD q154 q155 s156 q157 1 q159 q160 q161 q162 q163 q164 q165 q166 q167 s168 s169 now_1 s133).bind fun(q170,q171,s172,q173,q174,q175,q176,q177,q178,q179,q180,q181,q182,q183,s184,s185)=>
 some (0,q170,q171,s172,q173,q174,q175,q176,q177,q178,q179,q180,q181,q182,q183,s184,s185))))))
theorem AU(x_0_c:aj)(x_0_routes:Sl (Sl (Sl Int)))(x_0_l:Sl ai)(x_0_at:ad)(x_0_volatile_phase:Int)(x_0_volatile_plan:am)(x_0_volatile_cur:Int)(x_0_volatile_want:Mp Int aa)(x_0_volatile_sent:Int)(x_0_volatile_rest:Int)(x_0_volatile_skip:Int)(x_0_volatile_healed:Int)(x_0_volatile_est:Arr 8 ak)(x_0_volatile_asked:Arr 8 Int)(x_0_volatile_out:Sl aa)(x_0_volatile_events:Sl aw)(now_1:Int)(k_2:Int)(up_3:Int):aN (nW x_0_c x_0_routes x_0_l x_0_at x_0_volatile_phase x_0_volatile_plan x_0_volatile_cur x_0_volatile_want x_0_volatile_sent x_0_volatile_rest x_0_volatile_skip x_0_volatile_healed x_0_volatile_est x_0_volatile_asked x_0_volatile_out x_0_volatile_events now_1 k_2 up_3) (iv x_0_c x_0_routes x_0_l x_0_at x_0_volatile_phase x_0_volatile_plan x_0_volatile_cur x_0_volatile_want x_0_volatile_sent x_0_volatile_rest x_0_volatile_skip x_0_volatile_healed x_0_volatile_est x_0_volatile_asked x_0_volatile_out x_0_volatile_events now_1 k_2 up_3):=by
 unfold nW iv;rw[kB]
 with_reducible repeat' first
  |apply CC
  |apply rC
  |apply xO
  |apply g9
  |apply qv
  |refine aN.loop (fun _=>?_) _ _
  |refine aN.cond ?_ ?_
  |refine aN.bind ?_ (fun _=>?_)
  |(split<;>try dsimp only)
  |exact aN.refl _
def ru:(Int×aj×Sl (Sl (Sl Int))×ad×Int×am×Int×Int×Int×Int×Int×Arr 8 ak×Arr 8 Int×Sl ai×Mp Int aa×Sl aa×Sl aw)->Option ((Int×aj×Sl (Sl (Sl Int))×ad×Int×am×Int×Int×Int×Int×Int×Arr 8 ak×Arr 8 Int×Sl ai×Mp Int aa×Sl aa×Sl aw)⊕(aj×Sl (Sl (Sl Int))×ad×Int×am×Int×Int×Int×Int×Int×Arr 8 ak×Arr 8 Int×Sl ai×Mp Int aa×Sl aa×Sl aw)):=fun(i106,x107,s108,x109,i110,x111,i112,i113,i114,i115,i116,v117,v118,s119,m120,s121,s122)=>
 bif decide (i106<3)then((ua x107 s108 s119 x109 i110 x111 i112 m120 i113 i114 i115 i116 v117 v118 s121 s122 0 (⟨2,i106,0,0,0,wr .i64 (3*i106),0,0,0,Sl.nil⟩:aa) 7).bind fun(q123,q124,s125,q126,q127,q128,q129,q130,q131,q132,q133,q134,q135,q136,s137,s138)=>
 some (.inl (wr .i64 (i106+1),q123,q124,q126,q127,q128,q129,q131,q132,q133,q134,q135,q136,s125,q130,s137,s138)))else
 (some (.inr (x107,s108,x109,i110,x111,i112,i113,i114,i115,i116,v117,v118,s119,m120,s121,s122)))
theorem AH:∀s,aN (ru s) (tT s):=by
 intro s;unfold ru tT
 with_reducible repeat' first
  |apply CF
  |refine aN.cond ?_ ?_
  |refine aN.bind ?_ (fun _=>?_)
  |(split<;>try dsimp only)
  |exact aN.refl _
def yO:Option Bool:=
 (xF).bind fun r1=>
 (vN r1).bind fun
 |.inl r2=>((vN (⟨(⟨1,Sl.nil,Sl.nil⟩:ao),(Sl.mk [Sl.nil,Sl.nil]),(Sl.mk [0]),0,0,0,0,0,1⟩:aj)).bind fun
 |.inl r3=>(bif((r2 !=0)||(r3 !=0))then(some false)else
 ((jZ 0 7).bind fun _=>
 none))
 |.inr (_,_,_,_,_,_,_,_,_,_,_,_,_,_,_,_,r20)=>(bif((r2 !=0)||(r20 !=0))then(some false)else
 ((jZ 0 7).bind fun _=>
 none)))
 |.inr (r21,r22,s23,r24,r25,r26,r27,r28,r29,r30,r31,r32,r33,r34,s35,s36,r37)=>((vN (⟨(⟨1,Sl.nil,Sl.nil⟩:ao),(Sl.mk [Sl.nil,Sl.nil]),(Sl.mk [0]),0,0,0,0,0,1⟩:aj)).bind fun
 |.inl r38=>(bif((r37 !=0)||(r38 !=0))then(some false)else
 ((o8 r21 r22 s23 r24 r25 r26 r27 r28 r29 r30 r31 r32 r33 r34 s35 s36 0 7).bind fun(_,_,_,_,_,_,_,_,_,_,_,_,_,_,_,_)=>
 none))
 |.inr (r55,r56,s57,r58,r59,r60,r61,r62,r63,r64,r65,r66,r67,r68,s69,s70,r71)=>(bif((r37 !=0)||(r71 !=0))then(some false)else
 ((o8 r21 r22 s23 r24 r25 r26 r27 r28 r29 r30 r31 r32 r33 r34 s35 s36 0 7).bind fun(q72,q73,s74,q75,q76,q77,q78,q79,q80,q81,q82,q83,q84,q85,s86,s87)=>
 (c_ 100000 (ru) (0,q72,q73,q75,q76,q77,q78,q80,q81,q82,q83,q84,q85,s74,q79,s86,s87)).bind fun(x139,s140,x141,i142,x143,i144,i145,i146,i147,i148,v149,v150,s151,m152,s153,s154)=>
 (kA x139 s140 s151 x141 i142 x143 i144 m152 i145 i146 i147 i148 v149 v150 s153 s154).bind fun(r155,_,q157,q158,s159,q160,q161,q162,q163,q164,q165,q166,q167,q168,q169,q170,s171,s172)=>
 (nW q157 q158 s159 q160 q161 q162 q163 q164 q165 q166 q167 q168 q169 q170 s171 s172 1 1 7).bind fun(r173,q174,q175,s176,q177,q178,q179,q180,q181,q182,q183,q184,q185,q186,q187,s188,s189)=>
 (kA q174 q175 s176 q177 q178 q179 q180 q181 q182 q183 q184 q185 q186 q187 s188 s189).bind fun(r190,r191,q192,q193,s194,q195,q196,q197,q198,q199,q200,q201,q202,q203,q204,q205,s206,s207)=>
 (bif(((r155.l.length:Int)==3)&&(r173==0))then((eJ q192 q193 s194 q195 q196 q197 q198 q199 q200 q201 q202 q203 q204 q205 s206 s207).bind fun(r208,q209,q210,s211,q212,q213,q214,q215,q216,q217,q218,q219,q220,q221,q222,s223,s224)=>
 bif(((r208==1)&&((r190.l.length:Int)==2))&&((r191.l.length:Int)==1))then((cH 0 r191.l.length).bind fun n225=>
 bif((aw.cY (gt r191.l n225))==8)then((nW r55 r56 s57 r58 r59 r60 r61 r62 r63 r64 r65 r66 r67 r68 s69 s70 0 1 1).bind fun(r226,_,_,_,_,_,_,_,_,_,_,_,_,_,_,_,_)=>
 bif(r226==7)then((mj q209 q210 s211 q212 q213 q214 q215 q216 q217 q218 q219 q220 q221 q222 s223 s224).bind fun(s243,_,_,_,_,_,_,_,_,_,_,_,_,_,_,_,_)=>
 some ((s243.l.length:Int)==1))else
 (some false))else
 (some false))else
 (some false))else
 (some false):Option Bool).bind fun b260=>
 some b260)))
theorem DU:aN (yO) (jV):=by
 unfold yO jV
 with_reducible repeat' first
  |apply Li
  |apply BQ
  |apply AH
  |apply AU
  |refine aN.loop (fun _=>?_) _ _
  |refine aN.cond ?_ ?_
  |refine aN.bind ?_ (fun _=>?_)
  |(split<;>try dsimp only)
  |exact aN.refl _
theorem Bz:jV=some true:=DU _ (by decide+kernel)
end Go.Proofs.YtoekkpmeeclpeaaGreat.S
