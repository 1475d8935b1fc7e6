/- law37_awake answers true: by running its twin. Conditions: none. -/
import Derived.Test.YtoekkpmeeclpeaaGreatSa
import Derived.Test.YtoekkpmeeclpeaaGreatFz
import Derived.Test.YtoekkpmeeclpeaaGreatAs
open Go.Ev Go
noncomputable section
namespace Go.Proofs.YtoekkpmeeclpeaaGreat.S
def ud(t_0:ao):Option (Sl bq):=
 (dn 100000 (mA t_0) (0,Sl.nil)).bind fun s8=>
 (dn 100000 (mz t_0) (0,s8)).bind fun s15=>
 some s15
theorem CE(t_0:ao):aT (ud t_0) (oR t_0):=by
 unfold ud oR
 with_reducible repeat' first
  |refine aT.loop (fun _=>?_) _ _
  |refine aT.bind ?_ (fun _=>?_)
  |exact aT.refl _
def pm(t_0:ao):Option Bool:=
 bif((((decide ((ao.au t_0)<1))||(decide ((ao.au t_0)>8)))||(decide ((((ao.aZ t_0).l).length:Int)>24)))||(decide ((((ao.bn t_0).l).length:Int)>8)))then(some false)else
 ((dn 100000 (nM t_0) 0).bind fun
 |.inl b4=>(some b4)
 |.inr _=>((ud t_0).bind fun r5=>
 (dn 100000 (iR t_0 r5) (0,(Mp.none:Mp bq Int))).bind fun
 |.inl b13=>(some b13)
 |.inr _=>(some true)))
theorem ue(t_0:ao):aT (pm t_0) (mB t_0):=by
 unfold pm mB
 with_reducible repeat' first
  |apply CE
  |refine aT.loop (fun _=>?_) _ _
  |refine aT.cond ?_ ?_
  |refine aT.bind ?_ (fun _=>?_)
  |(split<;>try dsimp only)
  |exact aT.refl _
def pB(x_0:Int)(y_1:Int):Option (Int×Int):=some (wr .u64 ((wr .u64 ((wr .u64 ((od .u64 x_0 32)*(od .u64 y_1 32)))+(od .u64 (wr .u64 ((wr .u64 ((od .u64 x_0 32)*(pL .u64 y_1 4294967295)))+(od .u64 (wr .u64 ((pL .u64 x_0 4294967295)*(pL .u64 y_1 4294967295))) 32))) 32)))+(od .u64 (wr .u64 ((pL .u64 (wr .u64 ((wr .u64 ((od .u64 x_0 32)*(pL .u64 y_1 4294967295)))+(od .u64 (wr .u64 ((pL .u64 x_0 4294967295)*(pL .u64 y_1 4294967295))) 32))) 4294967295)+(wr .u64 ((pL .u64 x_0 4294967295)*(od .u64 y_1 32))))) 32)),wr .u64 (x_0*y_1))
theorem yC(x_0:Int)(y_1:Int):aT (pB x_0 y_1) (lI x_0 y_1):=by
 unfold pB lI;rw[se]
 with_reducible repeat' first
  |exact aT.refl _
def oq(x_0:Int)(y_1:Int):Option (Int×Int):=
 (pB x_0 y_1).bind fun(r1,r2)=>
 some (r1,r2)
theorem uW(x_0:Int)(y_1:Int):aT (oq x_0 y_1) (iT x_0 y_1):=by
 unfold oq iT
 with_reducible repeat' first
  |apply yC
  |refine aT.bind ?_ (fun _=>?_)
  |(split<;>try dsimp only)
  |exact aT.refl _
def gj(x_0:Sl Int)(count_1:Int):Option (Sl Int):=
 bif decide (count_1<0)then(none)else
 ((oq (wr .u64 (x_0.l.length:Int)) (wr .u64 count_1)).bind fun(r1,r2)=>
 bif((decide (r1>0))||(decide (r2>9223372036854775807)))then(none)else
 ((yT 0 (wr .i64 r2) (wr .i64 r2)).bind fun l3=>
 (dn 100000 (nN) (((min x_0.l.length l3.length:Nat):Int),(Sl.mk (B_ l3 0 l3.length x_0.l)))).bind fun s11=>
 some s11))
theorem j6(x_0:Sl Int)(count_1:Int):aT (gj x_0 count_1) (dK x_0 count_1):=by
 unfold gj dK
 with_reducible repeat' first
  |apply uW
  |refine aT.loop (fun _=>?_) _ _
  |refine aT.cond ?_ ?_
  |refine aT.bind ?_ (fun _=>?_)
  |(split<;>try dsimp only)
  |exact aT.refl _
def dl(a_1:Int)(b_2:Int):(Int×Sl aD)->Option ((Int×Sl aD)⊕(Sl aD)):=fun(i4,s5)=>
 bif decide (i4<b_2)then((dn 100000 (ff a_1) (i4,s5)).bind fun s19=>
 some (.inl (wr .i64 (i4+1),s19)))else
 (some (.inr s5))
theorem ig(a_1:Int)(b_2:Int):∀s,aT (dl a_1 b_2 s) (dv a_1 b_2 s):=by
 intro s;unfold dl dv
 with_reducible repeat' first
  |refine aT.loop (fun _=>?_) _ _
  |refine aT.cond ?_ ?_
  |refine aT.bind ?_ (fun _=>?_)
  |(split<;>try dsimp only)
  |exact aT.refl _
def dy(data_0:Sl aD)(a_1:Int)(b_2:Int):Option (Sl aD):=
 (dn 100000 (dl a_1 b_2) (wr .i64 (a_1+1),data_0)).bind fun s20=>
 some s20
theorem iG(data_0:Sl aD)(a_1:Int)(b_2:Int):aT (dy data_0 a_1 b_2) (bE data_0 a_1 b_2):=by
 unfold dy bE
 with_reducible repeat' first
  |apply ig
  |refine aT.loop (fun _=>?_) _ _
  |refine aT.bind ?_ (fun _=>?_)
  |exact aT.refl _
def dT:(Int×Int×Int×Bool×Bool×Sl aD)->Option ((Int×Int×Int×Bool×Bool×Sl aD)⊕(Sl aD)):=fun(i12,i13,i14,b15,_,s17)=>
 bif decide ((wr .i64 (i13-i12))<=12)then((dy s17 i12 i13).bind fun s18=>
 (my s18 s17).bind fun _=>
 some (.inr s18))else
 (bif(i14==0)then(none)else
 (bif(!b15)then(none)else
 (none)))
theorem jk:∀s,aT (dT s) (cz s):=by
 intro s;unfold dT cz
 with_reducible repeat' first
  |apply iG
  |refine aT.cond ?_ ?_
  |refine aT.bind ?_ (fun _=>?_)
  |(split<;>try dsimp only)
  |exact aT.refl _
def ei(data_0:Sl aD)(a_1:Int)(b_2:Int)(limit_3:Int):Option (Sl aD):=
 (dn 100000 (dT) (a_1,b_2,limit_3,true,true,data_0)).bind fun s19=>
 some s19
theorem jZ(data_0:Sl aD)(a_1:Int)(b_2:Int)(limit_3:Int):aT (ei data_0 a_1 b_2 limit_3) (cL data_0 a_1 b_2 limit_3):=by
 unfold ei cL
 with_reducible repeat' first
  |apply jk
  |refine aT.loop (fun _=>?_) _ _
  |refine aT.bind ?_ (fun _=>?_)
  |exact aT.refl _
def dP(x_0:Sl aD):Option (Sl aD):=
 (nV (wr .u64 (x_0.l.length:Int))).bind fun r1=>
 (ei x_0 0 (x_0.l.length:Int) r1).bind fun s2=>
 (my s2 x_0).bind fun _=>
 some s2
theorem jb(x_0:Sl aD):aT (dP x_0) (cr x_0):=by
 unfold dP cr
 with_reducible repeat' first
  |apply jZ
  |refine aT.bind ?_ (fun _=>?_)
  |exact aT.refl _
def qU(t_0:ao)(sw_1:Int):Option (Sl aD):=
 (dn 100000 (iE t_0 sw_1) (0,Sl.nil)).bind fun s11=>
 (dP s11).bind fun s12=>
 (my s12 s11).bind fun _=>
 some s12
theorem vi(t_0:ao)(sw_1:Int):aT (qU t_0 sw_1) (mW t_0 sw_1):=by
 unfold qU mW
 with_reducible repeat' first
  |apply jb
  |refine aT.loop (fun _=>?_) _ _
  |refine aT.bind ?_ (fun _=>?_)
  |exact aT.refl _
def sD(t_0:ao):(Sl Int×Sl Int)->Option ((Sl Int×Sl Int)⊕(Sl Int)):=fun(s6,s7)=>
 bif decide ((s7.l.length:Int)>0)then((cD 0 s7.l.length).bind fun n8=>
 (qU t_0 (gt s7.l n8)).bind fun r9=>
 (dn 100000 (mY r9) (0,s6,s7)).bind fun(s26,s27)=>
 (nD s27.l 1 s27.l.length).bind fun l28=>
 some (.inl (s26,(s27.to l28))))else
 (some (.inr s6))
theorem BN(t_0:ao):∀s,aT (sD t_0 s) (mX t_0 s):=by
 intro s;unfold sD mX
 with_reducible repeat' first
  |apply vi
  |refine aT.loop (fun _=>?_) _ _
  |refine aT.cond ?_ ?_
  |refine aT.bind ?_ (fun _=>?_)
  |(split<;>try dsimp only)
  |exact aT.refl _
def wJ(t_0:ao)(sw_1:Int):Option (Sl Int):=
 (gj (Sl.mk [(-1)]) (if 0>(ao.au t_0)then 0 else(ao.au t_0))).bind fun s1=>
 bif((decide (sw_1<0))||(decide (sw_1>=(ao.au t_0))))then(some s1)else
 ((cD sw_1 s1.l.length).bind fun n2=>
 (dn 100000 (sD t_0) ((Sl.mk (s1.l.set n2 0)),(Sl.mk [sw_1]))).bind fun s29=>
 some s29)
theorem FD(t_0:ao)(sw_1:Int):aT (wJ t_0 sw_1) (oT t_0 sw_1):=by
 unfold wJ oT
 with_reducible repeat' first
  |apply j6
  |apply BN
  |refine aT.loop (fun _=>?_) _ _
  |refine aT.cond ?_ ?_
  |refine aT.bind ?_ (fun _=>?_)
  |exact aT.refl _
def kY(s_0:Sl Int)(v_1:Int):Option Int:=
 (dn 100000 (cG s_0 v_1) 0).bind fun
 |.inl i4=>(some i4)
 |.inr _=>(some (-1))
theorem uK(s_0:Sl Int)(v_1:Int):aT (kY s_0 v_1) (fx s_0 v_1):=by
 unfold kY fx
 with_reducible repeat' first
  |refine aT.loop (fun _=>?_) _ _
  |refine aT.bind ?_ (fun _=>?_)
  |(split<;>try dsimp only)
  |exact aT.refl _
def dm(s_0:Sl Int)(v_1:Int):Option Bool:=
 (kY s_0 v_1).bind fun r1=>
 some (decide (r1>=0))
theorem ez(s_0:Sl Int)(v_1:Int):aT (dm s_0 v_1) (bJ s_0 v_1):=by
 unfold dm bJ
 with_reducible repeat' first
  |apply uK
  |refine aT.bind ?_ (fun _=>?_)
  |exact aT.refl _
def vh(t_0:ao):Option Bool:=
 (wJ t_0 0).bind fun r1=>
 (dm r1 (-1)).bind fun r2=>
 some (!r2)
theorem D9(t_0:ao):aT (vh t_0) (qe t_0):=by
 unfold vh qe
 with_reducible repeat' first
  |apply FD
  |apply ez
  |refine aT.bind ?_ (fun _=>?_)
  |exact aT.refl _
def fy(s_0:Sl Int):Option Int:=
 (dn 100000 (ft s_0) 0).bind fun
 |.inl i5=>(some i5)
 |.inr _=>(some (-1))
theorem mx(s_0:Sl Int):aT (fy s_0) (dq s_0):=by
 unfold fy dq
 with_reducible repeat' first
  |refine aT.loop (fun _=>?_) _ _
  |refine aT.bind ?_ (fun _=>?_)
  |(split<;>try dsimp only)
  |exact aT.refl _
def eP(s_0:Sl Int):Option Bool:=
 (fy s_0).bind fun r1=>
 some (decide (r1>=0))
theorem kZ(s_0:Sl Int):aT (eP s_0) (cF s_0):=by
 unfold eP cF
 with_reducible repeat' first
  |apply mx
  |refine aT.bind ?_ (fun _=>?_)
  |exact aT.refl _
def yj(bits_0:Sl Int):Option (Sl Nat):=
 (dn 100000 (qT bits_0) (0,Sl.nil)).bind fun s9=>
 some s9
theorem GP(bits_0:Sl Int):aT (yj bits_0) (uG bits_0):=by
 unfold yj uG
 with_reducible repeat' first
  |refine aT.loop (fun _=>?_) _ _
  |refine aT.bind ?_ (fun _=>?_)
  |exact aT.refl _
def dW(s_0:Sl Nat):Option Int:=
 (dn 100000 (b_ s_0) 0).bind fun
 |.inl i5=>(some i5)
 |.inr _=>(some (-1))
theorem jl(s_0:Sl Nat):aT (dW s_0) (bM s_0):=by
 unfold dW bM
 with_reducible repeat' first
  |refine aT.loop (fun _=>?_) _ _
  |refine aT.bind ?_ (fun _=>?_)
  |(split<;>try dsimp only)
  |exact aT.refl _
def dA(s_0:Sl Nat):Option Bool:=
 (dW s_0).bind fun r1=>
 some (decide (r1>=0))
theorem iI(s_0:Sl Nat):aT (dA s_0) (bF s_0):=by
 unfold dA bF
 with_reducible repeat' first
  |apply jl
  |refine aT.bind ?_ (fun _=>?_)
  |exact aT.refl _
def ua(w_0:Sl Nat)(links_1:Int):Option Bool:=
 (bif((w_0.l.length:Int)==links_1)then((dA w_0).bind fun r1=>
 some (!r1))else
 (some false):Option Bool).bind fun b2=>
 some b2
theorem Cz(w_0:Sl Nat)(links_1:Int):aT (ua w_0 links_1) (qS w_0 links_1):=by
 unfold ua qS
 with_reducible repeat' first
  |apply iI
  |refine aT.cond ?_ ?_
  |refine aT.bind ?_ (fun _=>?_)
  |exact aT.refl _
def nO(t_0:ao)(w_1:Sl Nat):Option Bool:=
 ((pm t_0).bind fun r1=>
 bif r1 then((ua w_1 (((ao.aZ t_0).l).length:Int)).bind fun r2=>
 some r2)else
 (some false):Option Bool).bind fun b3=>
 some b3
theorem sF(t_0:ao)(w_1:Sl Nat):aT (nO t_0 w_1) (jH t_0 w_1):=by
 unfold nO jH
 with_reducible repeat' first
  |apply ue
  |apply Cz
  |refine aT.cond ?_ ?_
  |refine aT.bind ?_ (fun _=>?_)
  |exact aT.refl _
def gK(x_0:Sl Nat)(count_1:Int):Option (Sl Nat):=
 bif decide (count_1<0)then(none)else
 ((oq (wr .u64 (x_0.l.length:Int)) (wr .u64 count_1)).bind fun(r1,r2)=>
 bif((decide (r1>0))||(decide (r2>9223372036854775807)))then(none)else
 ((yT 0 (wr .i64 r2) (wr .i64 r2)).bind fun l3=>
 (dn 100000 (jG) (((min x_0.l.length l3.length:Nat):Int),(Sl.mk (B_ l3 0 l3.length x_0.l)))).bind fun s11=>
 some s11))
theorem pq(x_0:Sl Nat)(count_1:Int):aT (gK x_0 count_1) (dN x_0 count_1):=by
 unfold gK dN
 with_reducible repeat' first
  |apply uW
  |refine aT.loop (fun _=>?_) _ _
  |refine aT.cond ?_ ?_
  |refine aT.bind ?_ (fun _=>?_)
  |(split<;>try dsimp only)
  |exact aT.refl _
def yD(x_0:Nat):Option Nat:=
 (vN x_0).bind fun r1=>
 (vM (tg .u64 r1 9223372036854775808)).bind fun r2=>
 some r2
theorem Ie(x_0:Nat):aT (yD x_0) (zK x_0):=by
 unfold yD zK;rw[qF]
 with_reducible repeat' first
  |refine aT.bind ?_ (fun _=>?_)
  |exact aT.refl _
def pC(f_0:Nat)(sign_1:Int):Option Bool:=
 (bif(sign_1==0)then((yD f_0).bind fun r1=>
 some r1)else
 (bif decide (sign_1<0)then(some (Op.negFloat .f64 f_0))else
 (some f_0)):Option Nat).bind fun f2=>
 some (L5 .f64 f2 9218868437227405311)
theorem x_(f_0:Nat)(sign_1:Int):aT (pC f_0 sign_1) (ke f_0 sign_1):=by
 unfold pC ke
 with_reducible repeat' first
  |apply Ie
  |refine aT.cond ?_ ?_
  |refine aT.bind ?_ (fun _=>?_)
  |exact aT.refl _
def uw(x_0:Nat):Option Int:=
 bif(!(IH .f64 x_0 x_0))then(some 0)else
 ((pC x_0 (-1)).bind fun r1=>
 bif r1 then(some 1)else
 ((pC x_0 1).bind fun r2=>
 bif r2 then(some 6)else
 (bif Q_ .f64 x_0 0 then(some 2)else
 (bif L5 .f64 x_0 0 then(some 5)else
 ((rR x_0).bind fun r3=>
 bif r3 then(some 3)else
 (some 4))))))
theorem Dx(x_0:Nat):aT (uw x_0) (oZ x_0):=by
 unfold uw oZ
 with_reducible repeat' first
  |apply x_
  |refine aT.cond ?_ ?_
  |refine aT.bind ?_ (fun _=>?_)
  |exact aT.refl _
def rW(x_0:Nat):Option Int:=
 (uw x_0).bind fun r1=>
 bif(r1==0)then(some 2)else
 (bif(r1==3)then(some (-1))else
 (some 0))
theorem Ew(x_0:Nat):aT (rW x_0) (lh x_0):=by
 unfold rW lh
 with_reducible repeat' first
  |apply Dx
  |refine aT.cond ?_ ?_
  |refine aT.bind ?_ (fun _=>?_)
  |exact aT.refl _
def rz(a_0:Nat)(b_1:Nat):Option Int:=
 bif Q_ .f64 a_0 b_1 then(some (-1))else
 (bif L5 .f64 a_0 b_1 then(some 1)else
 ((rW a_0).bind fun r1=>
 (rW b_1).bind fun r2=>
 (jE r1 r2).bind fun r3=>
 some r3))
theorem A0(a_0:Nat)(b_1:Nat):aT (rz a_0 b_1) (lT a_0 b_1):=by
 unfold rz lT
 with_reducible repeat' first
  |apply Ew
  |refine aT.cond ?_ ?_
  |refine aT.bind ?_ (fun _=>?_)
  |exact aT.refl _
def rk(a_0:Int)(b_1:Int)(c_2:Sl Nat):Option Int:=
 (cD a_0 c_2.l.length).bind fun n1=>
 (cD b_1 c_2.l.length).bind fun n2=>
 (rz (gt c_2.l n1) (gt c_2.l n2)).bind fun r3=>
 some r3
theorem AD(a_0:Int)(b_1:Int)(c_2:Sl Nat):aT (rk a_0 b_1 c_2) (gw a_0 b_1 c_2):=by
 unfold rk gw
 with_reducible repeat' first
  |apply A0
  |refine aT.bind ?_ (fun _=>?_)
  |exact aT.refl _
def dI(a_1:Int)(cmp_3_c0:Sl Nat):(Int×Sl Int)->Option ((Int×Sl Int)⊕(Sl Int)):=fun(i9,s10)=>
 (bif decide (i9>a_1)then((cD i9 s10.l.length).bind fun n11=>
 (cD (wr .i64 (i9-1)) s10.l.length).bind fun n12=>
 (rk (gt s10.l n11) (gt s10.l n12) cmp_3_c0).bind fun r13=>
 some (decide (r13<0)))else
 (some false):Option Bool).bind fun b14=>
 bif b14 then((cD (wr .i64 (i9-1)) s10.l.length).bind fun n15=>
 (cD i9 s10.l.length).bind fun n16=>
 (cD i9 s10.l.length).bind fun n17=>
 (cD (wr .i64 (i9-1)) (s10.l.set n17 (gt s10.l n15)).length).bind fun n18=>
 some (.inl (wr .i64 (i9-1),(Sl.mk ((s10.l.set n17 (gt s10.l n15)).set n18 (gt s10.l n16))))))else
 (some (.inr s10))
theorem iX(a_1:Int)(cmp_3_c0:Sl Nat):∀s,aT (dI a_1 cmp_3_c0 s) (dV a_1 cmp_3_c0 s):=by
 intro s;unfold dI dV
 with_reducible repeat' first
  |apply AD
  |refine aT.cond ?_ ?_
  |refine aT.bind ?_ (fun _=>?_)
  |(split<;>try dsimp only)
  |exact aT.refl _
def dH(a_1:Int)(b_2:Int)(cmp_3_c0:Sl Nat):(Int×Sl Int)->Option ((Int×Sl Int)⊕(Sl Int)):=fun(i4,s5)=>
 bif decide (i4<b_2)then((dn 100000 (dI a_1 cmp_3_c0) (i4,s5)).bind fun s19=>
 some (.inl (wr .i64 (i4+1),s19)))else
 (some (.inr s5))
theorem iW(a_1:Int)(b_2:Int)(cmp_3_c0:Sl Nat):∀s,aT (dH a_1 b_2 cmp_3_c0 s) (dU a_1 b_2 cmp_3_c0 s):=by
 intro s;unfold dH dU
 with_reducible repeat' first
  |apply iX
  |refine aT.loop (fun _=>?_) _ _
  |refine aT.cond ?_ ?_
  |refine aT.bind ?_ (fun _=>?_)
  |(split<;>try dsimp only)
  |exact aT.refl _
def cW(data_0:Sl Int)(a_1:Int)(b_2:Int)(cmp_3_c0:Sl Nat):Option (Sl Int):=
 (dn 100000 (dH a_1 b_2 cmp_3_c0) (wr .i64 (a_1+1),data_0)).bind fun s20=>
 some s20
theorem fQ(data_0:Sl Int)(a_1:Int)(b_2:Int)(cmp_3_c0:Sl Nat):aT (cW data_0 a_1 b_2 cmp_3_c0) (bQ data_0 a_1 b_2 cmp_3_c0):=by
 unfold cW bQ
 with_reducible repeat' first
  |apply iW
  |refine aT.loop (fun _=>?_) _ _
  |refine aT.bind ?_ (fun _=>?_)
  |exact aT.refl _
def eI(n_1:Int)(cmp_2_c0:Sl Nat):(Int×Int×Sl Int)->Option ((Int×Int×Sl Int)⊕(Int×Sl Int)):=fun(i6,i7,s8)=>
 bif decide (i7<=n_1)then((cW s8 i6 i7 cmp_2_c0).bind fun s9=>
 (my s9 s8).bind fun _=>
 some (.inl (i7,wr .i64 (i7+20),s9)))else
 (some (.inr (i6,s8)))
theorem kA(n_1:Int)(cmp_2_c0:Sl Nat):∀s,aT (eI n_1 cmp_2_c0 s) (cQ n_1 cmp_2_c0 s):=by
 intro s;unfold eI cQ
 with_reducible repeat' first
  |apply fQ
  |refine aT.cond ?_ ?_
  |refine aT.bind ?_ (fun _=>?_)
  |(split<;>try dsimp only)
  |exact aT.refl _
def eG(n_1:Int):Int->Option (Int⊕Unit):=fun i14=>
 bif decide (i14<n_1)then((dn 100000 (gI n_1) (0,wr .i64 (2*i14))).bind fun i19=>
 bif decide ((wr .i64 (i19+i14))<n_1)then(none)else
 (some (.inl (wr .i64 (i14*2)))))else
 (some (.inr ()))
theorem kz(n_1:Int):∀s,aT (eG n_1 s) (cP n_1 s):=by
 intro s;unfold eG cP
 with_reducible repeat' first
  |refine aT.loop (fun _=>?_) _ _
  |refine aT.cond ?_ ?_
  |refine aT.bind ?_ (fun _=>?_)
  |exact aT.refl _
def eZ(data_0:Sl Int)(n_1:Int)(cmp_2_c0:Sl Nat):Option (Sl Int):=
 (dn 100000 (eI n_1 cmp_2_c0) (0,20,data_0)).bind fun(i10,s11)=>
 (cW s11 i10 n_1 cmp_2_c0).bind fun s12=>
 (my s12 s11).bind fun _=>
 (dn 100000 (eG n_1) 20).bind fun _=>
 some s12
theorem lD(data_0:Sl Int)(n_1:Int)(cmp_2_c0:Sl Nat):aT (eZ data_0 n_1 cmp_2_c0) (c_ data_0 n_1 cmp_2_c0):=by
 unfold eZ c_
 with_reducible repeat' first
  |apply kA
  |apply fQ
  |apply kz
  |refine aT.loop (fun _=>?_) _ _
  |refine aT.bind ?_ (fun _=>?_)
  |(split<;>try dsimp only)
  |exact aT.refl _
def ek(x_0:Sl Int)(cmp_1_c0:Sl Nat):Option (Sl Int):=
 (eZ x_0 (x_0.l.length:Int) cmp_1_c0).bind fun s1=>
 (my s1 x_0).bind fun _=>
 some s1
theorem j5(x_0:Sl Int)(cmp_1_c0:Sl Nat):aT (ek x_0 cmp_1_c0) (bZ x_0 cmp_1_c0):=by
 unfold ek bZ
 with_reducible repeat' first
  |apply lD
  |refine aT.bind ?_ (fun _=>?_)
  |exact aT.refl _
def qi(t_0:ao)(w_1:Sl Nat):(Sl Int×Sl Nat)->Option ((Sl Int×Sl Nat)⊕(Sl Nat)):=fun(s16,s17)=>
 bif decide ((s16.l.length:Int)>0)then((ek s16 s17).bind fun s18=>
 (my s18 s16).bind fun _=>
 (cD 0 s18.l.length).bind fun n19=>
 (nD s18.l 1 s18.l.length).bind fun l20=>
 (qU t_0 (gt s18.l n19)).bind fun r21=>
 (dn 100000 (kE w_1 n19 s18 r21) (0,s17)).bind fun s33=>
 some (.inl ((s18.to l20),s33)))else
 (some (.inr s17))
theorem zo(t_0:ao)(w_1:Sl Nat):∀s,aT (qi t_0 w_1 s) (kD t_0 w_1 s):=by
 intro s;unfold qi kD
 with_reducible repeat' first
  |apply j5
  |apply vi
  |refine aT.loop (fun _=>?_) _ _
  |refine aT.cond ?_ ?_
  |refine aT.bind ?_ (fun _=>?_)
  |(split<;>try dsimp only)
  |exact aT.refl _
def qJ(t_0:ao)(w_1:Sl Nat)(sw_2:Int):Option (Sl Nat):=
 (nO t_0 w_1).bind fun r1=>
 bif(((!r1)||(decide (sw_2<0)))||(decide (sw_2>=(ao.au t_0))))then(some Sl.nil)else
 ((uX 1).bind fun r2=>
 (gK (Sl.mk [r2]) (ao.au t_0)).bind fun s3=>
 (cD sw_2 s3.l.length).bind fun n4=>
 (yT 0 (ao.au t_0) (ao.au t_0)).bind fun l5=>
 (dn 100000 (kF l5) (0,(Sl.mk l5))).bind fun s12=>
 (dn 100000 (qi t_0 w_1) (s12,(Sl.mk (s3.l.set n4 0)))).bind fun s34=>
 some s34)
theorem wN(t_0:ao)(w_1:Sl Nat)(sw_2:Int):aT (qJ t_0 w_1 sw_2) (jI t_0 w_1 sw_2):=by
 unfold qJ jI
 with_reducible repeat' first
  |apply sF
  |apply pq
  |apply zo
  |refine aT.loop (fun _=>?_) _ _
  |refine aT.cond ?_ ?_
  |refine aT.bind ?_ (fun _=>?_)
  |exact aT.refl _
def qI(t_0:ao)(w_1:Sl Nat)(costs_2:Sl Nat)(at_3:Int):Option (Sl aD):=
 (cD at_3 costs_2.l.length).bind fun n1=>
 (pC (gt costs_2.l n1) 1).bind fun r2=>
 bif r2 then(some Sl.nil)else
 ((qU t_0 at_3).bind fun r3=>
 (dn 100000 (mC w_1 costs_2 at_3 r3) (0,Sl.nil)).bind fun s18=>
 some s18)
theorem wM(t_0:ao)(w_1:Sl Nat)(costs_2:Sl Nat)(at_3:Int):aT (qI t_0 w_1 costs_2 at_3) (mD t_0 w_1 costs_2 at_3):=by
 unfold qI mD
 with_reducible repeat' first
  |apply x_
  |apply vi
  |refine aT.loop (fun _=>?_) _ _
  |refine aT.cond ?_ ?_
  |refine aT.bind ?_ (fun _=>?_)
  |exact aT.refl _
def dw(s_0:Sl aD)(f_1_c0:Sl Int)(f_1_c1:Int):Option Int:=
 (dn 100000 (bO s_0 f_1_c0 f_1_c1) 0).bind fun
 |.inl i5=>(some i5)
 |.inr _=>(some (-1))
theorem iB(s_0:Sl aD)(f_1_c0:Sl Int)(f_1_c1:Int):aT (dw s_0 f_1_c0 f_1_c1) (bW s_0 f_1_c0 f_1_c1):=by
 unfold dw bW
 with_reducible repeat' first
  |refine aT.loop (fun _=>?_) _ _
  |refine aT.bind ?_ (fun _=>?_)
  |(split<;>try dsimp only)
  |exact aT.refl _
def dg(s_0:Sl aD)(f_1_c0:Sl Int)(f_1_c1:Int):Option Bool:=
 (dw s_0 f_1_c0 f_1_c1).bind fun r1=>
 some (decide (r1>=0))
theorem hZ(s_0:Sl aD)(f_1_c0:Sl Int)(f_1_c1:Int):aT (dg s_0 f_1_c0 f_1_c1) (br s_0 f_1_c0 f_1_c1):=by
 unfold dg br
 with_reducible repeat' first
  |apply iB
  |refine aT.bind ?_ (fun _=>?_)
  |exact aT.refl _
def qh(t_0:ao)(w_1:Sl Nat)(r1:Sl Nat)(i7:Int)(s8:Sl Int):(Int×Sl Int)->Option ((Int×Sl Int)⊕(Sl Int)):=fun(i13,s14)=>
 bif decide (i13<(s8.l.length:Int))then((((cD i13 s14.l.length).bind fun n15=>
 bif decide ((gt s14.l n15)<0)then((qI t_0 w_1 r1 i13).bind fun r16=>
 (dg r16 s14 i7).bind fun r17=>
 some r17)else
 (some false):Option Bool).bind fun b18=>
 bif b18 then((cD i13 s14.l.length).bind fun n19=>
 some (Sl.mk (s14.l.set n19 (wr .i64 (i7+1)))))else
 (some s14):Option (Sl Int)).bind fun s20=>
 some (.inl (wr .i64 (i13+1),s20)))else
 (some (.inr s14))
theorem zn(t_0:ao)(w_1:Sl Nat)(r1:Sl Nat)(i7:Int)(s8:Sl Int):∀s,aT (qh t_0 w_1 r1 i7 s8 s) (jc t_0 w_1 r1 i7 s8 s):=by
 intro s;unfold qh jc
 with_reducible repeat' first
  |apply wM
  |apply hZ
  |refine aT.cond ?_ ?_
  |refine aT.bind ?_ (fun _=>?_)
  |(split<;>try dsimp only)
  |exact aT.refl _
def qg(t_0:ao)(w_1:Sl Nat)(r1:Sl Nat):(Int×Sl Int)->Option ((Int×Sl Int)⊕(Sl Int)):=fun(i7,s8)=>
 (dm s8 i7).bind fun r9=>
 bif r9 then((dn 100000 (qh t_0 w_1 r1 i7 s8) (0,s8)).bind fun s21=>
 some (.inl (wr .i64 (i7+1),s21)))else
 (some (.inr s8))
theorem zm(t_0:ao)(w_1:Sl Nat)(r1:Sl Nat):∀s,aT (qg t_0 w_1 r1 s) (h_ t_0 w_1 r1 s):=by
 intro s;unfold qg h_
 with_reducible repeat' first
  |apply ez
  |apply zn
  |refine aT.loop (fun _=>?_) _ _
  |refine aT.cond ?_ ?_
  |refine aT.bind ?_ (fun _=>?_)
  |(split<;>try dsimp only)
  |exact aT.refl _
def ui(t_0:ao)(w_1:Sl Nat)(sw_2:Int):Option (Sl Int):=
 (qJ t_0 w_1 sw_2).bind fun r1=>
 bif r1.nw then(some Sl.nil)else
 ((gj (Sl.mk [(-1)]) (ao.au t_0)).bind fun s2=>
 (cD sw_2 s2.l.length).bind fun n3=>
 (dn 100000 (qg t_0 w_1 r1) (0,(Sl.mk (s2.l.set n3 0)))).bind fun s22=>
 some s22)
theorem CL(t_0:ao)(w_1:Sl Nat)(sw_2:Int):aT (ui t_0 w_1 sw_2) (oU t_0 w_1 sw_2):=by
 unfold ui oU
 with_reducible repeat' first
  |apply wN
  |apply j6
  |apply zm
  |refine aT.loop (fun _=>?_) _ _
  |refine aT.cond ?_ ?_
  |refine aT.bind ?_ (fun _=>?_)
  |exact aT.refl _
def rj(t_0:ao)(w_1:Sl Nat)(r3:Sl Nat)(r4:Sl Int)(s5:Sl Int):(Int×Sl Int)->Option ((Int×Sl Int)⊕(Sl Int)):=fun(i9,s10)=>
 bif decide (i9<(s5.l.length:Int))then((qI t_0 w_1 r3 i9).bind fun r11=>
 (dn 100000 (iS r4 i9 r11) (0,s10)).bind fun s21=>
 some (.inl (wr .i64 (i9+1),s21)))else
 (some (.inr s10))
theorem AC(t_0:ao)(w_1:Sl Nat)(r3:Sl Nat)(r4:Sl Int)(s5:Sl Int):∀s,aT (rj t_0 w_1 r3 r4 s5 s) (j7 t_0 w_1 r3 r4 s5 s):=by
 intro s;unfold rj j7
 with_reducible repeat' first
  |apply wM
  |refine aT.loop (fun _=>?_) _ _
  |refine aT.cond ?_ ?_
  |refine aT.bind ?_ (fun _=>?_)
  |(split<;>try dsimp only)
  |exact aT.refl _
def vo(t_0:ao)(w_1:Sl Nat)(h_2:Int):Option (Sl Int×Int):=
 (nO t_0 w_1).bind fun r1=>
 bif(!r1)then(some (Sl.nil,2))else
 (bif((decide (h_2<0))||(decide (h_2>=(((ao.bn t_0).l).length:Int))))then(some (Sl.nil,7))else
 ((cD h_2 ((ao.bn t_0).l).length).bind fun n2=>
 (qJ t_0 w_1 (fR.At (gt ((ao.bn t_0).l) n2))).bind fun r3=>
 (ui t_0 w_1 (fR.At (gt ((ao.bn t_0).l) n2))).bind fun r4=>
 (gj (Sl.mk [(-1)]) (ao.au t_0)).bind fun s5=>
 (dn 100000 (rj t_0 w_1 r3 r4 s5) (0,s5)).bind fun s22=>
 (cD h_2 ((ao.bn t_0).l).length).bind fun n23=>
 (cD (fR.At (gt ((ao.bn t_0).l) n2)) s22.l.length).bind fun n24=>
 some ((Sl.mk (s22.l.set n24 (fR.gi (gt ((ao.bn t_0).l) n23)))),0)))
theorem Ea(t_0:ao)(w_1:Sl Nat)(h_2:Int):aT (vo t_0 w_1 h_2) (qf t_0 w_1 h_2):=by
 unfold vo qf
 with_reducible repeat' first
  |apply sF
  |apply wN
  |apply CL
  |apply j6
  |apply AC
  |refine aT.loop (fun _=>?_) _ _
  |refine aT.cond ?_ ?_
  |refine aT.bind ?_ (fun _=>?_)
  |exact aT.refl _
def pw(t_0:ao)(w_1:Sl Nat):(Int×Sl (Sl Int))->Option ((Int×Sl (Sl Int))⊕(Int⊕(Sl (Sl Int)))):=fun(i6,s7)=>
 bif decide (i6<(((ao.bn t_0).l).length:Int))then((vo t_0 w_1 i6).bind fun(r8,_)=>
 (dm r8 (-1)).bind fun r10=>
 bif r10 then(some (.inr (.inl 7)))else
 ((dn 100000 (jC r8) (0,s7)).bind fun s20=>
 some (.inl (wr .i64 (i6+1),s20))))else
 (some (.inr (.inr s7)))
theorem yn(t_0:ao)(w_1:Sl Nat):∀s,aT (pw t_0 w_1 s) (fF t_0 w_1 s):=by
 intro s;unfold pw fF
 with_reducible repeat' first
  |apply Ea
  |apply ez
  |refine aT.loop (fun _=>?_) _ _
  |refine aT.cond ?_ ?_
  |refine aT.bind ?_ (fun _=>?_)
  |(split<;>try dsimp only)
  |exact aT.refl _
def sG(t_0:ao)(w_1:Sl Nat):Option (Sl (Sl Int)×Int):=
 (nO t_0 w_1).bind fun r1=>
 bif(!r1)then(some (Sl.nil,2))else
 ((yT (Sl.nil:Sl Int) (ao.au t_0) (ao.au t_0)).bind fun l2=>
 (dn 100000 (pw t_0 w_1) (0,(Sl.mk l2))).bind fun
 |.inl i21=>(some (Sl.nil,i21))
 |.inr s22=>(some (s22,0)))
theorem BP(t_0:ao)(w_1:Sl Nat):aT (sG t_0 w_1) (iK t_0 w_1):=by
 unfold sG iK
 with_reducible repeat' first
  |apply sF
  |apply yn
  |refine aT.loop (fun _=>?_) _ _
  |refine aT.cond ?_ ?_
  |refine aT.bind ?_ (fun _=>?_)
  |(split<;>try dsimp only)
  |exact aT.refl _
def td(c_0:ai):(Int×Sl (Sl (Sl Int)))->Option ((Int×Sl (Sl (Sl Int)))⊕(Int⊕(Sl (Sl (Sl Int))))):=fun(i16,s17)=>
 bif decide (i16<(((ai.eo c_0).l).length:Int))then((cD i16 ((ai.eo c_0).l).length).bind fun n18=>
 (yj (gt ((ai.eo c_0).l) n18)).bind fun r19=>
 (sG (ai.T c_0) r19).bind fun(r20,r21)=>
 bif(r21 !=0)then(some (.inr (.inl 2)))else
 ((ic (s17.l++[r20])).bind fun l22=>
 some (.inl (wr .i64 (i16+1),(Sl.mk l22)))))else
 (some (.inr (.inr s17)))
theorem B9(c_0:ai):∀s,aT (td c_0 s) (rZ c_0 s):=by
 intro s;unfold td rZ
 with_reducible repeat' first
  |apply GP
  |apply BP
  |refine aT.cond ?_ ?_
  |refine aT.bind ?_ (fun _=>?_)
  |(split<;>try dsimp only)
  |exact aT.refl _
def xf(c_0:ai):Option (Sl (Sl (Sl Int))×Int):=
 ((pm (ai.T c_0)).bind fun r1=>
 bif r1 then((vh (ai.T c_0)).bind fun r2=>
 some (((r2&&(decide ((((ai.eo c_0).l).length:Int)>=1)))&&(decide ((((ai.eo c_0).l).length:Int)<=16)))&&((((ai.vY c_0).l).length:Int)==(ao.au (ai.T c_0)))))else
 (some false):Option Bool).bind fun b3=>
 (bif b3 then((mL (ai.R9 c_0) 0 500).bind fun r4=>
 bif r4 then((mL (ai.KX c_0) (((ao.bn (ai.T c_0)).l).length:Int) 64).bind fun r5=>
 bif r5 then((mL (ai.uD c_0) 0 65536).bind fun r6=>
 bif r6 then((mL (ai.xW c_0) 0 65536).bind fun r7=>
 bif r7 then((mL (ai.KZ c_0) 0 65536).bind fun r8=>
 bif r8 then((mL (ai.R8 c_0) 1 65536).bind fun r9=>
 some r9)else
 (some false))else
 (some false))else
 (some false))else
 (some false))else
 (some false))else
 (some false):Option Bool).bind fun b10=>
 (bif(!b10)then(some true)else
 ((eP (ai.vY c_0)).bind fun r11=>
 some r11):Option Bool).bind fun b12=>
 bif b12 then(some (Sl.nil,2))else
 ((dn 100000 (td c_0) (0,Sl.nil)).bind fun
 |.inl i23=>(some (Sl.nil,i23))
 |.inr s24=>(some (s24,0)))
theorem Gk(c_0:ai):aT (xf c_0) (sB c_0):=by
 unfold xf sB
 with_reducible repeat' first
  |apply ue
  |apply D9
  |apply kZ
  |apply B9
  |refine aT.loop (fun _=>?_) _ _
  |refine aT.cond ?_ ?_
  |refine aT.bind ?_ (fun _=>?_)
  |(split<;>try dsimp only)
  |exact aT.refl _
def xa:Option (Int×am×Int×Mp Int aa×Int×Int×Int×Int×Arr 8 ak×Arr 8 Int×Sl aa×Sl ax):=
 (dn 100000 (vU) (0,0,(⟨Sl.nil,Sl.nil,0,0,0,0⟩:am),0,0,(-1),0,(-1),(pV (.ar 8 y5)),(pV (.ar 8 (.i .i64))),(Mp.none:Mp Int aa),Sl.nil,Sl.nil)).bind fun(i29,x30,i31,i32,i33,i34,i35,v36,v37,m38,s39,s40)=>
 some (i29,x30,i31,m38,i32,i33,i34,i35,v36,v37,s39,s40)
theorem Gj:aT (xa) (o9):=by
 unfold xa o9
 with_reducible repeat' first
  |refine aT.loop (fun _=>?_) _ _
  |refine aT.bind ?_ (fun _=>?_)
  |(split<;>try dsimp only)
  |exact aT.refl _
def u6(c_0:ai):Option (Int⊕(ai×Sl (Sl (Sl Int))×Sl aj×af×Int×am×Int×Mp Int aa×Int×Int×Int×Int×Arr 8 ak×Arr 8 Int×Sl aa×Sl ax×Int)):=
 (xf c_0).bind fun(r1,r2)=>
 bif(r2 !=0)then(some (.inl r2))else
 ((xa).bind fun(r3,r4,r5,r6,r7,r8,r9,r10,r11,r12,s13,s14)=>
 some (.inr (c_0,r1,Sl.nil,(⟨0,0,false,0,0,0,false,false,0⟩:af),r3,r4,r5,r6,r7,r8,r9,r10,r11,r12,s13,s14,0)))
theorem KG(c_0:ai):aT (u6 c_0) (rX c_0):=by
 unfold u6 rX
 with_reducible repeat' first
  |apply Gk
  |apply Gj
  |refine aT.cond ?_ ?_
  |refine aT.bind ?_ (fun _=>?_)
  |(split<;>try dsimp only)
  |exact aT.refl _
def oM(x_0_c:ai)(now_1:Int)(up_2:Int):(Int×ai×Sl (Sl (Sl Int))×af×Int×am×Int×Int×Int×Int×Int×Arr 8 ak×Arr 8 Int×Sl aj×Mp Int aa×Sl aa×Sl ax)->Option ((Int×ai×Sl (Sl (Sl Int))×af×Int×am×Int×Int×Int×Int×Int×Arr 8 ak×Arr 8 Int×Sl aj×Mp Int aa×Sl aa×Sl ax)⊕(ai×Sl (Sl (Sl Int))×af×Int×am×Int×Int×Int×Int×Int×Arr 8 ak×Arr 8 Int×Sl aj×Mp Int aa×Sl aa×Sl ax)):=fun(i19,x20,s21,x22,i23,x24,i25,i26,i27,i28,i29,v30,v31,s32,m33,s34,s35)=>
 bif decide (i19<(ao.au (ai.T x_0_c)))then((((AB .i64 up_2 i19).bind fun i36=>
 bif((pL .i64 i36 1)==1)then((cD i19 8).bind fun n37=>
 (mN x20 s21 s32 x22 i23 x24 i25 m33 i26 i27 i28 i29 v30 v31 s34 s35 now_1 (gt v31.1 n37)).bind fun(r38,q39,q40,s41,q42,q43,q44,q45,q46,q47,q48,q49,q50,q51,q52,s53,s54)=>
 some (r38,q39,q40,q42,q43,q44,q45,q47,q48,q49,q50,q51,q52,s41,q46,s53,s54))else
 (some (false,x20,s21,x22,i23,x24,i25,i26,i27,i28,i29,v30,v31,s32,m33,s34,s35)):Option (Bool×ai×Sl (Sl (Sl Int))×af×Int×am×Int×Int×Int×Int×Int×Arr 8 ak×Arr 8 Int×Sl aj×Mp Int aa×Sl aa×Sl ax)).bind fun(b55,x56,s57,x58,i59,x60,i61,i62,i63,i64,i65,v66,v67,s68,m69,s70,s71)=>
 bif b55 then((cD i19 8).bind fun n72=>
 (ic (s70.l++[(⟨1,i19,0,0,now_1,0,0,0,0,Sl.nil⟩:aa)])).bind fun l73=>
 some (x56,s57,x58,i59,x60,i61,i62,i63,i64,i65,v66,Arr.set v67 n72 now_1,s68,m69,(Sl.mk l73),s71))else
 (some (x56,s57,x58,i59,x60,i61,i62,i63,i64,i65,v66,v67,s68,m69,s70,s71)):Option (ai×Sl (Sl (Sl Int))×af×Int×am×Int×Int×Int×Int×Int×Arr 8 ak×Arr 8 Int×Sl aj×Mp Int aa×Sl aa×Sl ax)).bind fun(x74,s75,x76,i77,x78,i79,i80,i81,i82,i83,v84,v85,s86,m87,s88,s89)=>
 some (.inl (wr .i64 (i19+1),x74,s75,x76,i77,x78,i79,i80,i81,i82,i83,v84,v85,s86,m87,s88,s89)))else
 (some (.inr (x20,s21,x22,i23,x24,i25,i26,i27,i28,i29,v30,v31,s32,m33,s34,s35)))
theorem xS(x_0_c:ai)(now_1:Int)(up_2:Int):∀s,aT (oM x_0_c now_1 up_2 s) (kM x_0_c now_1 up_2 s):=by
 intro s;unfold oM kM;rw[se]
 with_reducible repeat' first
  |refine aT.cond ?_ ?_
  |refine aT.bind ?_ (fun _=>?_)
  |(split<;>try dsimp only)
  |exact aT.refl _
def rD(x_0_c:ai)(x_0_routes:Sl (Sl (Sl Int)))(x_0_l:Sl aj)(x_0_at:af)(x_0_volatile_phase:Int)(x_0_volatile_plan:am)(x_0_volatile_cur:Int)(x_0_volatile_want:Mp Int aa)(x_0_volatile_sent:Int)(x_0_volatile_rest:Int)(x_0_volatile_skip:Int)(x_0_volatile_healed:Int)(x_0_volatile_est:Arr 8 ak)(x_0_volatile_asked:Arr 8 Int)(x_0_volatile_out:Sl aa)(x_0_volatile_events:Sl ax)(now_1:Int)(up_2:Int):Option (ai×Sl (Sl (Sl Int))×Sl aj×af×Int×am×Int×Mp Int aa×Int×Int×Int×Int×Arr 8 ak×Arr 8 Int×Sl aa×Sl ax):=
 (dn 100000 (oM x_0_c now_1 up_2) (0,x_0_c,x_0_routes,x_0_at,x_0_volatile_phase,x_0_volatile_plan,x_0_volatile_cur,x_0_volatile_sent,x_0_volatile_rest,x_0_volatile_skip,x_0_volatile_healed,x_0_volatile_est,x_0_volatile_asked,x_0_l,x_0_volatile_want,x_0_volatile_out,x_0_volatile_events)).bind fun(x90,s91,x92,i93,x94,i95,i96,i97,i98,i99,v100,v101,s102,m103,s104,s105)=>
 some (x90,s91,s102,x92,i93,x94,i95,m103,i96,i97,i98,i99,v100,v101,s104,s105)
theorem Ba(x_0_c:ai)(x_0_routes:Sl (Sl (Sl Int)))(x_0_l:Sl aj)(x_0_at:af)(x_0_volatile_phase:Int)(x_0_volatile_plan:am)(x_0_volatile_cur:Int)(x_0_volatile_want:Mp Int aa)(x_0_volatile_sent:Int)(x_0_volatile_rest:Int)(x_0_volatile_skip:Int)(x_0_volatile_healed:Int)(x_0_volatile_est:Arr 8 ak)(x_0_volatile_asked:Arr 8 Int)(x_0_volatile_out:Sl aa)(x_0_volatile_events:Sl ax)(now_1:Int)(up_2:Int):aT (rD x_0_c x_0_routes x_0_l x_0_at x_0_volatile_phase x_0_volatile_plan x_0_volatile_cur x_0_volatile_want x_0_volatile_sent x_0_volatile_rest x_0_volatile_skip x_0_volatile_healed x_0_volatile_est x_0_volatile_asked x_0_volatile_out x_0_volatile_events now_1 up_2) (lV x_0_c x_0_routes x_0_l x_0_at x_0_volatile_phase x_0_volatile_plan x_0_volatile_cur x_0_volatile_want x_0_volatile_sent x_0_volatile_rest x_0_volatile_skip x_0_volatile_healed x_0_volatile_est x_0_volatile_asked x_0_volatile_out x_0_volatile_events now_1 up_2):=by
 unfold rD lV
 with_reducible repeat' first
  |apply xS
  |refine aT.loop (fun _=>?_) _ _
  |refine aT.bind ?_ (fun _=>?_)
  |(split<;>try dsimp only)
  |exact aT.refl _
def pE(up_2:Int)(x19:ai):(Int×ai×Sl (Sl (Sl Int))×af×Int×am×Int×Int×Int×Int×Int×Arr 8 ak×Arr 8 Int×Sl aj×Mp Int aa×Sl aa×Sl ax)->Option ((Int×ai×Sl (Sl (Sl Int))×af×Int×am×Int×Int×Int×Int×Int×Arr 8 ak×Arr 8 Int×Sl aj×Mp Int aa×Sl aa×Sl ax)⊕(ai×Sl (Sl (Sl Int))×af×Int×am×Int×Int×Int×Int×Int×Arr 8 ak×Arr 8 Int×Sl aj×Mp Int aa×Sl aa×Sl ax)):=fun(i53,x54,s55,x56,i57,x58,i59,i60,i61,i62,i63,v64,v65,s66,m67,s68,s69)=>
 bif decide (i53<(ao.au (ai.T x19)))then(((AB .i64 (pL .i64 (af.og x56) up_2) i53).bind fun i70=>
 bif((pL .i64 i70 1)==1)then((ic (s68.l++[(⟨5,i53,af.U x56,(-1),0,0,0,0,0,Sl.nil⟩:aa)])).bind fun l71=>
 some (x54,s55,x56,i57,x58,i59,i60,i61,i62,i63,v64,v65,s66,m67,(Sl.mk l71),s69))else
 (some (x54,s55,x56,i57,x58,i59,i60,i61,i62,i63,v64,v65,s66,m67,s68,s69)):Option (ai×Sl (Sl (Sl Int))×af×Int×am×Int×Int×Int×Int×Int×Arr 8 ak×Arr 8 Int×Sl aj×Mp Int aa×Sl aa×Sl ax)).bind fun(x72,s73,x74,i75,x76,i77,i78,i79,i80,i81,v82,v83,s84,m85,s86,s87)=>
 some (.inl (wr .i64 (i53+1),x72,s73,x74,i75,x76,i77,i78,i79,i80,i81,v82,v83,s84,m85,s86,s87)))else
 (some (.inr (x54,s55,x56,i57,x58,i59,i60,i61,i62,i63,v64,v65,s66,m67,s68,s69)))
theorem yN(up_2:Int)(x19:ai):∀s,aT (pE up_2 x19 s) (lM up_2 x19 s):=by
 intro s;unfold pE lM;rw[se]
 with_reducible repeat' first
  |refine aT.cond ?_ ?_
  |refine aT.bind ?_ (fun _=>?_)
  |(split<;>try dsimp only)
  |exact aT.refl _
def sX(x_0_c:ai)(x_0_routes:Sl (Sl (Sl Int)))(x_0_l:Sl aj)(x_0_at:af)(x_0_volatile_phase:Int)(x_0_volatile_plan:am)(x_0_volatile_cur:Int)(x_0_volatile_want:Mp Int aa)(x_0_volatile_sent:Int)(x_0_volatile_rest:Int)(x_0_volatile_skip:Int)(x_0_volatile_healed:Int)(x_0_volatile_est:Arr 8 ak)(x_0_volatile_asked:Arr 8 Int)(x_0_volatile_out:Sl aa)(x_0_volatile_events:Sl ax)(now_1:Int)(up_2:Int):Option (ai×Sl (Sl (Sl Int))×Sl aj×af×Int×am×Int×Mp Int aa×Int×Int×Int×Int×Arr 8 ak×Arr 8 Int×Sl aa×Sl ax):=
 (bif((af.og x_0_at)==0)then(some (true,x_0_c,x_0_routes,x_0_at,x_0_volatile_phase,x_0_volatile_plan,x_0_volatile_cur,x_0_volatile_sent,x_0_volatile_rest,x_0_volatile_skip,x_0_volatile_healed,x_0_volatile_est,x_0_volatile_asked,x_0_l,x_0_volatile_want,x_0_volatile_out,x_0_volatile_events))else
 ((mN x_0_c x_0_routes x_0_l x_0_at x_0_volatile_phase x_0_volatile_plan x_0_volatile_cur x_0_volatile_want x_0_volatile_sent x_0_volatile_rest x_0_volatile_skip x_0_volatile_healed x_0_volatile_est x_0_volatile_asked x_0_volatile_out x_0_volatile_events now_1 x_0_volatile_healed).bind fun(r1,q2,q3,s4,q5,q6,q7,q8,q9,q10,q11,q12,q13,q14,q15,s16,s17)=>
 some ((!r1),q2,q3,q5,q6,q7,q8,q10,q11,q12,q13,q14,q15,s4,q9,s16,s17)):Option (Bool×ai×Sl (Sl (Sl Int))×af×Int×am×Int×Int×Int×Int×Int×Arr 8 ak×Arr 8 Int×Sl aj×Mp Int aa×Sl aa×Sl ax)).bind fun(b18,x19,s20,x21,i22,x23,i24,i25,i26,i27,i28,v29,v30,s31,m32,s33,s34)=>
 bif b18 then(some (x19,s20,s31,x21,i22,x23,i24,m32,i25,i26,i27,i28,v29,v30,s33,s34))else
 ((dn 100000 (pE up_2 x19) (0,x19,s20,x21,i22,x23,i24,i25,i26,i27,now_1,v29,v30,s31,m32,s33,s34)).bind fun(x88,s89,x90,i91,x92,i93,i94,i95,i96,i97,v98,v99,s100,m101,s102,s103)=>
 some (x88,s89,s100,x90,i91,x92,i93,m101,i94,i95,i96,i97,v98,v99,s102,s103))
theorem B6(x_0_c:ai)(x_0_routes:Sl (Sl (Sl Int)))(x_0_l:Sl aj)(x_0_at:af)(x_0_volatile_phase:Int)(x_0_volatile_plan:am)(x_0_volatile_cur:Int)(x_0_volatile_want:Mp Int aa)(x_0_volatile_sent:Int)(x_0_volatile_rest:Int)(x_0_volatile_skip:Int)(x_0_volatile_healed:Int)(x_0_volatile_est:Arr 8 ak)(x_0_volatile_asked:Arr 8 Int)(x_0_volatile_out:Sl aa)(x_0_volatile_events:Sl ax)(now_1:Int)(up_2:Int):aT (sX x_0_c x_0_routes x_0_l x_0_at x_0_volatile_phase x_0_volatile_plan x_0_volatile_cur x_0_volatile_want x_0_volatile_sent x_0_volatile_rest x_0_volatile_skip x_0_volatile_healed x_0_volatile_est x_0_volatile_asked x_0_volatile_out x_0_volatile_events now_1 up_2) (nh x_0_c x_0_routes x_0_l x_0_at x_0_volatile_phase x_0_volatile_plan x_0_volatile_cur x_0_volatile_want x_0_volatile_sent x_0_volatile_rest x_0_volatile_skip x_0_volatile_healed x_0_volatile_est x_0_volatile_asked x_0_volatile_out x_0_volatile_events now_1 up_2):=by
 unfold sX nh
 with_reducible repeat' first
  |apply yN
  |refine aT.loop (fun _=>?_) _ _
  |refine aT.cond ?_ ?_
  |refine aT.bind ?_ (fun _=>?_)
  |(split<;>try dsimp only)
  |exact aT.refl _
def uz(x_0_c:ai)(x_0_routes:Sl (Sl (Sl Int)))(x_0_l:Sl aj)(x_0_at:af)(x_0_volatile_phase:Int)(x_0_volatile_plan:am)(x_0_volatile_cur:Int)(x_0_volatile_want:Mp Int aa)(x_0_volatile_sent:Int)(x_0_volatile_rest:Int)(x_0_volatile_skip:Int)(x_0_volatile_healed:Int)(x_0_volatile_est:Arr 8 ak)(x_0_volatile_asked:Arr 8 Int)(x_0_volatile_out:Sl aa)(x_0_volatile_events:Sl ax)(r_1:aS):Option (Sl Int×Bool×ai×Sl (Sl (Sl Int))×Sl aj×af×Int×am×Int×Mp Int aa×Int×Int×Int×Int×Arr 8 ak×Arr 8 Int×Sl aa×Sl ax):=
 (dn 100000 (sZ x_0_c x_0_volatile_est r_1) (0,Sl.nil)).bind fun
 |.inl b12=>(some (Sl.nil,b12,x_0_c,x_0_routes,x_0_l,x_0_at,x_0_volatile_phase,x_0_volatile_plan,x_0_volatile_cur,x_0_volatile_want,x_0_volatile_sent,x_0_volatile_rest,x_0_volatile_skip,x_0_volatile_healed,x_0_volatile_est,x_0_volatile_asked,x_0_volatile_out,x_0_volatile_events))
 |.inr s13=>(some (s13,true,x_0_c,x_0_routes,x_0_l,x_0_at,x_0_volatile_phase,x_0_volatile_plan,x_0_volatile_cur,x_0_volatile_want,x_0_volatile_sent,x_0_volatile_rest,x_0_volatile_skip,x_0_volatile_healed,x_0_volatile_est,x_0_volatile_asked,x_0_volatile_out,x_0_volatile_events))
theorem DJ(x_0_c:ai)(x_0_routes:Sl (Sl (Sl Int)))(x_0_l:Sl aj)(x_0_at:af)(x_0_volatile_phase:Int)(x_0_volatile_plan:am)(x_0_volatile_cur:Int)(x_0_volatile_want:Mp Int aa)(x_0_volatile_sent:Int)(x_0_volatile_rest:Int)(x_0_volatile_skip:Int)(x_0_volatile_healed:Int)(x_0_volatile_est:Arr 8 ak)(x_0_volatile_asked:Arr 8 Int)(x_0_volatile_out:Sl aa)(x_0_volatile_events:Sl ax)(r_1:aS):aT (uz x_0_c x_0_routes x_0_l x_0_at x_0_volatile_phase x_0_volatile_plan x_0_volatile_cur x_0_volatile_want x_0_volatile_sent x_0_volatile_rest x_0_volatile_skip x_0_volatile_healed x_0_volatile_est x_0_volatile_asked x_0_volatile_out x_0_volatile_events r_1) (mO x_0_c x_0_routes x_0_l x_0_at x_0_volatile_phase x_0_volatile_plan x_0_volatile_cur x_0_volatile_want x_0_volatile_sent x_0_volatile_rest x_0_volatile_skip x_0_volatile_healed x_0_volatile_est x_0_volatile_asked x_0_volatile_out x_0_volatile_events r_1):=by
 unfold uz mO
 with_reducible repeat' first
  |refine aT.loop (fun _=>?_) _ _
  |refine aT.bind ?_ (fun _=>?_)
  |(split<;>try dsimp only)
  |exact aT.refl _
def pD(s_0:af)(r_1:aj):Option (af×Bool):=
 (bif((af.jg s_0)||((aj.B r_1) !=0))then(some true)else
 ((gA (aj.A r_1) 8).bind fun r1=>
 bif(!r1)then(some true)else
 ((AB .i64 (af.og s_0) (aj.A r_1)).bind fun i2=>
 some ((pL .i64 i2 1)==0))):Option Bool).bind fun b3=>
 bif b3 then(some (s_0,false))else
 ((AF .i64 1 (aj.A r_1)).bind fun i4=>
 some ((⟨af.U s_0,af.pk s_0,af.jg s_0,af.eL s_0,af.At s_0,af.fC s_0,af.oe s_0,af.bH s_0,tg .i64 (af.og s_0) i4⟩:af),true))
theorem yE(s_0:af)(r_1:aj):aT (pD s_0 r_1) (lK s_0 r_1):=by
 unfold pD lK;rw[qF,se]
 with_reducible repeat' first
  |refine aT.cond ?_ ?_
  |refine aT.bind ?_ (fun _=>?_)
  |exact aT.refl _
def sS(s_0:af)(r_1:aj):Option (af×Int):=
 (bif((aj.cN r_1)==1)then((qM s_0 r_1).bind fun(r1,r2)=>
 some (r2,r1))else
 (bif((aj.U r_1) !=(af.U s_0))then(some (false,s_0))else
 (bif((aj.cN r_1)==7)then((pD s_0 r_1).bind fun(r3,r4)=>
 some (r4,r3))else
 ((jM s_0 r_1).bind fun(r5,r6)=>
 some (r6,r5)))):Option (Bool×af)).bind fun(b7,x8)=>
 bif(!b7)then(some (s_0,5))else
 (some (x8,0))
theorem B2(s_0:af)(r_1:aj):aT (sS s_0 r_1) (ga s_0 r_1):=by
 unfold sS ga
 with_reducible repeat' first
  |apply yE
  |refine aT.cond ?_ ?_
  |refine aT.bind ?_ (fun _=>?_)
  |(split<;>try dsimp only)
  |exact aT.refl _
def rC(x_0_c:ai)(x_0_routes:Sl (Sl (Sl Int)))(x_0_l:Sl aj)(x_0_at:af)(x_0_volatile_phase:Int)(x_0_volatile_plan:am)(x_0_volatile_cur:Int)(x_0_volatile_want:Mp Int aa)(x_0_volatile_sent:Int)(x_0_volatile_rest:Int)(x_0_volatile_skip:Int)(x_0_volatile_healed:Int)(x_0_volatile_est:Arr 8 ak)(x_0_volatile_asked:Arr 8 Int)(x_0_volatile_out:Sl aa)(x_0_volatile_events:Sl ax)(kind_1:Int)(u_2:Int)(a_3:Int)(b_4:Int):Option (ai×Sl (Sl (Sl Int))×Sl aj×af×Int×am×Int×Mp Int aa×Int×Int×Int×Int×Arr 8 ak×Arr 8 Int×Sl aa×Sl ax):=
 (ic (x_0_l.l++[(⟨kind_1,u_2,a_3,b_4⟩:aj)])).bind fun l1=>
 (sS x_0_at (⟨kind_1,u_2,a_3,b_4⟩:aj)).bind fun(r2,_)=>
 some (x_0_c,x_0_routes,(Sl.mk l1),r2,x_0_volatile_phase,x_0_volatile_plan,x_0_volatile_cur,x_0_volatile_want,x_0_volatile_sent,x_0_volatile_rest,x_0_volatile_skip,x_0_volatile_healed,x_0_volatile_est,x_0_volatile_asked,x_0_volatile_out,x_0_volatile_events)
theorem A9(x_0_c:ai)(x_0_routes:Sl (Sl (Sl Int)))(x_0_l:Sl aj)(x_0_at:af)(x_0_volatile_phase:Int)(x_0_volatile_plan:am)(x_0_volatile_cur:Int)(x_0_volatile_want:Mp Int aa)(x_0_volatile_sent:Int)(x_0_volatile_rest:Int)(x_0_volatile_skip:Int)(x_0_volatile_healed:Int)(x_0_volatile_est:Arr 8 ak)(x_0_volatile_asked:Arr 8 Int)(x_0_volatile_out:Sl aa)(x_0_volatile_events:Sl ax)(kind_1:Int)(u_2:Int)(a_3:Int)(b_4:Int):aT (rC x_0_c x_0_routes x_0_l x_0_at x_0_volatile_phase x_0_volatile_plan x_0_volatile_cur x_0_volatile_want x_0_volatile_sent x_0_volatile_rest x_0_volatile_skip x_0_volatile_healed x_0_volatile_est x_0_volatile_asked x_0_volatile_out x_0_volatile_events kind_1 u_2 a_3 b_4) (eD x_0_c x_0_routes x_0_l x_0_at x_0_volatile_phase x_0_volatile_plan x_0_volatile_cur x_0_volatile_want x_0_volatile_sent x_0_volatile_rest x_0_volatile_skip x_0_volatile_healed x_0_volatile_est x_0_volatile_asked x_0_volatile_out x_0_volatile_events kind_1 u_2 a_3 b_4):=by
 unfold rC eD
 with_reducible repeat' first
  |apply B2
  |refine aT.bind ?_ (fun _=>?_)
  |(split<;>try dsimp only)
  |exact aT.refl _
def qD(x_0_c:ai)(x_0_routes:Sl (Sl (Sl Int)))(x_0_l:Sl aj)(x_0_at:af)(x_0_volatile_phase:Int)(x_0_volatile_plan:am)(x_0_volatile_cur:Int)(x_0_volatile_want:Mp Int aa)(_x_0_volatile_sent:Int)(x_0_volatile_rest:Int)(x_0_volatile_skip:Int)(x_0_volatile_healed:Int)(x_0_volatile_est:Arr 8 ak)(x_0_volatile_asked:Arr 8 Int)(x_0_volatile_out:Sl aa)(x_0_volatile_events:Sl ax)(now_1:Int):Option (ai×Sl (Sl (Sl Int))×Sl aj×af×Int×am×Int×Mp Int aa×Int×Int×Int×Int×Arr 8 ak×Arr 8 Int×Sl aa×Sl ax):=
 bif E9 x_0_volatile_want then((dn 100000 (mn x_0_volatile_want) (0,x_0_c,x_0_routes,x_0_at,x_0_volatile_phase,x_0_volatile_plan,x_0_volatile_cur,now_1,x_0_volatile_rest,x_0_volatile_skip,x_0_volatile_healed,x_0_volatile_est,x_0_volatile_asked,x_0_l,x_0_volatile_want,x_0_volatile_out,x_0_volatile_events)).bind fun(x38,s39,x40,i41,x42,i43,i44,i45,i46,i47,v48,v49,s50,m51,s52,s53)=>
 some (x38,s39,s50,x40,i41,x42,i43,m51,i44,i45,i46,i47,v48,v49,s52,s53))else(none)
theorem z8(x_0_c:ai)(x_0_routes:Sl (Sl (Sl Int)))(x_0_l:Sl aj)(x_0_at:af)(x_0_volatile_phase:Int)(x_0_volatile_plan:am)(x_0_volatile_cur:Int)(x_0_volatile_want:Mp Int aa)(_x_0_volatile_sent:Int)(x_0_volatile_rest:Int)(x_0_volatile_skip:Int)(x_0_volatile_healed:Int)(x_0_volatile_est:Arr 8 ak)(x_0_volatile_asked:Arr 8 Int)(x_0_volatile_out:Sl aa)(x_0_volatile_events:Sl ax)(now_1:Int):aT (qD x_0_c x_0_routes x_0_l x_0_at x_0_volatile_phase x_0_volatile_plan x_0_volatile_cur x_0_volatile_want _x_0_volatile_sent x_0_volatile_rest x_0_volatile_skip x_0_volatile_healed x_0_volatile_est x_0_volatile_asked x_0_volatile_out x_0_volatile_events now_1) (je x_0_c x_0_routes x_0_l x_0_at x_0_volatile_phase x_0_volatile_plan x_0_volatile_cur x_0_volatile_want _x_0_volatile_sent x_0_volatile_rest x_0_volatile_skip x_0_volatile_healed x_0_volatile_est x_0_volatile_asked x_0_volatile_out x_0_volatile_events now_1):=by
 unfold qD je
 with_reducible repeat' first
  |refine aT.loop (fun _=>?_) _ _
  |refine aT.cond ?_ ?_
  |refine aT.bind ?_ (fun _=>?_)
  |(split<;>try dsimp only)
  |exact aT.refl _
def uy(x_0_c:ai)(x_0_routes:Sl (Sl (Sl Int)))(x_0_l:Sl aj)(x_0_at:af)(x_0_volatile_phase:Int)(x_0_volatile_plan:am)(x_0_volatile_cur:Int)(_x_0_volatile_want:Mp Int aa)(x_0_volatile_sent:Int)(x_0_volatile_rest:Int)(x_0_volatile_skip:Int)(x_0_volatile_healed:Int)(x_0_volatile_est:Arr 8 ak)(x_0_volatile_asked:Arr 8 Int)(x_0_volatile_out:Sl aa)(x_0_volatile_events:Sl ax)(now_1:Int)(l_2:Sl aa):Option (ai×Sl (Sl (Sl Int))×Sl aj×af×Int×am×Int×Mp Int aa×Int×Int×Int×Int×Arr 8 ak×Arr 8 Int×Sl aa×Sl ax):=
 (dn 100000 (pH l_2) (0,x_0_c,x_0_routes,x_0_at,x_0_volatile_phase,x_0_volatile_plan,x_0_volatile_cur,x_0_volatile_sent,x_0_volatile_rest,x_0_volatile_skip,x_0_volatile_healed,x_0_volatile_est,x_0_volatile_asked,x_0_l,(Mp.none:Mp Int aa),x_0_volatile_out,x_0_volatile_events)).bind fun(x38,s39,x40,i41,x42,i43,i44,i45,i46,i47,v48,v49,s50,m51,s52,s53)=>
 (qD x38 s39 s50 x40 i41 x42 i43 m51 i44 i45 i46 i47 v48 v49 s52 s53 now_1).bind fun(q54,q55,s56,q57,q58,q59,q60,q61,q62,q63,q64,q65,q66,q67,s68,s69)=>
 some (q54,q55,s56,q57,q58,q59,q60,q61,q62,q63,q64,q65,q66,q67,s68,s69)
theorem DI(x_0_c:ai)(x_0_routes:Sl (Sl (Sl Int)))(x_0_l:Sl aj)(x_0_at:af)(x_0_volatile_phase:Int)(x_0_volatile_plan:am)(x_0_volatile_cur:Int)(_x_0_volatile_want:Mp Int aa)(x_0_volatile_sent:Int)(x_0_volatile_rest:Int)(x_0_volatile_skip:Int)(x_0_volatile_healed:Int)(x_0_volatile_est:Arr 8 ak)(x_0_volatile_asked:Arr 8 Int)(x_0_volatile_out:Sl aa)(x_0_volatile_events:Sl ax)(now_1:Int)(l_2:Sl aa):aT (uy x_0_c x_0_routes x_0_l x_0_at x_0_volatile_phase x_0_volatile_plan x_0_volatile_cur _x_0_volatile_want x_0_volatile_sent x_0_volatile_rest x_0_volatile_skip x_0_volatile_healed x_0_volatile_est x_0_volatile_asked x_0_volatile_out x_0_volatile_events now_1 l_2) (jO x_0_c x_0_routes x_0_l x_0_at x_0_volatile_phase x_0_volatile_plan x_0_volatile_cur _x_0_volatile_want x_0_volatile_sent x_0_volatile_rest x_0_volatile_skip x_0_volatile_healed x_0_volatile_est x_0_volatile_asked x_0_volatile_out x_0_volatile_events now_1 l_2):=by
 unfold uy jO
 with_reducible repeat' first
  |apply z8
  |refine aT.loop (fun _=>?_) _ _
  |refine aT.bind ?_ (fun _=>?_)
  |(split<;>try dsimp only)
  |exact aT.refl _
def xb(_:ai)(_:Sl (Sl (Sl Int)))(_:Sl aj)(_:af)(_:Int)(_:am)(_:Int)(_:Mp Int aa)(_:Int)(_:Int)(_:Int)(_:Int)(_:Arr 8 ak)(_:Arr 8 Int)(_:Sl aa)(_:Sl ax)(_:Int)(_:Int):Option (ai×Sl (Sl (Sl Int))×Sl aj×af×Int×am×Int×Mp Int aa×Int×Int×Int×Int×Arr 8 ak×Arr 8 Int×Sl aa×Sl ax):=none
theorem B4(x_0_c:ai)(x_0_routes:Sl (Sl (Sl Int)))(x_0_l:Sl aj)(x_0_at:af)(x_0_volatile_phase:Int)(x_0_volatile_plan:am)(x_0_volatile_cur:Int)(x_0_volatile_want:Mp Int aa)(x_0_volatile_sent:Int)(x_0_volatile_rest:Int)(x_0_volatile_skip:Int)(x_0_volatile_healed:Int)(x_0_volatile_est:Arr 8 ak)(x_0_volatile_asked:Arr 8 Int)(x_0_volatile_out:Sl aa)(x_0_volatile_events:Sl ax)(now_1:Int)(up_2:Int):aT (xb x_0_c x_0_routes x_0_l x_0_at x_0_volatile_phase x_0_volatile_plan x_0_volatile_cur x_0_volatile_want x_0_volatile_sent x_0_volatile_rest x_0_volatile_skip x_0_volatile_healed x_0_volatile_est x_0_volatile_asked x_0_volatile_out x_0_volatile_events now_1 up_2) (iL x_0_c x_0_routes x_0_l x_0_at x_0_volatile_phase x_0_volatile_plan x_0_volatile_cur x_0_volatile_want x_0_volatile_sent x_0_volatile_rest x_0_volatile_skip x_0_volatile_healed x_0_volatile_est x_0_volatile_asked x_0_volatile_out x_0_volatile_events now_1 up_2):=fun _ h=>nomatch h
def xd(_:ai)(_:Sl (Sl (Sl Int)))(_:Sl aj)(_:af)(_:Int)(_:am)(_:Int)(_:Mp Int aa)(_:Int)(_:Int)(_:Int)(_:Int)(_:Arr 8 ak)(_:Arr 8 Int)(_:Sl aa)(_:Sl ax)(_:Int)(_:Int):Option (ai×Sl (Sl (Sl Int))×Sl aj×af×Int×am×Int×Mp Int aa×Int×Int×Int×Int×Arr 8 ak×Arr 8 Int×Sl aa×Sl ax):=none
theorem B7(x_0_c:ai)(x_0_routes:Sl (Sl (Sl Int)))(x_0_l:Sl aj)(x_0_at:af)(x_0_volatile_phase:Int)(x_0_volatile_plan:am)(x_0_volatile_cur:Int)(x_0_volatile_want:Mp Int aa)(x_0_volatile_sent:Int)(x_0_volatile_rest:Int)(x_0_volatile_skip:Int)(x_0_volatile_healed:Int)(x_0_volatile_est:Arr 8 ak)(x_0_volatile_asked:Arr 8 Int)(x_0_volatile_out:Sl aa)(x_0_volatile_events:Sl ax)(now_1:Int)(up_2:Int):aT (xd x_0_c x_0_routes x_0_l x_0_at x_0_volatile_phase x_0_volatile_plan x_0_volatile_cur x_0_volatile_want x_0_volatile_sent x_0_volatile_rest x_0_volatile_skip x_0_volatile_healed x_0_volatile_est x_0_volatile_asked x_0_volatile_out x_0_volatile_events now_1 up_2) (pG x_0_c x_0_routes x_0_l x_0_at x_0_volatile_phase x_0_volatile_plan x_0_volatile_cur x_0_volatile_want x_0_volatile_sent x_0_volatile_rest x_0_volatile_skip x_0_volatile_healed x_0_volatile_est x_0_volatile_asked x_0_volatile_out x_0_volatile_events now_1 up_2):=fun _ h=>nomatch h
def oL(p_0:am)(i7:Int)(n9:Nat):(Int×Int×Arr 8 Int)->Option ((Int×Int×Arr 8 Int)⊕(Int×Arr 8 Int)):=fun(i15,i16,v17)=>
 bif decide (i16<(((aS.p8 (gt ((am.aY p_0).l) n9)).l).length:Int))then((cD i16 ((aS.p8 (gt ((am.aY p_0).l) n9)).l).length).bind fun n18=>
 (AF .i64 1 (gt ((aS.p8 (gt ((am.aY p_0).l) n9)).l) n18)).bind fun i19=>
 (cD (gt ((aS.p8 (gt ((am.aY p_0).l) n9)).l) n18) 8).bind fun n20=>
 (AF .i64 1 i7).bind fun i21=>
 (cD (gt ((aS.p8 (gt ((am.aY p_0).l) n9)).l) n18) 8).bind fun n22=>
 some (.inl (KP .i64 i15 i19,wr .i64 (i16+1),Arr.set v17 n22 (KP .i64 (gt v17.1 n20) i21))))else
 (some (.inr (i15,v17)))
theorem xQ(p_0:am)(i7:Int)(n9:Nat):∀s,aT (oL p_0 i7 n9 s) (ng p_0 i7 n9 s):=by
 intro s;unfold oL ng;rw[Bh]
 with_reducible repeat' first
  |refine aT.cond ?_ ?_
  |refine aT.bind ?_ (fun _=>?_)
  |(split<;>try dsimp only)
  |exact aT.refl _
def oJ(p_0:am):(Int×Int×Arr 8 Int)->Option ((Int×Int×Arr 8 Int)⊕(Int×Arr 8 Int)):=fun(i6,i7,v8)=>
 bif decide (i7<(((am.aY p_0).l).length:Int))then((cD i7 ((am.aY p_0).l).length).bind fun n9=>
 (dn 100000 (oL p_0 i7 n9) (i6,0,v8)).bind fun(i23,v24)=>
 some (.inl (i23,wr .i64 (i7+1),v24)))else
 (some (.inr (i6,v8)))
theorem xP(p_0:am):∀s,aT (oJ p_0 s) (nf p_0 s):=by
 intro s;unfold oJ nf
 with_reducible repeat' first
  |apply xQ
  |refine aT.loop (fun _=>?_) _ _
  |refine aT.cond ?_ ?_
  |refine aT.bind ?_ (fun _=>?_)
  |(split<;>try dsimp only)
  |exact aT.refl _
def rB(p_0:am):Option (Int×Arr 8 Int):=
 (dn 100000 (oJ p_0) (0,0,(pV (.ar 8 (.i .i64))))).bind fun(i25,v26)=>
 some (i25,v26)
theorem A8(p_0:am):aT (rB p_0) (iU p_0):=by
 unfold rB iU
 with_reducible repeat' first
  |apply xP
  |refine aT.loop (fun _=>?_) _ _
  |refine aT.bind ?_ (fun _=>?_)
  |(split<;>try dsimp only)
  |exact aT.refl _
def wi(_:ai)(_:Sl (Sl (Sl Int)))(_:Sl aj)(_:af)(_:Int)(_:am)(_:Int)(_:Mp Int aa)(_:Int)(_:Int)(_:Int)(_:Int)(_:Arr 8 ak)(_:Arr 8 Int)(_:Sl aa)(_:Sl ax)(_:Int)(_:Int):Option (ai×Sl (Sl (Sl Int))×Sl aj×af×Int×am×Int×Mp Int aa×Int×Int×Int×Int×Arr 8 ak×Arr 8 Int×Sl aa×Sl ax):=none
theorem A_(x_0_c:ai)(x_0_routes:Sl (Sl (Sl Int)))(x_0_l:Sl aj)(x_0_at:af)(x_0_volatile_phase:Int)(x_0_volatile_plan:am)(x_0_volatile_cur:Int)(x_0_volatile_want:Mp Int aa)(x_0_volatile_sent:Int)(x_0_volatile_rest:Int)(x_0_volatile_skip:Int)(x_0_volatile_healed:Int)(x_0_volatile_est:Arr 8 ak)(x_0_volatile_asked:Arr 8 Int)(x_0_volatile_out:Sl aa)(x_0_volatile_events:Sl ax)(now_1:Int)(up_2:Int):aT (wi x_0_c x_0_routes x_0_l x_0_at x_0_volatile_phase x_0_volatile_plan x_0_volatile_cur x_0_volatile_want x_0_volatile_sent x_0_volatile_rest x_0_volatile_skip x_0_volatile_healed x_0_volatile_est x_0_volatile_asked x_0_volatile_out x_0_volatile_events now_1 up_2) (nZ x_0_c x_0_routes x_0_l x_0_at x_0_volatile_phase x_0_volatile_plan x_0_volatile_cur x_0_volatile_want x_0_volatile_sent x_0_volatile_rest x_0_volatile_skip x_0_volatile_healed x_0_volatile_est x_0_volatile_asked x_0_volatile_out x_0_volatile_events now_1 up_2):=fun _ h=>nomatch h
def ot(x_0_c:ai)(x_0_routes:Sl (Sl (Sl Int)))(x_0_l:Sl aj)(x_0_at:af)(x_0_volatile_phase:Int)(x_0_volatile_plan:am)(x_0_volatile_cur:Int)(x_0_volatile_want:Mp Int aa)(x_0_volatile_sent:Int)(x_0_volatile_rest:Int)(x_0_volatile_skip:Int)(x_0_volatile_healed:Int)(x_0_volatile_est:Arr 8 ak)(x_0_volatile_asked:Arr 8 Int)(x_0_volatile_out:Sl aa)(x_0_volatile_events:Sl ax)(now_1:Int)(up_2:Int):Option (ai×Sl (Sl (Sl Int))×Sl aj×af×Int×am×Int×Mp Int aa×Int×Int×Int×Int×Arr 8 ak×Arr 8 Int×Sl aa×Sl ax):=
 (fG x_0_c x_0_routes x_0_l x_0_at x_0_volatile_phase x_0_volatile_plan x_0_volatile_cur x_0_volatile_want x_0_volatile_sent x_0_volatile_rest x_0_volatile_skip x_0_volatile_healed x_0_volatile_est x_0_volatile_asked x_0_volatile_out x_0_volatile_events).bind fun(r1,q2,q3,s4,q5,q6,q7,q8,q9,q10,q11,q12,q13,q14,q15,s16,s17)=>
 bif(r1==6)then(some (q2,q3,s4,q5,q6,q7,q8,q9,q10,q11,q12,q13,q14,q15,s16,s17))else
 ((rD q2 q3 s4 q5 q6 q7 q8 q9 q10 q11 q12 q13 q14 q15 s16 s17 now_1 up_2).bind fun(q18,q19,s20,q21,q22,q23,q24,q25,q26,q27,q28,q29,q30,q31,s32,s33)=>
 bif(q22==0)then((sX q18 q19 s20 q21 q22 q23 q24 q25 q26 q27 q28 q29 q30 q31 s32 s33 now_1 up_2).bind fun(q34,q35,s36,q37,q38,q39,q40,q41,q42,q43,q44,q45,q46,q47,s48,s49)=>
 some (q34,q35,s36,q37,q38,q39,q40,q41,q42,q43,q44,q45,q46,q47,s48,s49))else
 (bif(q22==5)then((xd q18 q19 s20 q21 q22 q23 q24 q25 q26 q27 q28 q29 q30 q31 s32 s33 now_1 up_2).bind fun(q50,q51,s52,q53,q54,q55,q56,q57,q58,q59,q60,q61,q62,q63,s64,s65)=>
 some (q50,q51,s52,q53,q54,q55,q56,q57,q58,q59,q60,q61,q62,q63,s64,s65))else
 ((wi q18 q19 s20 q21 q22 q23 q24 q25 q26 q27 q28 q29 q30 q31 s32 s33 now_1 up_2).bind fun(q66,q67,s68,q69,q70,q71,q72,q73,q74,q75,q76,q77,q78,q79,s80,s81)=>
 some (q66,q67,s68,q69,q70,q71,q72,q73,q74,q75,q76,q77,q78,q79,s80,s81))))
theorem Bc(x_0_c:ai)(x_0_routes:Sl (Sl (Sl Int)))(x_0_l:Sl aj)(x_0_at:af)(x_0_volatile_phase:Int)(x_0_volatile_plan:am)(x_0_volatile_cur:Int)(x_0_volatile_want:Mp Int aa)(x_0_volatile_sent:Int)(x_0_volatile_rest:Int)(x_0_volatile_skip:Int)(x_0_volatile_healed:Int)(x_0_volatile_est:Arr 8 ak)(x_0_volatile_asked:Arr 8 Int)(x_0_volatile_out:Sl aa)(x_0_volatile_events:Sl ax)(now_1:Int)(up_2:Int):aT (ot x_0_c x_0_routes x_0_l x_0_at x_0_volatile_phase x_0_volatile_plan x_0_volatile_cur x_0_volatile_want x_0_volatile_sent x_0_volatile_rest x_0_volatile_skip x_0_volatile_healed x_0_volatile_est x_0_volatile_asked x_0_volatile_out x_0_volatile_events now_1 up_2) (iV x_0_c x_0_routes x_0_l x_0_at x_0_volatile_phase x_0_volatile_plan x_0_volatile_cur x_0_volatile_want x_0_volatile_sent x_0_volatile_rest x_0_volatile_skip x_0_volatile_healed x_0_volatile_est x_0_volatile_asked x_0_volatile_out x_0_volatile_events now_1 up_2):=by
 unfold ot iV
 with_reducible repeat' first
  |apply Ba
  |apply B6
  |apply B7
  |apply A_
  |refine aT.cond ?_ ?_
  |refine aT.bind ?_ (fun _=>?_)
  |(split<;>try dsimp only)
  |exact aT.refl _
def uQ(_:bl)(_:bl):Option Bool:=none
theorem zw(a_0:bl)(b_1:bl):aT (uQ a_0 b_1) (mF a_0 b_1):=fun _ h=>nomatch h
def cC(s1_0:Sl bl)(s2_1:Sl bl):Int->Option (Int⊕(Bool⊕Unit)):=fun i2=>
 bif decide (i2<(s1_0.l.length:Int))then((cD i2 s1_0.l.length).bind fun n3=>
 (cD i2 s2_1.l.length).bind fun n4=>
 (uQ (gt s1_0.l n3) (gt s2_1.l n4)).bind fun r5=>
 bif(!r5)then(some (.inr (.inl false)))else
 (some (.inl (wr .i64 (i2+1)))))else
 (some (.inr (.inr ())))
theorem fY(s1_0:Sl bl)(s2_1:Sl bl):∀s,aT (cC s1_0 s2_1 s) (bI s1_0 s2_1 s):=by
 intro s;unfold cC bI
 with_reducible repeat' first
  |apply zw
  |refine aT.cond ?_ ?_
  |refine aT.bind ?_ (fun _=>?_)
  |exact aT.refl _
def cH(s1_0:Sl bl)(s2_1:Sl bl):Option Bool:=
 bif((s1_0.l.length:Int) !=(s2_1.l.length:Int))then(some false)else
 ((dn 100000 (cC s1_0 s2_1) 0).bind fun
 |.inl b6=>(some b6)
 |.inr _=>(some true))
theorem ge(s1_0:Sl bl)(s2_1:Sl bl):aT (cH s1_0 s2_1) (bm s1_0 s2_1):=by
 unfold cH bm
 with_reducible repeat' first
  |apply fY
  |refine aT.loop (fun _=>?_) _ _
  |refine aT.cond ?_ ?_
  |refine aT.bind ?_ (fun _=>?_)
  |(split<;>try dsimp only)
  |exact aT.refl _
def vD(a_0:aa)(b_1:aa):Option Bool:=
 (bif((((((((((aa.cN a_0)==(aa.cN b_1))&&((aa.Sw a_0)==(aa.Sw b_1)))&&((aa.U a_0)==(aa.U b_1)))&&((aa.Rd a_0)==(aa.Rd b_1)))&&((aa.T1 a_0)==(aa.T1 b_1)))&&((aa.T2 a_0)==(aa.T2 b_1)))&&((aa.Am a_0)==(aa.Am b_1)))&&((aa.Of a_0)==(aa.Of b_1)))&&((aa.Code a_0)==(aa.Code b_1)))then((cH (aa.nq a_0) (aa.nq b_1)).bind fun r1=>
 some r1)else
 (some false):Option Bool).bind fun b2=>
 some b2
theorem Ej(a_0:aa)(b_1:aa):aT (vD a_0 b_1) (qp a_0 b_1):=by
 unfold vD qp
 with_reducible repeat' first
  |apply ge
  |refine aT.cond ?_ ?_
  |refine aT.bind ?_ (fun _=>?_)
  |exact aT.refl _
def wa(_:bl):Option Bool:=none
theorem AN(x_0:bl):aT (wa x_0) (nR x_0):=fun _ h=>nomatch h
def dz(s_0:Sl bl):Int->Option (Int⊕(Int⊕Unit)):=fun i2=>
 bif decide (i2<(s_0.l.length:Int))then((cD i2 s_0.l.length).bind fun n3=>
 (wa (gt s_0.l n3)).bind fun r4=>
 bif r4 then(some (.inr (.inl i2)))else
 (some (.inl (wr .i64 (i2+1)))))else
 (some (.inr (.inr ())))
theorem iH(s_0:Sl bl):∀s,aT (dz s_0 s) (cO s_0 s):=by
 intro s;unfold dz cO
 with_reducible repeat' first
  |apply AN
  |refine aT.cond ?_ ?_
  |refine aT.bind ?_ (fun _=>?_)
  |exact aT.refl _
def dX(s_0:Sl bl):Option Int:=
 (dn 100000 (dz s_0) 0).bind fun
 |.inl i5=>(some i5)
 |.inr _=>(some (-1))
theorem jm(s_0:Sl bl):aT (dX s_0) (cA s_0):=by
 unfold dX cA
 with_reducible repeat' first
  |apply iH
  |refine aT.loop (fun _=>?_) _ _
  |refine aT.bind ?_ (fun _=>?_)
  |(split<;>try dsimp only)
  |exact aT.refl _
def dB(s_0:Sl bl):Option Bool:=
 (dX s_0).bind fun r1=>
 some (decide (r1>=0))
theorem iJ(s_0:Sl bl):aT (dB s_0) (bG s_0):=by
 unfold dB bG
 with_reducible repeat' first
  |apply jm
  |refine aT.bind ?_ (fun _=>?_)
  |exact aT.refl _
def uo(m_0:aa):Option Bool:=
 (bif((aa.cN m_0)==1)then(some 1)else
 (bif((aa.cN m_0)==2)then(some 7)else
 (bif((aa.cN m_0)==3)then(some 152)else
 (bif((aa.cN m_0)==4)then(some 26)else
 (bif((aa.cN m_0)==5)then(some 24)else
 (bif((aa.cN m_0)==6)then(some 72)else
 (bif((aa.cN m_0)==7)then(some 60)else
 (bif((aa.cN m_0)==8)then(some 124)else
 (some 0)))))))):Option Int).bind fun i1=>
 (bif(i1==0)then(some true)else
 ((f0 (aa.Sw m_0) 0 7).bind fun r2=>
 bif(!r2)then(some true)else
 ((qX m_0).bind fun r3=>
 (vD r3 m_0).bind fun r4=>
 some (!r4))):Option Bool).bind fun b5=>
 bif b5 then(some false)else
 ((bif((((aa.cN m_0)==5)||((aa.cN m_0)==7))||((aa.cN m_0)==8))then(some (-1))else
 (some 0):Option Int).bind fun i6=>
 ((f0 (aa.T1 m_0) 0 1125899906842624).bind fun r7=>
 bif(!r7)then(some true)else
 ((f0 (aa.T2 m_0) (-1125899906842624) 1125899906842624).bind fun r8=>
 bif(!r8)then(some true)else
 ((f0 (aa.Am m_0) 0 65535).bind fun r9=>
 some (!r9))):Option Bool).bind fun b10=>
 bif b10 then(some false)else
 (((bif((pL .i64 i1 8) !=0)then((f0 (aa.U m_0) 1 65535).bind fun r11=>
 some (!r11))else
 (some false):Option Bool).bind fun b12=>
 bif b12 then(some b12)else
 ((bif((pL .i64 i1 16) !=0)then((f0 (aa.Rd m_0) i6 7).bind fun r13=>
 some (!r13))else
 (some false):Option Bool).bind fun b14=>
 bif b14 then(some b14)else
 ((bif((pL .i64 i1 32) !=0)then((f0 (aa.Of m_0) 3 6).bind fun r15=>
 some (!r15))else
 (some false):Option Bool).bind fun b16=>
 some b16)):Option Bool).bind fun b17=>
 bif b17 then(some false)else
 ((f0 (aa.Code m_0) 0 255).bind fun r18=>
 bif((!r18)||(decide ((((aa.nq m_0).l).length:Int)>16)))then(some false)else
 ((dB (aa.nq m_0)).bind fun r19=>
 some (!r19)))))
theorem CX(m_0:aa):aT (uo m_0) (oV m_0):=by
 unfold uo oV;rw[se]
 with_reducible repeat' first
  |apply Ej
  |apply iJ
  |refine aT.cond ?_ ?_
  |refine aT.bind ?_ (fun _=>?_)
  |exact aT.refl _
def u7(_:ai)(_:Sl (Sl (Sl Int)))(_:Sl aj)(_:af)(_:Int)(_:am)(_:Int)(_:Mp Int aa)(_:Int)(_:Int)(_:Int)(_:Int)(_:Arr 8 ak)(_:Arr 8 Int)(_:Sl aa)(_:Sl ax)(_:aa):Option (Bool×ai×Sl (Sl (Sl Int))×Sl aj×af×Int×am×Int×Mp Int aa×Int×Int×Int×Int×Arr 8 ak×Arr 8 Int×Sl aa×Sl ax):=none
theorem z7(x_0_c:ai)(x_0_routes:Sl (Sl (Sl Int)))(x_0_l:Sl aj)(x_0_at:af)(x_0_volatile_phase:Int)(x_0_volatile_plan:am)(x_0_volatile_cur:Int)(x_0_volatile_want:Mp Int aa)(x_0_volatile_sent:Int)(x_0_volatile_rest:Int)(x_0_volatile_skip:Int)(x_0_volatile_healed:Int)(x_0_volatile_est:Arr 8 ak)(x_0_volatile_asked:Arr 8 Int)(x_0_volatile_out:Sl aa)(x_0_volatile_events:Sl ax)(m_1:aa):aT (u7 x_0_c x_0_routes x_0_l x_0_at x_0_volatile_phase x_0_volatile_plan x_0_volatile_cur x_0_volatile_want x_0_volatile_sent x_0_volatile_rest x_0_volatile_skip x_0_volatile_healed x_0_volatile_est x_0_volatile_asked x_0_volatile_out x_0_volatile_events m_1) (kL x_0_c x_0_routes x_0_l x_0_at x_0_volatile_phase x_0_volatile_plan x_0_volatile_cur x_0_volatile_want x_0_volatile_sent x_0_volatile_rest x_0_volatile_skip x_0_volatile_healed x_0_volatile_est x_0_volatile_asked x_0_volatile_out x_0_volatile_events m_1):=fun _ h=>nomatch h
def wj(_:ai)(_:Sl (Sl (Sl Int)))(_:Sl aj)(_:af)(_:Int)(_:am)(_:Int)(_:Mp Int aa)(_:Int)(_:Int)(_:Int)(_:Int)(_:Arr 8 ak)(_:Arr 8 Int)(_:Sl aa)(_:Sl ax)(_:Int)(_:aa)(_:Int):Option (ai×Sl (Sl (Sl Int))×Sl aj×af×Int×am×Int×Mp Int aa×Int×Int×Int×Int×Arr 8 ak×Arr 8 Int×Sl aa×Sl ax):=none
theorem Bb(x_0_c:ai)(x_0_routes:Sl (Sl (Sl Int)))(x_0_l:Sl aj)(x_0_at:af)(x_0_volatile_phase:Int)(x_0_volatile_plan:am)(x_0_volatile_cur:Int)(x_0_volatile_want:Mp Int aa)(x_0_volatile_sent:Int)(x_0_volatile_rest:Int)(x_0_volatile_skip:Int)(x_0_volatile_healed:Int)(x_0_volatile_est:Arr 8 ak)(x_0_volatile_asked:Arr 8 Int)(x_0_volatile_out:Sl aa)(x_0_volatile_events:Sl ax)(now_1:Int)(m_2:aa)(up_3:Int):aT (wj x_0_c x_0_routes x_0_l x_0_at x_0_volatile_phase x_0_volatile_plan x_0_volatile_cur x_0_volatile_want x_0_volatile_sent x_0_volatile_rest x_0_volatile_skip x_0_volatile_healed x_0_volatile_est x_0_volatile_asked x_0_volatile_out x_0_volatile_events now_1 m_2 up_3) (oc x_0_c x_0_routes x_0_l x_0_at x_0_volatile_phase x_0_volatile_plan x_0_volatile_cur x_0_volatile_want x_0_volatile_sent x_0_volatile_rest x_0_volatile_skip x_0_volatile_healed x_0_volatile_est x_0_volatile_asked x_0_volatile_out x_0_volatile_events now_1 m_2 up_3):=fun _ h=>nomatch h
def s_(x_0_c:ai)(x_0_routes:Sl (Sl (Sl Int)))(x_0_l:Sl aj)(x_0_at:af)(x_0_volatile_phase:Int)(x_0_volatile_plan:am)(x_0_volatile_cur:Int)(x_0_volatile_want:Mp Int aa)(x_0_volatile_sent:Int)(x_0_volatile_rest:Int)(x_0_volatile_skip:Int)(x_0_volatile_healed:Int)(x_0_volatile_est:Arr 8 ak)(x_0_volatile_asked:Arr 8 Int)(x_0_volatile_out:Sl aa)(x_0_volatile_events:Sl ax)(now_1:Int)(m_2:aa)(up_3:Int):Option (ai×Sl (Sl (Sl Int))×Sl aj×af×Int×am×Int×Mp Int aa×Int×Int×Int×Int×Arr 8 ak×Arr 8 Int×Sl aa×Sl ax):=
 ((fG x_0_c x_0_routes x_0_l x_0_at x_0_volatile_phase x_0_volatile_plan x_0_volatile_cur x_0_volatile_want x_0_volatile_sent x_0_volatile_rest x_0_volatile_skip x_0_volatile_healed x_0_volatile_est x_0_volatile_asked x_0_volatile_out x_0_volatile_events).bind fun(r1,q2,q3,s4,q5,q6,q7,q8,q9,q10,q11,q12,q13,q14,q15,s16,s17)=>
 bif(r1==6)then(some (true,q2,q3,q5,q6,q7,q8,q10,q11,q12,q13,q14,q15,s4,q9,s16,s17))else
 ((uo m_2).bind fun r18=>
 some (((!r18)||(decide ((aa.Sw m_2)>=(ao.au (ai.T q2))))),q2,q3,q5,q6,q7,q8,q10,q11,q12,q13,q14,q15,s4,q9,s16,s17)):Option (Bool×ai×Sl (Sl (Sl Int))×af×Int×am×Int×Int×Int×Int×Int×Arr 8 ak×Arr 8 Int×Sl aj×Mp Int aa×Sl aa×Sl ax)).bind fun(b19,x20,s21,x22,i23,x24,i25,i26,i27,i28,i29,v30,v31,s32,m33,s34,s35)=>
 bif b19 then(some (x20,s21,s32,x22,i23,x24,i25,m33,i26,i27,i28,i29,v30,v31,s34,s35))else
 (bif((aa.cN m_2)==2)then((cD (aa.Sw m_2) 8).bind fun n36=>
 (uM (gt v30.1 n36) (aa.T1 m_2) (aa.T2 m_2) now_1 (ai.R9 x20)).bind fun(r37,r38)=>
 bif(r38==0)then((cD (aa.Sw m_2) 8).bind fun n39=>
 some (x20,s21,s32,x22,i23,x24,i25,m33,i26,i27,i28,i29,Arr.set v30 n39 r37,v31,s34,s35))else
 (some (x20,s21,s32,x22,i23,x24,i25,m33,i26,i27,i28,i29,v30,v31,s34,s35)))else
 (bif((aa.U m_2) !=(af.U x22))then(some (x20,s21,s32,x22,i23,x24,i25,m33,i26,i27,i28,i29,v30,v31,s34,s35))else
 (bif((aa.cN m_2)==7)then((wj x20 s21 s32 x22 i23 x24 i25 m33 i26 i27 i28 i29 v30 v31 s34 s35 now_1 m_2 up_3).bind fun(q40,q41,s42,q43,q44,q45,q46,q47,q48,q49,q50,q51,q52,q53,s54,s55)=>
 some (q40,q41,s42,q43,q44,q45,q46,q47,q48,q49,q50,q51,q52,q53,s54,s55))else
 ((bif(((aa.cN m_2)==8)&&((aa.Of m_2) !=5))then((u7 x20 s21 s32 x22 i23 x24 i25 m33 i26 i27 i28 i29 v30 v31 s34 s35 m_2).bind fun(r56,q57,q58,s59,q60,q61,q62,q63,q64,q65,q66,q67,q68,q69,q70,s71,s72)=>
 some (r56,q57,q58,q60,q61,q62,q63,q65,q66,q67,q68,q69,q70,s59,q64,s71,s72))else
 (some (false,x20,s21,x22,i23,x24,i25,i26,i27,i28,i29,v30,v31,s32,m33,s34,s35)):Option (Bool×ai×Sl (Sl (Sl Int))×af×Int×am×Int×Int×Int×Int×Int×Arr 8 ak×Arr 8 Int×Sl aj×Mp Int aa×Sl aa×Sl ax)).bind fun(b73,x74,s75,x76,i77,x78,i79,i80,i81,i82,i83,v84,v85,s86,m87,s88,s89)=>
 bif b73 then((xb x74 s75 s86 x76 i77 x78 i79 m87 i80 i81 i82 i83 v84 v85 s88 s89 now_1 up_3).bind fun(q90,q91,s92,q93,q94,q95,q96,q97,q98,q99,q100,q101,q102,q103,s104,s105)=>
 some (q90,q91,s92,q93,q94,q95,q96,q97,q98,q99,q100,q101,q102,q103,s104,s105))else
 (some (x74,s75,s86,x76,i77,x78,i79,m87,i80,i81,i82,i83,v84,v85,s88,s89))))))
theorem B8(x_0_c:ai)(x_0_routes:Sl (Sl (Sl Int)))(x_0_l:Sl aj)(x_0_at:af)(x_0_volatile_phase:Int)(x_0_volatile_plan:am)(x_0_volatile_cur:Int)(x_0_volatile_want:Mp Int aa)(x_0_volatile_sent:Int)(x_0_volatile_rest:Int)(x_0_volatile_skip:Int)(x_0_volatile_healed:Int)(x_0_volatile_est:Arr 8 ak)(x_0_volatile_asked:Arr 8 Int)(x_0_volatile_out:Sl aa)(x_0_volatile_events:Sl ax)(now_1:Int)(m_2:aa)(up_3:Int):aT (s_ x_0_c x_0_routes x_0_l x_0_at x_0_volatile_phase x_0_volatile_plan x_0_volatile_cur x_0_volatile_want x_0_volatile_sent x_0_volatile_rest x_0_volatile_skip x_0_volatile_healed x_0_volatile_est x_0_volatile_asked x_0_volatile_out x_0_volatile_events now_1 m_2 up_3) (jQ x_0_c x_0_routes x_0_l x_0_at x_0_volatile_phase x_0_volatile_plan x_0_volatile_cur x_0_volatile_want x_0_volatile_sent x_0_volatile_rest x_0_volatile_skip x_0_volatile_healed x_0_volatile_est x_0_volatile_asked x_0_volatile_out x_0_volatile_events now_1 m_2 up_3):=by
 unfold s_ jQ
 with_reducible repeat' first
  |apply CX
  |apply Bb
  |apply z7
  |apply B4
  |refine aT.cond ?_ ?_
  |refine aT.bind ?_ (fun _=>?_)
  |(split<;>try dsimp only)
  |exact aT.refl _
def e_(s_0:Sl Int):Option Int:=
 (dn 100000 (cR s_0) 0).bind fun
 |.inl i5=>(some i5)
 |.inr _=>(some (-1))
theorem lE(s_0:Sl Int):aT (e_ s_0) (dc s_0):=by
 unfold e_ dc
 with_reducible repeat' first
  |refine aT.loop (fun _=>?_) _ _
  |refine aT.bind ?_ (fun _=>?_)
  |(split<;>try dsimp only)
  |exact aT.refl _
def eJ(s_0:Sl Int):Option Bool:=
 (e_ s_0).bind fun r1=>
 some (decide (r1>=0))
theorem kB(s_0:Sl Int):aT (eJ s_0) (cq s_0):=by
 unfold eJ cq
 with_reducible repeat' first
  |apply lE
  |refine aT.bind ?_ (fun _=>?_)
  |exact aT.refl _
def qm(t_0:ao)(r_1:Sl (Sl Int)):Int->Option (Int⊕(Bool⊕Unit)):=fun i3=>
 bif decide (i3<(r_1.l.length:Int))then((cD i3 r_1.l.length).bind fun n4=>
 (bif((((gt r_1.l n4).l).length:Int) !=(((ao.bn t_0).l).length:Int))then(some true)else
 ((eJ (gt r_1.l n4)).bind fun r5=>
 some r5):Option Bool).bind fun b6=>
 bif b6 then(some (.inr (.inl false)))else
 (some (.inl (wr .i64 (i3+1)))))else
 (some (.inr (.inr ())))
theorem zr(t_0:ao)(r_1:Sl (Sl Int)):∀s,aT (qm t_0 r_1 s) (kG t_0 r_1 s):=by
 intro s;unfold qm kG
 with_reducible repeat' first
  |apply kB
  |refine aT.cond ?_ ?_
  |refine aT.bind ?_ (fun _=>?_)
  |exact aT.refl _
def nP(t_0:ao)(r_1:Sl (Sl Int)):Option Bool:=
 (pm t_0).bind fun r1=>
 bif((!r1)||((r_1.l.length:Int) !=(ao.au t_0)))then(some false)else
 ((dn 100000 (qm t_0 r_1) 0).bind fun
 |.inl b7=>(some b7)
 |.inr _=>(some true))
theorem sJ(t_0:ao)(r_1:Sl (Sl Int)):aT (nP t_0 r_1) (jJ t_0 r_1):=by
 unfold nP jJ
 with_reducible repeat' first
  |apply ue
  |apply zr
  |refine aT.loop (fun _=>?_) _ _
  |refine aT.cond ?_ ?_
  |refine aT.bind ?_ (fun _=>?_)
  |(split<;>try dsimp only)
  |exact aT.refl _
def py(l_0:Sl Int):Option Bool:=
 (bif decide ((l_0.l.length:Int)>0)then((nD l_0.l 0 (wr .i64 ((l_0.l.length:Int)-1))).bind fun l1=>
 (cD (wr .i64 ((l_0.l.length:Int)-1)) l_0.l.length).bind fun n2=>
 (dm (l_0.to l1) (gt l_0.l n2)).bind fun r3=>
 some r3)else
 (some false):Option Bool).bind fun b4=>
 some b4
theorem yu(l_0:Sl Int):aT (py l_0) (ir l_0):=by
 unfold py ir
 with_reducible repeat' first
  |apply ez
  |refine aT.cond ?_ ?_
  |refine aT.bind ?_ (fun _=>?_)
  |exact aT.refl _
def wI(t_0:ao)(sw_1:Int)(port_2:Int):Option (Int×Int×Int×Bool):=
 (dn 100000 (pn t_0 sw_1 port_2) 0).bind fun
 |.inl (i4,i5,i6,b7)=>(some (i4,i5,i6,b7))
 |.inr _=>(some (0,0,0,false))
theorem FC(t_0:ao)(sw_1:Int)(port_2:Int):aT (wI t_0 sw_1 port_2) (sf t_0 sw_1 port_2):=by
 unfold wI sf
 with_reducible repeat' first
  |refine aT.loop (fun _=>?_) _ _
  |refine aT.bind ?_ (fun _=>?_)
  |(split<;>try dsimp only)
  |exact aT.refl _
def vB(t_0:ao)(r_1:Sl (Sl Int))(sw_2:Int)(h_3:Int):Option (Int×Bool):=
 (oD r_1 sw_2 h_3).bind fun(r1,r2)=>
 bif(!r2)then(some (0,false))else
 ((wI t_0 sw_2 r1).bind fun(r3,_,_,r6)=>
 some (r3,r6))
theorem Eg(t_0:ao)(r_1:Sl (Sl Int))(sw_2:Int)(h_3:Int):aT (vB t_0 r_1 sw_2 h_3) (qn t_0 r_1 sw_2 h_3):=by
 unfold vB qn
 with_reducible repeat' first
  |apply FC
  |refine aT.cond ?_ ?_
  |refine aT.bind ?_ (fun _=>?_)
  |(split<;>try dsimp only)
  |exact aT.refl _
def rp(t_0:ao)(r_1:Sl (Sl Int))(h_3:Int):(Sl Int)->Option (Sl Int⊕((Int×Sl Int)⊕Unit)):=fun s6=>
 (py s6).bind fun r7=>
 bif(!r7)then((cD (wr .i64 ((s6.l.length:Int)-1)) s6.l.length).bind fun n8=>
 (cD h_3 ((ao.bn t_0).l).length).bind fun n9=>
 (cD (gt s6.l n8) r_1.l.length).bind fun n10=>
 (cD h_3 ((gt r_1.l n10).l).length).bind fun n11=>
 bif decide ((gt ((ao.bn t_0).l) n9)=(⟨gt s6.l n8,gt ((gt r_1.l n10).l) n11⟩:fR))then(some (.inr (.inl (0,s6))))else
 ((vB t_0 r_1 (gt s6.l n8) h_3).bind fun(r12,r13)=>
 bif(!r13)then(some (.inr (.inl (13,Sl.nil))))else
 ((ic (s6.l++[r12])).bind fun l14=>
 some (.inl (Sl.mk l14)))))else
 (some (.inr (.inr ())))
theorem AJ(t_0:ao)(r_1:Sl (Sl Int))(h_3:Int):∀s,aT (rp t_0 r_1 h_3 s) (j_ t_0 r_1 h_3 s):=by
 intro s;unfold rp j_
 with_reducible repeat' first
  |apply yu
  |apply Eg
  |refine aT.cond ?_ ?_
  |refine aT.bind ?_ (fun _=>?_)
  |(split<;>try dsimp only)
  |exact aT.refl _
def vA(t_0:ao)(r_1:Sl (Sl Int))(sw_2:Int)(h_3:Int):Option (Sl Int×Int):=
 (oD r_1 sw_2 h_3).bind fun(_,r2)=>
 (bif(!r2)then(some true)else
 ((nP t_0 r_1).bind fun r3=>
 some (!r3)):Option Bool).bind fun b4=>
 bif b4 then(some (Sl.nil,2))else
 ((dn 100000 (rp t_0 r_1 h_3) (Sl.mk [sw_2])).bind fun
 |.inl (i15,s16)=>(some (s16,i15))
 |.inr _=>(some (Sl.nil,12)))
theorem Ee(t_0:ao)(r_1:Sl (Sl Int))(sw_2:Int)(h_3:Int):aT (vA t_0 r_1 sw_2 h_3) (ql t_0 r_1 sw_2 h_3):=by
 unfold vA ql
 with_reducible repeat' first
  |apply sJ
  |apply AJ
  |refine aT.loop (fun _=>?_) _ _
  |refine aT.cond ?_ ?_
  |refine aT.bind ?_ (fun _=>?_)
  |(split<;>try dsimp only)
  |exact aT.refl _
def sK(t_0:ao)(r_1:Sl (Sl Int))(h_2:Int):(Int×Sl Int)->Option ((Int×Sl Int)⊕(Sl Int)):=fun(i5,s6)=>
 bif decide (i5<(r_1.l.length:Int))then((vA t_0 r_1 i5 h_2).bind fun(r7,_)=>
 (ic (s6.l++[wr .i64 ((r7.l.length:Int)-1)])).bind fun l9=>
 some (.inl (wr .i64 (i5+1),(Sl.mk l9))))else
 (some (.inr s6))
theorem BQ(t_0:ao)(r_1:Sl (Sl Int))(h_2:Int):∀s,aT (sK t_0 r_1 h_2 s) (k_ t_0 r_1 h_2 s):=by
 intro s;unfold sK k_
 with_reducible repeat' first
  |apply Ee
  |refine aT.cond ?_ ?_
  |refine aT.bind ?_ (fun _=>?_)
  |(split<;>try dsimp only)
  |exact aT.refl _
def tP(t_0:ao)(r_1:Sl (Sl Int))(h_2:Int):Option (Sl Int):=
 (nP t_0 r_1).bind fun r1=>
 bif(((!r1)||(decide (h_2<0)))||(decide (h_2>=(((ao.bn t_0).l).length:Int))))then(some Sl.nil)else
 ((dn 100000 (sK t_0 r_1 h_2) (0,Sl.nil)).bind fun s10=>
 some s10)
theorem zt(t_0:ao)(r_1:Sl (Sl Int))(h_2:Int):aT (tP t_0 r_1 h_2) (qo t_0 r_1 h_2):=by
 unfold tP qo
 with_reducible repeat' first
  |apply sJ
  |apply BQ
  |refine aT.loop (fun _=>?_) _ _
  |refine aT.cond ?_ ?_
  |refine aT.bind ?_ (fun _=>?_)
  |exact aT.refl _
def rq(t_0:ao)(r_1:Sl (Sl Int)):Int->Option (Int⊕(Bool⊕Unit)):=fun i3=>
 bif decide (i3<(((ao.bn t_0).l).length:Int))then((tP t_0 r_1 i3).bind fun r4=>
 (dm r4 (-1)).bind fun r5=>
 bif r5 then(some (.inr (.inl false)))else
 (some (.inl (wr .i64 (i3+1)))))else
 (some (.inr (.inr ())))
theorem AK(t_0:ao)(r_1:Sl (Sl Int)):∀s,aT (rq t_0 r_1 s) (lQ t_0 r_1 s):=by
 intro s;unfold rq lQ
 with_reducible repeat' first
  |apply zt
  |apply ez
  |refine aT.cond ?_ ?_
  |refine aT.bind ?_ (fun _=>?_)
  |exact aT.refl _
def rO(t_0:ao)(r_1:Sl (Sl Int)):Option Bool:=
 (nP t_0 r_1).bind fun r1=>
 bif(!r1)then(some false)else
 ((dn 100000 (rq t_0 r_1) 0).bind fun
 |.inl b6=>(some b6)
 |.inr _=>(some true))
theorem Eh(t_0:ao)(r_1:Sl (Sl Int)):aT (rO t_0 r_1) (oE t_0 r_1):=by
 unfold rO oE
 with_reducible repeat' first
  |apply sJ
  |apply AK
  |refine aT.loop (fun _=>?_) _ _
  |refine aT.cond ?_ ?_
  |refine aT.bind ?_ (fun _=>?_)
  |(split<;>try dsimp only)
  |exact aT.refl _
def qu(t_0:ao)(old_1:Sl (Sl Int))(now_2:Sl (Sl Int)):(Int×Sl aE)->Option ((Int×Sl aE)⊕(Sl aE)):=fun(i7,s8)=>
 bif decide (i7<(((ao.bn t_0).l).length:Int))then((tP t_0 now_2 i7).bind fun r9=>
 (dn 100000 (jd old_1 now_2 i7 r9) (0,s8)).bind fun s23=>
 some (.inl (wr .i64 (i7+1),s23)))else
 (some (.inr s8))
theorem zM(t_0:ao)(old_1:Sl (Sl Int))(now_2:Sl (Sl Int)):∀s,aT (qu t_0 old_1 now_2 s) (kJ t_0 old_1 now_2 s):=by
 intro s;unfold qu kJ
 with_reducible repeat' first
  |apply zt
  |refine aT.loop (fun _=>?_) _ _
  |refine aT.cond ?_ ?_
  |refine aT.bind ?_ (fun _=>?_)
  |(split<;>try dsimp only)
  |exact aT.refl _
def us(t_0:ao)(old_1:Sl (Sl Int))(now_2:Sl (Sl Int)):Option (Sl aE×Int):=
 ((rO t_0 old_1).bind fun r1=>
 bif(!r1)then(some true)else
 ((rO t_0 now_2).bind fun r2=>
 some (!r2)):Option Bool).bind fun b3=>
 bif b3 then(some (Sl.nil,2))else
 ((dn 100000 (qu t_0 old_1 now_2) (0,Sl.nil)).bind fun s24=>
 (JF s24).bind fun s25=>
 (my s25 s24).bind fun _=>
 some (s25,0))
theorem Dj(t_0:ao)(old_1:Sl (Sl Int))(now_2:Sl (Sl Int)):aT (us t_0 old_1 now_2) (oY t_0 old_1 now_2):=by
 unfold us oY
 with_reducible repeat' first
  |apply Eh
  |apply zM
  |apply M0
  |refine aT.loop (fun _=>?_) _ _
  |refine aT.cond ?_ ?_
  |refine aT.bind ?_ (fun _=>?_)
  |exact aT.refl _
def sC(t_0:ao):Option Int:=
 (dn 100000 (jB t_0) (0,0)).bind fun i6=>
 some i6
theorem BM(t_0:ao):aT (sC t_0) (mV t_0):=by
 unfold sC mV
 with_reducible repeat' first
  |refine aT.loop (fun _=>?_) _ _
  |refine aT.bind ?_ (fun _=>?_)
  |exact aT.refl _
def tQ(t_0:ao):Option Int:=
 (sC t_0).bind fun r1=>
 some (wr .i64 ((ao.au t_0)*r1))
theorem zx(t_0:ao):aT (tQ t_0) (qs t_0):=by
 unfold tQ qs
 with_reducible repeat' first
  |apply BM
  |refine aT.bind ?_ (fun _=>?_)
  |exact aT.refl _
def sO(l_0:Sl aE):Option (Sl Int):=
 (dn 100000 (lJ l_0) (0,Sl.nil)).bind fun s8=>
 (FJ s8).bind fun s9=>
 (my s9 s8).bind fun _=>
 (N9 p_ s9).bind fun s10=>
 some s10
theorem BY(l_0:Sl aE):aT (sO l_0) (lf l_0):=by
 unfold sO lf
 with_reducible repeat' first
  |apply JE
  |refine aT.loop (fun _=>?_) _ _
  |refine aT.bind ?_ (fun _=>?_)
  |exact aT.refl _
def yy(t_0:ao)(miss_1:Int):Option Int:=
 (tQ t_0).bind fun r1=>
 some (wr .i64 ((wr .i64 ((wr .i64 (2*miss_1))+r1))+1))
theorem Hw(t_0:ao)(miss_1:Int):aT (yy t_0 miss_1) (uS t_0 miss_1):=by
 unfold yy uS
 with_reducible repeat' first
  |apply zx
  |refine aT.bind ?_ (fun _=>?_)
  |exact aT.refl _
def du(s_0:Sl a7)(f_1_c0:Int):Option Int:=
 (dn 100000 (bK s_0 f_1_c0) 0).bind fun
 |.inl i5=>(some i5)
 |.inr _=>(some (-1))
theorem ip(s_0:Sl a7)(f_1_c0:Int):aT (du s_0 f_1_c0) (bU s_0 f_1_c0):=by
 unfold du bU
 with_reducible repeat' first
  |refine aT.loop (fun _=>?_) _ _
  |refine aT.bind ?_ (fun _=>?_)
  |(split<;>try dsimp only)
  |exact aT.refl _
def de(s_0:Sl a7)(f_1_c0:Int):Option Bool:=
 (du s_0 f_1_c0).bind fun r1=>
 some (decide (r1>=0))
theorem gW(s_0:Sl a7)(f_1_c0:Int):aT (de s_0 f_1_c0) (bL s_0 f_1_c0):=by
 unfold de bL
 with_reducible repeat' first
  |apply ip
  |refine aT.bind ?_ (fun _=>?_)
  |exact aT.refl _
def vR(n_0:Int)(l_1:Sl a7):Option Bool:=
 bif(((decide (n_0<0))||(decide (n_0>64)))||(decide ((l_1.l.length:Int)>256)))then(some false)else
 ((de l_1 n_0).bind fun r1=>
 some (!r1))
theorem EB(n_0:Int)(l_1:Sl a7):aT (vR n_0 l_1) (qC n_0 l_1):=by
 unfold vR qC
 with_reducible repeat' first
  |apply gW
  |refine aT.cond ?_ ?_
  |refine aT.bind ?_ (fun _=>?_)
  |exact aT.refl _
def sV(n_0:Int)(l_1:Sl a7):(Int×Int×Sl Int×Sl Int)->Option ((Int×Int×Sl Int×Sl Int)⊕(Int×Sl Int×Sl Int)):=fun(i9,i10,s11,s12)=>
 bif decide (i10<(wr .i64 (n_0+1)))then((dn 100000 (gY l_1) ((-1),0,s11,s12)).bind fun(i31,s32,s33)=>
 bif decide (i31<0)then(some (.inr (i31,s32,s33)))else
 (some (.inl (i31,wr .i64 (i10+1),s32,s33))))else
 (some (.inr (i9,s11,s12)))
theorem B3(n_0:Int)(l_1:Sl a7):∀s,aT (sV n_0 l_1 s) (ll n_0 l_1 s):=by
 intro s;unfold sV ll
 with_reducible repeat' first
  |refine aT.loop (fun _=>?_) _ _
  |refine aT.cond ?_ ?_
  |refine aT.bind ?_ (fun _=>?_)
  |(split<;>try dsimp only)
  |exact aT.refl _
def w_(n_0:Int)(l_1:Sl a7):Option (Sl Int×Sl Int×Int):=
 (yT 0 n_0 n_0).bind fun l1=>
 (yT 0 n_0 n_0).bind fun l2=>
 (dn 100000 (sV n_0 l_1) ((-1),0,(Sl.mk l1),(Sl.mk l2))).bind fun(i34,s35,s36)=>
 some (s35,s36,i34)
theorem Gg(n_0:Int)(l_1:Sl a7):aT (w_ n_0 l_1) (sA n_0 l_1):=by
 unfold w_ sA
 with_reducible repeat' first
  |apply B3
  |refine aT.loop (fun _=>?_) _ _
  |refine aT.bind ?_ (fun _=>?_)
  |(split<;>try dsimp only)
  |exact aT.refl _
def rA(n_0:Int)(l_1:Sl a7):Option (Sl Int×Bool):=
 (vR n_0 l_1).bind fun r1=>
 bif(!r1)then(some (Sl.nil,false))else
 ((w_ n_0 l_1).bind fun(r2,_,r4)=>
 bif decide (r4>=0)then(some (Sl.nil,false))else
 (some (r2,true)))
theorem A6(n_0:Int)(l_1:Sl a7):aT (rA n_0 l_1) (nY n_0 l_1):=by
 unfold rA nY
 with_reducible repeat' first
  |apply EB
  |apply Gg
  |refine aT.cond ?_ ?_
  |refine aT.bind ?_ (fun _=>?_)
  |(split<;>try dsimp only)
  |exact aT.refl _
def vE(n_0:Int)(gap_1:Int):Option (Sl Int):=
 (dn 100000 (lR n_0 gap_1) (1,Sl.nil)).bind fun s7=>
 (rA n_0 s7).bind fun(r8,_)=>
 some r8
theorem Em(n_0:Int)(gap_1:Int):aT (vE n_0 gap_1) (oG n_0 gap_1):=by
 unfold vE oG
 with_reducible repeat' first
  |apply A6
  |refine aT.loop (fun _=>?_) _ _
  |refine aT.bind ?_ (fun _=>?_)
  |(split<;>try dsimp only)
  |exact aT.refl _
def uq(l_0:Sl aE)(round_1:Int):(Int×Sl Int)->Option ((Int×Sl Int)⊕(Sl Int)):=fun(i4,s5)=>
 bif decide (i4<(l_0.l.length:Int))then(((cD i4 l_0.l.length).bind fun n6=>
 (bif((aE.DW (gt l_0.l n6))==round_1)then((dm s5 (aE.Sw (gt l_0.l n6))).bind fun r7=>
 some (!r7))else
 (some false):Option Bool).bind fun b8=>
 bif b8 then((ic (s5.l++[aE.Sw (gt l_0.l n6)])).bind fun l9=>
 some (Sl.mk l9))else
 (some s5):Option (Sl Int)).bind fun s10=>
 some (.inl (wr .i64 (i4+1),s10)))else
 (some (.inr s5))
theorem CZ(l_0:Sl aE)(round_1:Int):∀s,aT (uq l_0 round_1 s) (jK l_0 round_1 s):=by
 intro s;unfold uq jK
 with_reducible repeat' first
  |apply ez
  |refine aT.cond ?_ ?_
  |refine aT.bind ?_ (fun _=>?_)
  |(split<;>try dsimp only)
  |exact aT.refl _
def yx(l_0:Sl aE)(round_1:Int):Option (Sl Int):=
 (dn 100000 (uq l_0 round_1) (0,Sl.nil)).bind fun s11=>
 some s11
theorem Hv(l_0:Sl aE)(round_1:Int):aT (yx l_0 round_1) (uR l_0 round_1):=by
 unfold yx uR
 with_reducible repeat' first
  |apply CZ
  |refine aT.loop (fun _=>?_) _ _
  |refine aT.bind ?_ (fun _=>?_)
  |exact aT.refl _
def sM(at_3:Int)(miss_4:Int)(lead_5:Int)(r5:Sl aE)(r7:Int)(r8:Sl Int)(r10:Sl Int):(Int×Sl aE×Int×Int×Int×Int×Sl aS)->Option ((Int×Sl aE×Int×Int×Int×Int×Sl aS)⊕(Sl aE×Int×Int×Int×Int×Sl aS)):=fun(i19,s20,i21,i22,i23,i24,s25)=>
 bif decide (i19<(r10.l.length:Int))then((cD i19 r10.l.length).bind fun n26=>
 (cD i19 r8.l.length).bind fun n27=>
 (cD i19 r8.l.length).bind fun n28=>
 (yx r5 (gt r8.l n28)).bind fun r29=>
 (ic (s25.l++[(⟨gt r8.l n27,wr .i64 ((wr .i64 ((wr .i64 ((wr .i64 ((wr .i64 (at_3+lead_5))+miss_4))+r7))+1))+(gt r10.l n26)),r29⟩:aS)])).bind fun l30=>
 some (.inl (wr .i64 (i19+1),s20,i21,i22,i23,i24,(Sl.mk l30))))else
 (some (.inr (s20,i21,i22,i23,i24,s25)))
theorem BT(at_3:Int)(miss_4:Int)(lead_5:Int)(r5:Sl aE)(r7:Int)(r8:Sl Int)(r10:Sl Int):∀s,aT (sM at_3 miss_4 lead_5 r5 r7 r8 r10 s) (lc at_3 miss_4 lead_5 r5 r7 r8 r10 s):=by
 intro s;unfold sM lc
 with_reducible repeat' first
  |apply Hv
  |refine aT.cond ?_ ?_
  |refine aT.bind ?_ (fun _=>?_)
  |(split<;>try dsimp only)
  |exact aT.refl _
def wP(t_0:ao)(old_1:Sl (Sl Int))(now_2:Sl (Sl Int))(at_3:Int)(miss_4:Int)(lead_5:Int):Option (am×Int):=
 ((pz at_3 1099511627776).bind fun r1=>
 bif(!r1)then(some true)else
 ((pz miss_4 1048576).bind fun r2=>
 bif(!r2)then(some true)else
 ((pz lead_5 1048576).bind fun r3=>
 some (!r3))):Option Bool).bind fun b4=>
 bif b4 then(some ((⟨Sl.nil,Sl.nil,0,0,0,0⟩:am),2))else
 ((us t_0 old_1 now_2).bind fun(r5,r6)=>
 bif(r6 !=0)then(some ((⟨Sl.nil,Sl.nil,0,0,0,0⟩:am),r6))else
 (bif((r5.l.length:Int)==0)then(some ((⟨Sl.nil,Sl.nil,0,0,0,0⟩:am),7))else
 ((tQ t_0).bind fun r7=>
 (sO r5).bind fun r8=>
 (yy t_0 miss_4).bind fun r9=>
 (vE (r8.l.length:Int) r9).bind fun r10=>
 (dn 100000 (sM at_3 miss_4 lead_5 r5 r7 r8 r10) (0,r5,miss_4,r7,0,0,Sl.nil)).bind fun(s31,i32,i33,_,_,s36)=>
 (cD (wr .i64 ((s36.l.length:Int)-1)) s36.l.length).bind fun n37=>
 bif decide ((wr .i64 ((aS.At (gt s36.l n37))+miss_4))>1099511627776)then(some ((⟨Sl.nil,Sl.nil,0,0,0,0⟩:am),11))else
 (some ((⟨s31,s36,i32,i33,wr .i64 ((wr .i64 ((wr .i64 ((wr .i64 ((wr .i64 ((wr .i64 (at_3+lead_5))+miss_4))+r7))+1))-miss_4))-i33),wr .i64 ((aS.At (gt s36.l n37))+miss_4)⟩:am),0)))))
theorem FR(t_0:ao)(old_1:Sl (Sl Int))(now_2:Sl (Sl Int))(at_3:Int)(miss_4:Int)(lead_5:Int):aT (wP t_0 old_1 now_2 at_3 miss_4 lead_5) (kH t_0 old_1 now_2 at_3 miss_4 lead_5):=by
 unfold wP kH
 with_reducible repeat' first
  |apply Dj
  |apply zx
  |apply BY
  |apply Hw
  |apply Em
  |apply BT
  |refine aT.loop (fun _=>?_) _ _
  |refine aT.cond ?_ ?_
  |refine aT.bind ?_ (fun _=>?_)
  |(split<;>try dsimp only)
  |exact aT.refl _
def sW(x_0_c:ai)(x_0_routes:Sl (Sl (Sl Int)))(x_0_l:Sl aj)(x_0_at:af)(x_0_volatile_phase:Int)(x_0_volatile_plan:am)(x_0_volatile_cur:Int)(x_0_volatile_want:Mp Int aa)(x_0_volatile_sent:Int)(x_0_volatile_rest:Int)(x_0_volatile_skip:Int)(x_0_volatile_healed:Int)(x_0_volatile_est:Arr 8 ak)(x_0_volatile_asked:Arr 8 Int)(x_0_volatile_out:Sl aa)(x_0_volatile_events:Sl ax)(target_1:Int)(at_2:Int):Option (am×Int×ai×Sl (Sl (Sl Int))×Sl aj×af×Int×am×Int×Mp Int aa×Int×Int×Int×Int×Arr 8 ak×Arr 8 Int×Sl aa×Sl ax):=
 (cD (af.pk x_0_at) x_0_routes.l.length).bind fun n1=>
 (cD target_1 x_0_routes.l.length).bind fun n2=>
 (uL (ai.uD x_0_c)).bind fun r3=>
 (wP (ai.T x_0_c) (gt x_0_routes.l n1) (gt x_0_routes.l n2) at_2 r3 (ai.xW x_0_c)).bind fun(r4,r5)=>
 some (r4,r5,x_0_c,x_0_routes,x_0_l,x_0_at,x_0_volatile_phase,x_0_volatile_plan,x_0_volatile_cur,x_0_volatile_want,x_0_volatile_sent,x_0_volatile_rest,x_0_volatile_skip,x_0_volatile_healed,x_0_volatile_est,x_0_volatile_asked,x_0_volatile_out,x_0_volatile_events)
theorem B5(x_0_c:ai)(x_0_routes:Sl (Sl (Sl Int)))(x_0_l:Sl aj)(x_0_at:af)(x_0_volatile_phase:Int)(x_0_volatile_plan:am)(x_0_volatile_cur:Int)(x_0_volatile_want:Mp Int aa)(x_0_volatile_sent:Int)(x_0_volatile_rest:Int)(x_0_volatile_skip:Int)(x_0_volatile_healed:Int)(x_0_volatile_est:Arr 8 ak)(x_0_volatile_asked:Arr 8 Int)(x_0_volatile_out:Sl aa)(x_0_volatile_events:Sl ax)(target_1:Int)(at_2:Int):aT (sW x_0_c x_0_routes x_0_l x_0_at x_0_volatile_phase x_0_volatile_plan x_0_volatile_cur x_0_volatile_want x_0_volatile_sent x_0_volatile_rest x_0_volatile_skip x_0_volatile_healed x_0_volatile_est x_0_volatile_asked x_0_volatile_out x_0_volatile_events target_1 at_2) (lq x_0_c x_0_routes x_0_l x_0_at x_0_volatile_phase x_0_volatile_plan x_0_volatile_cur x_0_volatile_want x_0_volatile_sent x_0_volatile_rest x_0_volatile_skip x_0_volatile_healed x_0_volatile_est x_0_volatile_asked x_0_volatile_out x_0_volatile_events target_1 at_2):=by
 unfold sW lq
 with_reducible repeat' first
  |apply FR
  |refine aT.bind ?_ (fun _=>?_)
  |(split<;>try dsimp only)
  |exact aT.refl _
def vI(l_0:Sl aE)(round_1:Int)(sw_2:Int):Option (Sl bl):=
 (dn 100000 (kf l_0 round_1 sw_2) (0,Sl.nil)).bind fun s10=>
 some s10
theorem Eu(l_0:Sl aE)(round_1:Int)(sw_2:Int):aT (vI l_0 round_1 sw_2) (qv l_0 round_1 sw_2):=by
 unfold vI qv
 with_reducible repeat' first
  |refine aT.loop (fun _=>?_) _ _
  |refine aT.bind ?_ (fun _=>?_)
  |exact aT.refl _
def ru(p_0:am)(k_1:Int)(n1:Nat):(Int×Sl fZ)->Option ((Int×Sl fZ)⊕(Sl fZ)):=fun(i5,s6)=>
 bif decide (i5<(((aS.p8 (gt ((am.aY p_0).l) n1)).l).length:Int))then((cD i5 ((aS.p8 (gt ((am.aY p_0).l) n1)).l).length).bind fun n7=>
 (cD k_1 ((am.aY p_0).l).length).bind fun n8=>
 (vI (am.Jd p_0) (aS.No (gt ((am.aY p_0).l) n8)) (gt ((aS.p8 (gt ((am.aY p_0).l) n1)).l) n7)).bind fun r9=>
 (ic (s6.l++[(⟨gt ((aS.p8 (gt ((am.aY p_0).l) n1)).l) n7,r9⟩:fZ)])).bind fun l10=>
 some (.inl (wr .i64 (i5+1),(Sl.mk l10))))else
 (some (.inr s6))
theorem AO(p_0:am)(k_1:Int)(n1:Nat):∀s,aT (ru p_0 k_1 n1 s) (qK p_0 k_1 n1 s):=by
 intro s;unfold ru qK
 with_reducible repeat' first
  |apply Eu
  |refine aT.cond ?_ ?_
  |refine aT.bind ?_ (fun _=>?_)
  |(split<;>try dsimp only)
  |exact aT.refl _
def vF(p_0:am)(k_1:Int):Option (Sl fZ):=
 bif((decide (k_1<0))||(decide (k_1>=(((am.aY p_0).l).length:Int))))then(some Sl.nil)else
 ((cD k_1 ((am.aY p_0).l).length).bind fun n1=>
 (dn 100000 (ru p_0 k_1 n1) (0,Sl.nil)).bind fun s11=>
 some s11)
theorem En(p_0:am)(k_1:Int):aT (vF p_0 k_1) (qr p_0 k_1):=by
 unfold vF qr
 with_reducible repeat' first
  |apply AO
  |refine aT.loop (fun _=>?_) _ _
  |refine aT.cond ?_ ?_
  |refine aT.bind ?_ (fun _=>?_)
  |exact aT.refl _
def nE(r20:am):(Int×ai×Sl (Sl (Sl Int))×af×Int×am×Int×Int×Int×Int×Int×Arr 8 ak×Arr 8 Int×Sl aa×Sl aj×Mp Int aa×Sl aa×Sl ax)->Option ((Int×ai×Sl (Sl (Sl Int))×af×Int×am×Int×Int×Int×Int×Int×Arr 8 ak×Arr 8 Int×Sl aa×Sl aj×Mp Int aa×Sl aa×Sl ax)⊕((Int×ai×Sl (Sl (Sl Int))×af×Int×am×Int×Int×Int×Int×Int×Arr 8 ak×Arr 8 Int×Sl aj×Mp Int aa×Sl aa×Sl ax)⊕(ai×Sl (Sl (Sl Int))×af×Int×am×Int×Int×Int×Int×Int×Arr 8 ak×Arr 8 Int×Sl aa×Sl aj×Mp Int aa×Sl aa×Sl ax))):=fun(i59,x60,s61,x62,i63,x64,i65,i66,i67,i68,i69,v70,v71,s72,s73,m74,s75,s76)=>
 bif decide (i59<(((am.aY r20).l).length:Int))then((cD i59 ((am.aY r20).l).length).bind fun n77=>
 (uz x60 s61 s73 x62 i63 x64 i65 m74 i66 i67 i68 i69 v70 v71 s75 s76 (gt ((am.aY r20).l) n77)).bind fun(_,r79,q80,q81,s82,q83,q84,q85,q86,q87,q88,q89,q90,q91,q92,q93,s94,s95)=>
 bif(!r79)then(some (.inr (.inl (15,q80,q81,q83,q84,q85,q86,q88,q89,q90,q91,q92,q93,s82,q87,s94,s95))))else
 ((vF r20 i59).bind fun r96=>
 (dn 100000 (mq i59 q83 r96) (0,s72)).bind fun s103=>
 some (.inl (wr .i64 (i59+1),q80,q81,q83,q84,q85,q86,q88,q89,q90,q91,q92,q93,s103,s82,q87,s94,s95))))else
 (some (.inr (.inr (x60,s61,x62,i63,x64,i65,i66,i67,i68,i69,v70,v71,s72,s73,m74,s75,s76))))
theorem xe(r20:am):∀s,aT (nE r20 s) (mo r20 s):=by
 intro s;unfold nE mo
 with_reducible repeat' first
  |apply DJ
  |apply En
  |refine aT.loop (fun _=>?_) _ _
  |refine aT.cond ?_ ?_
  |refine aT.bind ?_ (fun _=>?_)
  |(split<;>try dsimp only)
  |exact aT.refl _
def nk(x_0_c:ai)(x_0_routes:Sl (Sl (Sl Int)))(x_0_l:Sl aj)(x_0_at:af)(x_0_volatile_phase:Int)(x_0_volatile_plan:am)(x_0_volatile_cur:Int)(x_0_volatile_want:Mp Int aa)(x_0_volatile_sent:Int)(x_0_volatile_rest:Int)(x_0_volatile_skip:Int)(x_0_volatile_healed:Int)(x_0_volatile_est:Arr 8 ak)(x_0_volatile_asked:Arr 8 Int)(x_0_volatile_out:Sl aa)(x_0_volatile_events:Sl ax)(now_1:Int)(k_2:Int)(up_3:Int):Option (Int×ai×Sl (Sl (Sl Int))×Sl aj×af×Int×am×Int×Mp Int aa×Int×Int×Int×Int×Arr 8 ak×Arr 8 Int×Sl aa×Sl ax):=
 (fG x_0_c x_0_routes x_0_l x_0_at x_0_volatile_phase x_0_volatile_plan x_0_volatile_cur x_0_volatile_want x_0_volatile_sent x_0_volatile_rest x_0_volatile_skip x_0_volatile_healed x_0_volatile_est x_0_volatile_asked x_0_volatile_out x_0_volatile_events).bind fun(r1,q2,q3,s4,q5,q6,q7,q8,q9,q10,q11,q12,q13,q14,q15,s16,s17)=>
 bif(((r1 !=0)||((af.og q5) !=0))||(decide ((af.U q5)>=65535)))then(some (16,q2,q3,s4,q5,q6,q7,q8,q9,q10,q11,q12,q13,q14,q15,s16,s17))else
 ((bif((decide (k_2<0))||(decide (k_2>=(q3.l.length:Int))))then(some true)else
 ((mL now_1 0 1099511627776).bind fun r18=>
 some (!r18)):Option Bool).bind fun b19=>
 bif b19 then(some (2,q2,q3,s4,q5,q6,q7,q8,q9,q10,q11,q12,q13,q14,q15,s16,s17))else
 ((sW q2 q3 s4 q5 q6 q7 q8 q9 q10 q11 q12 q13 q14 q15 s16 s17 k_2 now_1).bind fun(r20,r21,q22,q23,s24,q25,q26,q27,q28,q29,q30,q31,q32,q33,q34,q35,s36,s37)=>
 bif(r21 !=0)then(some (r21,q22,q23,s24,q25,q26,q27,q28,q29,q30,q31,q32,q33,q34,q35,s36,s37))else
 ((rB r20).bind fun(r38,_)=>
 bif((tg .i64 r38 up_3) !=0)then(some (16,q22,q23,s24,q25,q26,q27,q28,q29,q30,q31,q32,q33,q34,q35,s36,s37))else
 ((dn 100000 (nE r20) (0,q22,q23,q25,q26,q27,q28,q30,q31,q32,q33,q34,q35,Sl.nil,s24,q29,s36,s37)).bind fun
 |.inl (i104,x105,s106,x107,i108,x109,i110,i111,i112,i113,i114,v115,v116,s117,m118,s119,s120)=>(some (i104,x105,s106,s117,x107,i108,x109,i110,m118,i111,i112,i113,i114,v115,v116,s119,s120))
 |.inr (x121,s122,x123,i124,x125,i126,i127,i128,i129,i130,v131,v132,s133,s134,m135,s136,s137)=>((rC x121 s122 s134 x123 i124 x125 i126 m135 i127 i128 i129 i130 v131 v132 s136 s137 1 (wr .i64 ((af.U x123)+1)) k_2 now_1).bind fun(q138,q139,s140,q141,q142,_,q144,q145,q146,q147,_,q149,q150,q151,s152,s153)=>
 (iM q138 q139 s140 q141 q142 r20 q144 q145 q146 q147 0 q149 q150 q151 s152 s153 now_1 8 0 (am.X5 r20) (am.To r20)).bind fun(q154,q155,s156,q157,_,q159,q160,q161,q162,q163,q164,q165,q166,q167,s168,s169)=>
 (uy q154 q155 s156 q157 1 q159 q160 q161 q162 q163 q164 q165 q166 q167 s168 s169 now_1 s133).bind fun(q170,q171,s172,q173,q174,q175,q176,q177,q178,q179,q180,q181,q182,q183,s184,s185)=>
 some (0,q170,q171,s172,q173,q174,q175,q176,q177,q178,q179,q180,q181,q182,q183,s184,s185))))))
theorem z_(x_0_c:ai)(x_0_routes:Sl (Sl (Sl Int)))(x_0_l:Sl aj)(x_0_at:af)(x_0_volatile_phase:Int)(x_0_volatile_plan:am)(x_0_volatile_cur:Int)(x_0_volatile_want:Mp Int aa)(x_0_volatile_sent:Int)(x_0_volatile_rest:Int)(x_0_volatile_skip:Int)(x_0_volatile_healed:Int)(x_0_volatile_est:Arr 8 ak)(x_0_volatile_asked:Arr 8 Int)(x_0_volatile_out:Sl aa)(x_0_volatile_events:Sl ax)(now_1:Int)(k_2:Int)(up_3:Int):aT (nk x_0_c x_0_routes x_0_l x_0_at x_0_volatile_phase x_0_volatile_plan x_0_volatile_cur x_0_volatile_want x_0_volatile_sent x_0_volatile_rest x_0_volatile_skip x_0_volatile_healed x_0_volatile_est x_0_volatile_asked x_0_volatile_out x_0_volatile_events now_1 k_2 up_3) (ia x_0_c x_0_routes x_0_l x_0_at x_0_volatile_phase x_0_volatile_plan x_0_volatile_cur x_0_volatile_want x_0_volatile_sent x_0_volatile_rest x_0_volatile_skip x_0_volatile_healed x_0_volatile_est x_0_volatile_asked x_0_volatile_out x_0_volatile_events now_1 k_2 up_3):=by
 unfold nk ia;rw[qF]
 with_reducible repeat' first
  |apply B5
  |apply A8
  |apply xe
  |apply A9
  |apply DI
  |refine aT.loop (fun _=>?_) _ _
  |refine aT.cond ?_ ?_
  |refine aT.bind ?_ (fun _=>?_)
  |(split<;>try dsimp only)
  |exact aT.refl _
def qw:(Int×ai×Sl (Sl (Sl Int))×af×Int×am×Int×Int×Int×Int×Int×Arr 8 ak×Arr 8 Int×Sl aj×Mp Int aa×Sl aa×Sl ax)->Option ((Int×ai×Sl (Sl (Sl Int))×af×Int×am×Int×Int×Int×Int×Int×Arr 8 ak×Arr 8 Int×Sl aj×Mp Int aa×Sl aa×Sl ax)⊕(ai×Sl (Sl (Sl Int))×af×Int×am×Int×Int×Int×Int×Int×Arr 8 ak×Arr 8 Int×Sl aj×Mp Int aa×Sl aa×Sl ax)):=fun(i106,x107,s108,x109,i110,x111,i112,i113,i114,i115,i116,v117,v118,s119,m120,s121,s122)=>
 bif decide (i106<3)then((s_ x107 s108 s119 x109 i110 x111 i112 m120 i113 i114 i115 i116 v117 v118 s121 s122 0 (⟨2,i106,0,0,0,wr .i64 (3*i106),0,0,0,Sl.nil⟩:aa) 7).bind fun(q123,q124,s125,q126,q127,q128,q129,q130,q131,q132,q133,q134,q135,q136,s137,s138)=>
 some (.inl (wr .i64 (i106+1),q123,q124,q126,q127,q128,q129,q131,q132,q133,q134,q135,q136,s125,q130,s137,s138)))else
 (some (.inr (x107,s108,x109,i110,x111,i112,i113,i114,i115,i116,v117,v118,s119,m120,s121,s122)))
theorem zP:∀s,aT (qw s) (sQ s):=by
 intro s;unfold qw sQ
 with_reducible repeat' first
  |apply B8
  |refine aT.cond ?_ ?_
  |refine aT.bind ?_ (fun _=>?_)
  |(split<;>try dsimp only)
  |exact aT.refl _
def ya:Option Bool:=
 (w5).bind fun r1=>
 (u6 r1).bind fun
 |.inl r2=>((u6 (⟨(⟨1,Sl.nil,Sl.nil⟩:ao),(Sl.mk [Sl.nil,Sl.nil]),(Sl.mk [0]),0,0,0,0,0,1⟩:ai)).bind fun
 |.inl r3=>(bif((r2 !=0)||(r3 !=0))then(some false)else
 ((jP 0 7).bind fun _=>
 none))
 |.inr (_,_,_,_,_,_,_,_,_,_,_,_,_,_,_,_,r20)=>(bif((r2 !=0)||(r20 !=0))then(some false)else
 ((jP 0 7).bind fun _=>
 none)))
 |.inr (r21,r22,s23,r24,r25,r26,r27,r28,r29,r30,r31,r32,r33,r34,s35,s36,r37)=>((u6 (⟨(⟨1,Sl.nil,Sl.nil⟩:ao),(Sl.mk [Sl.nil,Sl.nil]),(Sl.mk [0]),0,0,0,0,0,1⟩:ai)).bind fun
 |.inl r38=>(bif((r37 !=0)||(r38 !=0))then(some false)else
 ((ot r21 r22 s23 r24 r25 r26 r27 r28 r29 r30 r31 r32 r33 r34 s35 s36 0 7).bind fun(_,_,_,_,_,_,_,_,_,_,_,_,_,_,_,_)=>
 none))
 |.inr (r55,r56,s57,r58,r59,r60,r61,r62,r63,r64,r65,r66,r67,r68,s69,s70,r71)=>(bif((r37 !=0)||(r71 !=0))then(some false)else
 ((ot r21 r22 s23 r24 r25 r26 r27 r28 r29 r30 r31 r32 r33 r34 s35 s36 0 7).bind fun(q72,q73,s74,q75,q76,q77,q78,q79,q80,q81,q82,q83,q84,q85,s86,s87)=>
 (dn 100000 (qw) (0,q72,q73,q75,q76,q77,q78,q80,q81,q82,q83,q84,q85,s74,q79,s86,s87)).bind fun(x139,s140,x141,i142,x143,i144,i145,i146,i147,i148,v149,v150,s151,m152,s153,s154)=>
 (kh x139 s140 s151 x141 i142 x143 i144 m152 i145 i146 i147 i148 v149 v150 s153 s154).bind fun(r155,_,q157,q158,s159,q160,q161,q162,q163,q164,q165,q166,q167,q168,q169,q170,s171,s172)=>
 (nk q157 q158 s159 q160 q161 q162 q163 q164 q165 q166 q167 q168 q169 q170 s171 s172 1 1 7).bind fun(r173,q174,q175,s176,q177,q178,q179,q180,q181,q182,q183,q184,q185,q186,q187,s188,s189)=>
 (kh q174 q175 s176 q177 q178 q179 q180 q181 q182 q183 q184 q185 q186 q187 s188 s189).bind fun(r190,r191,q192,q193,s194,q195,q196,q197,q198,q199,q200,q201,q202,q203,q204,q205,s206,s207)=>
 (bif(((r155.l.length:Int)==3)&&(r173==0))then((fG q192 q193 s194 q195 q196 q197 q198 q199 q200 q201 q202 q203 q204 q205 s206 s207).bind fun(r208,q209,q210,s211,q212,q213,q214,q215,q216,q217,q218,q219,q220,q221,q222,s223,s224)=>
 bif(((r208==1)&&((r190.l.length:Int)==2))&&((r191.l.length:Int)==1))then((cD 0 r191.l.length).bind fun n225=>
 bif((ax.cN (gt r191.l n225))==8)then((nk r55 r56 s57 r58 r59 r60 r61 r62 r63 r64 r65 r66 r67 r68 s69 s70 0 1 1).bind fun(r226,_,_,_,_,_,_,_,_,_,_,_,_,_,_,_,_)=>
 bif(r226==7)then((rG q209 q210 s211 q212 q213 q214 q215 q216 q217 q218 q219 q220 q221 q222 s223 s224).bind fun(s243,_,_,_,_,_,_,_,_,_,_,_,_,_,_,_,_)=>
 some ((s243.l.length:Int)==1))else
 (some false))else
 (some false))else
 (some false))else
 (some false):Option Bool).bind fun b260=>
 some b260)))
theorem Dl:aT (ya) (jL):=by
 unfold ya jL
 with_reducible repeat' first
  |apply KG
  |apply Bc
  |apply zP
  |apply z_
  |refine aT.loop (fun _=>?_) _ _
  |refine aT.cond ?_ ?_
  |refine aT.bind ?_ (fun _=>?_)
  |(split<;>try dsimp only)
  |exact aT.refl _
theorem AU:jL=some true:=Dl _ (by decide+kernel)
end Go.Proofs.YtoekkpmeeclpeaaGreat.S
