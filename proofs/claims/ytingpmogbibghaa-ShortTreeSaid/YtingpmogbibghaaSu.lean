/- law19_awake answers true: by running its twin. Conditions: none. -/
import Derived.Test.YtingpmogbibghaaS
import Derived.Test.YtingpmogbibghaaTwin
import Derived.Test.YtingpmogbibghaaSw
open Go.Ev Go
noncomputable section
namespace Go.Proofs.Ytingpmogbibghaa.S
def rB(t_0:aj):Option (Sl bk):=
 (jm 100000 (l6 t_0) (0,Sl.nil)).bind fun s8=>
 (jm 100000 (lZ t_0) (0,s8)).bind fun s15=>
 some s15
theorem zo(t_0:aj):c8 (rB t_0) (nI t_0):=by
 unfold rB nI
 repeat' first
  |with_reducible refine c8.loop (fun _=>?_) _ _
  |with_reducible refine c8.bind ?_ (fun _=>?_)
  |(split<;>try dsimp only)
  |with_reducible exact c8.refl _
def sN(t_0:aj):Option Bool:=
 bif((((decide ((aj.ah t_0)<1))||(decide ((aj.ah t_0)>8)))||(decide ((((aj.aP t_0).l).length:Int)>24)))||(decide ((((aj.bg t_0).l).length:Int)>8)))then(some false)else
 ((jm 100000 (mQ t_0) 0).bind fun
 |.inl b4=>(some b4)
 |.inr _=>((rB t_0).bind fun r5=>
 (jm 100000 (ji t_0 r5) (0,(Mp.none:Mp bk Int))).bind fun
 |.inl b13=>(some b13)
 |.inr _=>(some true)))
theorem A7(t_0:aj):c8 (sN t_0) (oP t_0):=by
 unfold sN oP
 repeat' first
  |with_reducible apply zo
  |with_reducible refine c8.loop (fun _=>?_) _ _
  |with_reducible refine c8.cond ?_ ?_
  |with_reducible refine c8.bind ?_ (fun _=>?_)
  |(split<;>try dsimp only)
  |with_reducible exact c8.refl _
def dK(s_0:Sl Nat):Option Int:=
 (jm 100000 (bU s_0) 0).bind fun
 |.inl i5=>(some i5)
 |.inr _=>(some (-1))
theorem jS(s_0:Sl Nat):c8 (dK s_0) (bG s_0):=by
 unfold dK bG
 repeat' first
  |with_reducible refine c8.loop (fun _=>?_) _ _
  |with_reducible refine c8.bind ?_ (fun _=>?_)
  |(split<;>try dsimp only)
  |with_reducible exact c8.refl _
def dj(s_0:Sl Nat):Option Bool:=
 (dK s_0).bind fun r1=>
 some (decide (r1>=0))
theorem jf(s_0:Sl Nat):c8 (dj s_0) (bA s_0):=by
 unfold dj bA
 repeat' first
  |with_reducible apply jS
  |with_reducible refine c8.bind ?_ (fun _=>?_)
  |(split<;>try dsimp only)
  |with_reducible exact c8.refl _
def rq(w_0:Sl Nat)(links_1:Int):Option Bool:=
 (bif((w_0.l.length:Int)==links_1)then((dj w_0).bind fun r1=>
 some (!r1))else
 (some false):Option Bool).bind fun b2=>
 some b2
theorem zf(w_0:Sl Nat)(links_1:Int):c8 (rq w_0 links_1) (pm w_0 links_1):=by
 unfold rq pm
 repeat' first
  |with_reducible apply jf
  |with_reducible refine c8.cond ?_ ?_
  |with_reducible refine c8.bind ?_ (fun _=>?_)
  |(split<;>try dsimp only)
  |with_reducible exact c8.refl _
def mT(t_0:aj)(w_1:Sl Nat):Option Bool:=
 ((sN t_0).bind fun r1=>
 bif r1 then((rq w_1 (((aj.aP t_0).l).length:Int)).bind fun r2=>
 some r2)else
 (some false):Option Bool).bind fun b3=>
 some b3
theorem qr(t_0:aj)(w_1:Sl Nat):c8 (mT t_0 w_1) (j_ t_0 w_1):=by
 unfold mT j_
 repeat' first
  |with_reducible apply A7
  |with_reducible apply zf
  |with_reducible refine c8.cond ?_ ?_
  |with_reducible refine c8.bind ?_ (fun _=>?_)
  |(split<;>try dsimp only)
  |with_reducible exact c8.refl _
def og(x_0:Int)(y_1:Int):Option (Int×Int):=some (wr .u64 ((wr .u64 ((wr .u64 ((fM .u64 x_0 32)*(fM .u64 y_1 32)))+(fM .u64 (wr .u64 ((wr .u64 ((fM .u64 x_0 32)*(ve .u64 y_1 4294967295)))+(fM .u64 (wr .u64 ((ve .u64 x_0 4294967295)*(ve .u64 y_1 4294967295))) 32))) 32)))+(fM .u64 (wr .u64 ((ve .u64 (wr .u64 ((wr .u64 ((fM .u64 x_0 32)*(ve .u64 y_1 4294967295)))+(fM .u64 (wr .u64 ((ve .u64 x_0 4294967295)*(ve .u64 y_1 4294967295))) 32))) 4294967295)+(wr .u64 ((ve .u64 x_0 4294967295)*(fM .u64 y_1 32))))) 32)),wr .u64 (x_0*y_1))
theorem vB(x_0:Int)(y_1:Int):c8 (og x_0 y_1) (lE x_0 y_1):=by
 unfold og lE;rw[Ds]
 repeat' first
  |with_reducible refine c8.bind ?_ (fun _=>?_)
  |(split<;>try dsimp only)
  |with_reducible exact c8.refl _
def nm(x_0:Int)(y_1:Int):Option (Int×Int):=
 (og x_0 y_1).bind fun(r1,r2)=>
 some (r1,r2)
theorem se(x_0:Int)(y_1:Int):c8 (nm x_0 y_1) (jl x_0 y_1):=by
 unfold nm jl
 repeat' first
  |with_reducible apply vB
  |with_reducible refine c8.bind ?_ (fun _=>?_)
  |(split<;>try dsimp only)
  |with_reducible exact c8.refl _
def gZ(x_0:Sl Nat)(count_1:Int):Option (Sl Nat):=
 bif decide (count_1<0)then(none)else
 ((nm (wr .u64 (x_0.l.length:Int)) (wr .u64 count_1)).bind fun(r1,r2)=>
 bif((decide (r1>0))||(decide (r2>9223372036854775807)))then(none)else
 ((A0 0 (wr .i64 r2) (wr .i64 r2)).bind fun l3=>
 (jm 100000 (j9) (((min x_0.l.length l3.length:Nat):Int),(Sl.mk (A4 l3 0 l3.length x_0.l)))).bind fun s11=>
 some s11))
theorem nY(x_0:Sl Nat)(count_1:Int):c8 (gZ x_0 count_1) (dz x_0 count_1):=by
 unfold gZ dz
 repeat' first
  |with_reducible apply se
  |with_reducible refine c8.loop (fun _=>?_) _ _
  |with_reducible refine c8.cond ?_ ?_
  |with_reducible refine c8.bind ?_ (fun _=>?_)
  |(split<;>try dsimp only)
  |with_reducible exact c8.refl _
def vC(x_0:Nat):Option Nat:=
 (ou x_0).bind fun r1=>
 (p_ (AQ .u64 r1 9223372036854775808)).bind fun r2=>
 some r2
theorem E2(x_0:Nat):c8 (vC x_0) (wE x_0):=by
 unfold vC wE;rw[AO]
 repeat' first
  |with_reducible refine c8.bind ?_ (fun _=>?_)
  |(split<;>try dsimp only)
  |with_reducible exact c8.refl _
def oh(f_0:Nat)(sign_1:Int):Option Bool:=
 (bif(sign_1==0)then((vC f_0).bind fun r1=>
 some r1)else
 (bif decide (sign_1<0)then(some (Op.negFloat .f64 f_0))else
 (some f_0)):Option Nat).bind fun f2=>
 some (IR .f64 f2 9218868437227405311)
theorem u5(f_0:Nat)(sign_1:Int):c8 (oh f_0 sign_1) (kr f_0 sign_1):=by
 unfold oh kr
 repeat' first
  |with_reducible apply E2
  |with_reducible refine c8.cond ?_ ?_
  |with_reducible refine c8.bind ?_ (fun _=>?_)
  |(split<;>try dsimp only)
  |with_reducible exact c8.refl _
def rN(x_0:Nat):Option Int:=
 bif(!(DH .f64 x_0 x_0))then(some 0)else
 ((oh x_0 (-1)).bind fun r1=>
 bif r1 then(some 1)else
 ((oh x_0 1).bind fun r2=>
 bif r2 then(some 6)else
 (bif MW .f64 x_0 0 then(some 2)else
 (bif IR .f64 x_0 0 then(some 5)else
 ((p6 x_0).bind fun r3=>
 bif r3 then(some 3)else
 (some 4))))))
theorem Am(x_0:Nat):c8 (rN x_0) (nN x_0):=by
 unfold rN nN
 repeat' first
  |with_reducible apply u5
  |with_reducible refine c8.cond ?_ ?_
  |with_reducible refine c8.bind ?_ (fun _=>?_)
  |(split<;>try dsimp only)
  |with_reducible exact c8.refl _
def p9(x_0:Nat):Option Int:=
 (rN x_0).bind fun r1=>
 bif(r1==0)then(some 2)else
 (bif(r1==3)then(some (-1))else
 (some 0))
theorem Bp(x_0:Nat):c8 (p9 x_0) (lm x_0):=by
 unfold p9 lm
 repeat' first
  |with_reducible apply Am
  |with_reducible refine c8.cond ?_ ?_
  |with_reducible refine c8.bind ?_ (fun _=>?_)
  |(split<;>try dsimp only)
  |with_reducible exact c8.refl _
def pJ(a_0:Nat)(b_1:Nat):Option Int:=
 bif MW .f64 a_0 b_1 then(some (-1))else
 (bif IR .f64 a_0 b_1 then(some 1)else
 ((p9 a_0).bind fun r1=>
 (p9 b_1).bind fun r2=>
 (j7 r1 r2).bind fun r3=>
 some r3))
theorem xP(a_0:Nat)(b_1:Nat):c8 (pJ a_0 b_1) (lI a_0 b_1):=by
 unfold pJ lI
 repeat' first
  |with_reducible apply Bp
  |with_reducible refine c8.cond ?_ ?_
  |with_reducible refine c8.bind ?_ (fun _=>?_)
  |(split<;>try dsimp only)
  |with_reducible exact c8.refl _
def pH(a_0:Int)(b_1:Int)(c_2:Sl Nat):Option Int:=
 (cZ a_0 c_2.l.length).bind fun n1=>
 (cZ b_1 c_2.l.length).bind fun n2=>
 (pJ (gt c_2.l n1) (gt c_2.l n2)).bind fun r3=>
 some r3
theorem xn(a_0:Int)(b_1:Int)(c_2:Sl Nat):c8 (pH a_0 b_1 c_2) (df a_0 b_1 c_2):=by
 unfold pH df
 repeat' first
  |with_reducible apply xP
  |with_reducible refine c8.bind ?_ (fun _=>?_)
  |(split<;>try dsimp only)
  |with_reducible exact c8.refl _
def YT(a_1:Int)(cmp_3_c0:Sl Nat):(Int×Sl Int)->Option ((Int×Sl Int)⊕(Sl Int)):=fun(i9,s10)=>
 (bif decide (i9>a_1)then((cZ i9 s10.l.length).bind fun n11=>
 (cZ (wr .i64 (i9-1)) s10.l.length).bind fun n12=>
 (pH (gt s10.l n11) (gt s10.l n12) cmp_3_c0).bind fun r13=>
 some (decide (r13<0)))else
 (some false):Option Bool).bind fun b14=>
 bif b14 then((cZ (wr .i64 (i9-1)) s10.l.length).bind fun n15=>
 (cZ i9 s10.l.length).bind fun n16=>
 (cZ i9 s10.l.length).bind fun n17=>
 (cZ (wr .i64 (i9-1)) (s10.l.set n17 (gt s10.l n15)).length).bind fun n18=>
 some (.inl (wr .i64 (i9-1),(Sl.mk ((s10.l.set n17 (gt s10.l n15)).set n18 (gt s10.l n16))))))else
 (some (.inr s10))
theorem jr(a_1:Int)(cmp_3_c0:Sl Nat):∀s,c8 (YT a_1 cmp_3_c0 s) (dJ a_1 cmp_3_c0 s):=by
 intro s;unfold YT dJ
 repeat' first
  |with_reducible apply xn
  |with_reducible refine c8.cond ?_ ?_
  |with_reducible refine c8.bind ?_ (fun _=>?_)
  |(split<;>try dsimp only)
  |with_reducible exact c8.refl _
def dm(a_1:Int)(b_2:Int)(cmp_3_c0:Sl Nat):(Int×Sl Int)->Option ((Int×Sl Int)⊕(Sl Int)):=fun(i4,s5)=>
 bif decide (i4<b_2)then((jm 100000 (YT a_1 cmp_3_c0) (i4,s5)).bind fun s19=>
 some (.inl (wr .i64 (i4+1),s19)))else
 (some (.inr s5))
theorem jq(a_1:Int)(b_2:Int)(cmp_3_c0:Sl Nat):∀s,c8 (dm a_1 b_2 cmp_3_c0 s) (dH a_1 b_2 cmp_3_c0 s):=by
 intro s;unfold dm dH
 repeat' first
  |with_reducible apply jr
  |with_reducible refine c8.loop (fun _=>?_) _ _
  |with_reducible refine c8.cond ?_ ?_
  |with_reducible refine c8.bind ?_ (fun _=>?_)
  |(split<;>try dsimp only)
  |with_reducible exact c8.refl _
def cK(data_0:Sl Int)(a_1:Int)(b_2:Int)(cmp_3_c0:Sl Nat):Option (Sl Int):=
 (jm 100000 (dm a_1 b_2 cmp_3_c0) (wr .i64 (a_1+1),data_0)).bind fun s20=>
 some s20
theorem fY(data_0:Sl Int)(a_1:Int)(b_2:Int)(cmp_3_c0:Sl Nat):c8 (cK data_0 a_1 b_2 cmp_3_c0) (ck data_0 a_1 b_2 cmp_3_c0):=by
 unfold cK ck
 repeat' first
  |with_reducible apply jq
  |with_reducible refine c8.loop (fun _=>?_) _ _
  |with_reducible refine c8.bind ?_ (fun _=>?_)
  |(split<;>try dsimp only)
  |with_reducible exact c8.refl _
def eO(n_1:Int)(cmp_2_c0:Sl Nat):(Int×Int×Sl Int)->Option ((Int×Int×Sl Int)⊕(Int×Sl Int)):=fun(i6,i7,s8)=>
 bif decide (i7<=n_1)then((cK s8 i6 i7 cmp_2_c0).bind fun s9=>
 (jF s9 s8).bind fun _=>
 some (.inl (i7,wr .i64 (i7+20),s9)))else
 (some (.inr (i6,s8)))
theorem kL(n_1:Int)(cmp_2_c0:Sl Nat):∀s,c8 (eO n_1 cmp_2_c0 s) (ff n_1 cmp_2_c0 s):=by
 intro s;unfold eO ff
 repeat' first
  |with_reducible apply fY
  |with_reducible refine c8.cond ?_ ?_
  |with_reducible refine c8.bind ?_ (fun _=>?_)
  |(split<;>try dsimp only)
  |with_reducible exact c8.refl _
def eN(n_1:Int)(cmp_2_c0:Sl Nat)(i16:Int):(Int×Int×Sl Int)->Option ((Int×Int×Sl Int)⊕(Int×Sl Int)):=fun(i23,i24,s25)=>
 bif decide (i24<=n_1)then((Cz s25 i23 (wr .i64 (i23+i16)) i24 cmp_2_c0).bind fun s26=>
 (jF s26 s25).bind fun _=>
 some (.inl (i24,wr .i64 (i24+(wr .i64 (2*i16))),s26)))else
 (some (.inr (i23,s25)))
theorem kK(n_1:Int)(cmp_2_c0:Sl Nat)(i16:Int):∀s,c8 (eN n_1 cmp_2_c0 i16 s) (cG n_1 cmp_2_c0 i16 s):=by
 intro s;unfold eN cG
 repeat' first
  |with_reducible apply zq
  |with_reducible refine c8.cond ?_ ?_
  |with_reducible refine c8.bind ?_ (fun _=>?_)
  |(split<;>try dsimp only)
  |with_reducible exact c8.refl _
def eM(n_1:Int)(cmp_2_c0:Sl Nat):(Int×Sl Int)->Option ((Int×Sl Int)⊕(Sl Int)):=fun(i16,s17)=>
 bif decide (i16<n_1)then((jm 100000 (eN n_1 cmp_2_c0 i16) (0,wr .i64 (2*i16),s17)).bind fun(i27,s28)=>
 (bif decide ((wr .i64 (i27+i16))<n_1)then((Cz s28 i27 (wr .i64 (i27+i16)) n_1 cmp_2_c0).bind fun s29=>
 (jF s29 s28).bind fun _=>
 some s29)else
 (some s28):Option (Sl Int)).bind fun s30=>
 some (.inl (wr .i64 (i16*2),s30)))else
 (some (.inr s17))
theorem kJ(n_1:Int)(cmp_2_c0:Sl Nat):∀s,c8 (eM n_1 cmp_2_c0 s) (cF n_1 cmp_2_c0 s):=by
 intro s;unfold eM cF
 repeat' first
  |with_reducible apply kK
  |with_reducible apply zq
  |with_reducible refine c8.loop (fun _=>?_) _ _
  |with_reducible refine c8.cond ?_ ?_
  |with_reducible refine c8.bind ?_ (fun _=>?_)
  |(split<;>try dsimp only)
  |with_reducible exact c8.refl _
def fx(data_0:Sl Int)(n_1:Int)(cmp_2_c0:Sl Nat):Option (Sl Int):=
 (jm 100000 (eO n_1 cmp_2_c0) (0,20,data_0)).bind fun(i10,s11)=>
 (cK s11 i10 n_1 cmp_2_c0).bind fun s12=>
 (jF s12 s11).bind fun _=>
 (jm 100000 (eM n_1 cmp_2_c0) (20,s12)).bind fun s31=>
 some s31
theorem ly(data_0:Sl Int)(n_1:Int)(cmp_2_c0:Sl Nat):c8 (fx data_0 n_1 cmp_2_c0) (cP data_0 n_1 cmp_2_c0):=by
 unfold fx cP
 repeat' first
  |with_reducible apply kL
  |with_reducible apply fY
  |with_reducible apply kJ
  |with_reducible refine c8.loop (fun _=>?_) _ _
  |with_reducible refine c8.bind ?_ (fun _=>?_)
  |(split<;>try dsimp only)
  |with_reducible exact c8.refl _
def YU(x_0:Sl Int)(cmp_1_c0:Sl Nat):Option (Sl Int):=
 (fx x_0 (x_0.l.length:Int) cmp_1_c0).bind fun s1=>
 (jF s1 x_0).bind fun _=>
 some s1
theorem km(x_0:Sl Int)(cmp_1_c0:Sl Nat):c8 (YU x_0 cmp_1_c0) (bS x_0 cmp_1_c0):=by
 unfold YU bS
 repeat' first
  |with_reducible apply ly
  |with_reducible refine c8.bind ?_ (fun _=>?_)
  |(split<;>try dsimp only)
  |with_reducible exact c8.refl _
def cY(a_1:Int)(b_2:Int):(Int×Sl aE)->Option ((Int×Sl aE)⊕(Sl aE)):=fun(i4,s5)=>
 bif decide (i4<b_2)then((jm 100000 (fC a_1) (i4,s5)).bind fun s19=>
 some (.inl (wr .i64 (i4+1),s19)))else
 (some (.inr s5))
theorem iG(a_1:Int)(b_2:Int):∀s,c8 (cY a_1 b_2 s) (c9 a_1 b_2 s):=by
 intro s;unfold cY c9
 repeat' first
  |with_reducible refine c8.loop (fun _=>?_) _ _
  |with_reducible refine c8.cond ?_ ?_
  |with_reducible refine c8.bind ?_ (fun _=>?_)
  |(split<;>try dsimp only)
  |with_reducible exact c8.refl _
def di(data_0:Sl aE)(a_1:Int)(b_2:Int):Option (Sl aE):=
 (jm 100000 (cY a_1 b_2) (wr .i64 (a_1+1),data_0)).bind fun s20=>
 some s20
theorem je(data_0:Sl aE)(a_1:Int)(b_2:Int):c8 (di data_0 a_1 b_2) (bz data_0 a_1 b_2):=by
 unfold di bz
 repeat' first
  |with_reducible apply iG
  |with_reducible refine c8.loop (fun _=>?_) _ _
  |with_reducible refine c8.bind ?_ (fun _=>?_)
  |(split<;>try dsimp only)
  |with_reducible exact c8.refl _
def dG:(Int×Int×Int×Bool×Bool×Sl aE)->Option ((Int×Int×Int×Bool×Bool×Sl aE)⊕(Sl aE)):=fun(i12,i13,i14,b15,b16,s17)=>
 bif decide ((wr .i64 (i13-i12))<=12)then((di s17 i12 i13).bind fun s18=>
 (jF s18 s17).bind fun _=>
 some (.inr s18))else
 (bif(i14==0)then(none)else
 (bif(!b15)then(none)else
 (none)))
theorem jR:∀s,c8 (dG s) (ci s):=by
 intro s;unfold dG ci
 repeat' first
  |with_reducible apply je
  |with_reducible refine c8.cond ?_ ?_
  |with_reducible refine c8.bind ?_ (fun _=>?_)
  |(split<;>try dsimp only)
  |with_reducible exact c8.refl _
def d_(data_0:Sl aE)(a_1:Int)(b_2:Int)(limit_3:Int):Option (Sl aE):=
 (jm 100000 (dG) (a_1,b_2,limit_3,true,true,data_0)).bind fun s19=>
 some s19
theorem kj(data_0:Sl aE)(a_1:Int)(b_2:Int)(limit_3:Int):c8 (d_ data_0 a_1 b_2 limit_3) (ct data_0 a_1 b_2 limit_3):=by
 unfold d_ ct
 repeat' first
  |with_reducible apply jR
  |with_reducible refine c8.loop (fun _=>?_) _ _
  |with_reducible refine c8.bind ?_ (fun _=>?_)
  |(split<;>try dsimp only)
  |with_reducible exact c8.refl _
def dD(x_0:Sl aE):Option (Sl aE):=
 (m7 (wr .u64 (x_0.l.length:Int))).bind fun r1=>
 (d_ x_0 0 (x_0.l.length:Int) r1).bind fun s2=>
 (jF s2 x_0).bind fun _=>
 some s2
theorem jB(x_0:Sl aE):c8 (dD x_0) (b_ x_0):=by
 unfold dD b_
 repeat' first
  |with_reducible apply kj
  |with_reducible refine c8.bind ?_ (fun _=>?_)
  |(split<;>try dsimp only)
  |with_reducible exact c8.refl _
def qZ(t_0:aj)(sw_1:Int):Option (Sl aE):=
 (jm 100000 (jc t_0 sw_1) (0,Sl.nil)).bind fun s11=>
 (dD s11).bind fun s12=>
 (jF s12 s11).bind fun _=>
 some s12
theorem vV(t_0:aj)(sw_1:Int):c8 (qZ t_0 sw_1) (oQ t_0 sw_1):=by
 unfold qZ oQ
 repeat' first
  |with_reducible apply jB
  |with_reducible refine c8.loop (fun _=>?_) _ _
  |with_reducible refine c8.bind ?_ (fun _=>?_)
  |(split<;>try dsimp only)
  |with_reducible exact c8.refl _
def oT(t_0:aj)(w_1:Sl Nat):(Sl Int×Sl Nat)->Option ((Sl Int×Sl Nat)⊕(Sl Nat)):=fun(s16,s17)=>
 bif decide ((s16.l.length:Int)>0)then((YU s16 s17).bind fun s18=>
 (jF s18 s16).bind fun _=>
 (cZ 0 s18.l.length).bind fun n19=>
 (o5 s18.l 1 s18.l.length).bind fun l20=>
 (qZ t_0 (gt s18.l n19)).bind fun r21=>
 (jm 100000 (kN w_1 n19 s18 r21) (0,s17)).bind fun s33=>
 some (.inl ((s18.to l20),s33)))else
 (some (.inr s17))
theorem v6(t_0:aj)(w_1:Sl Nat):∀s,c8 (oT t_0 w_1 s) (kM t_0 w_1 s):=by
 intro s;unfold oT kM
 repeat' first
  |with_reducible apply km
  |with_reducible apply vV
  |with_reducible refine c8.loop (fun _=>?_) _ _
  |with_reducible refine c8.cond ?_ ?_
  |with_reducible refine c8.bind ?_ (fun _=>?_)
  |(split<;>try dsimp only)
  |with_reducible exact c8.refl _
def pd(t_0:aj)(w_1:Sl Nat)(sw_2:Int):Option (Sl Nat):=
 (mT t_0 w_1).bind fun r1=>
 bif(((!r1)||(decide (sw_2<0)))||(decide (sw_2>=(aj.ah t_0))))then(some Sl.nil)else
 ((sf 1).bind fun r2=>
 (gZ (Sl.mk [r2]) (aj.ah t_0)).bind fun s3=>
 (cZ sw_2 s3.l.length).bind fun n4=>
 (A0 0 (aj.ah t_0) (aj.ah t_0)).bind fun l5=>
 (jm 100000 (kO l5) (0,(Sl.mk l5))).bind fun s12=>
 (jm 100000 (oT t_0 w_1) (s12,(Sl.mk (s3.l.set n4 0)))).bind fun s34=>
 some s34)
theorem t4(t_0:aj)(w_1:Sl Nat)(sw_2:Int):c8 (pd t_0 w_1 sw_2) (gD t_0 w_1 sw_2):=by
 unfold pd gD
 repeat' first
  |with_reducible apply qr
  |with_reducible apply nY
  |with_reducible apply v6
  |with_reducible refine c8.loop (fun _=>?_) _ _
  |with_reducible refine c8.cond ?_ ?_
  |with_reducible refine c8.bind ?_ (fun _=>?_)
  |(split<;>try dsimp only)
  |with_reducible exact c8.refl _
def iJ(x_0:Sl Int)(count_1:Int):Option (Sl Int):=
 bif decide (count_1<0)then(none)else
 ((nm (wr .u64 (x_0.l.length:Int)) (wr .u64 count_1)).bind fun(r1,r2)=>
 bif((decide (r1>0))||(decide (r2>9223372036854775807)))then(none)else
 ((A0 0 (wr .i64 r2) (wr .i64 r2)).bind fun l3=>
 (jm 100000 (mS) (((min x_0.l.length l3.length:Nat):Int),(Sl.mk (A4 l3 0 l3.length x_0.l)))).bind fun s11=>
 some s11))
theorem mR(x_0:Sl Int)(count_1:Int):c8 (iJ x_0 count_1) (fy x_0 count_1):=by
 unfold iJ fy
 repeat' first
  |with_reducible apply se
  |with_reducible refine c8.loop (fun _=>?_) _ _
  |with_reducible refine c8.cond ?_ ?_
  |with_reducible refine c8.bind ?_ (fun _=>?_)
  |(split<;>try dsimp only)
  |with_reducible exact c8.refl _
def lj(s_0:Sl Int)(v_1:Int):Option Int:=
 (jm 100000 (gC s_0 v_1) 0).bind fun
 |.inl i4=>(some i4)
 |.inr _=>(some (-1))
theorem rW(s_0:Sl Int)(v_1:Int):c8 (lj s_0 v_1) (iv s_0 v_1):=by
 unfold lj iv
 repeat' first
  |with_reducible refine c8.loop (fun _=>?_) _ _
  |with_reducible refine c8.bind ?_ (fun _=>?_)
  |(split<;>try dsimp only)
  |with_reducible exact c8.refl _
def hN(s_0:Sl Int)(v_1:Int):Option Bool:=
 (lj s_0 v_1).bind fun r1=>
 some (decide (r1>=0))
theorem ma(s_0:Sl Int)(v_1:Int):c8 (hN s_0 v_1) (eu s_0 v_1):=by
 unfold hN eu
 repeat' first
  |with_reducible apply rW
  |with_reducible refine c8.bind ?_ (fun _=>?_)
  |(split<;>try dsimp only)
  |with_reducible exact c8.refl _
def o_(t_0:aj)(w_1:Sl Nat)(costs_2:Sl Nat)(at_3:Int):Option (Sl aE):=
 (cZ at_3 costs_2.l.length).bind fun n1=>
 (oh (gt costs_2.l n1) 1).bind fun r2=>
 bif r2 then(some Sl.nil)else
 ((qZ t_0 at_3).bind fun r3=>
 (jm 100000 (mb w_1 costs_2 at_3 r3) (0,Sl.nil)).bind fun s18=>
 some s18)
theorem tZ(t_0:aj)(w_1:Sl Nat)(costs_2:Sl Nat)(at_3:Int):c8 (o_ t_0 w_1 costs_2 at_3) (md t_0 w_1 costs_2 at_3):=by
 unfold o_ md
 repeat' first
  |with_reducible apply u5
  |with_reducible apply vV
  |with_reducible refine c8.loop (fun _=>?_) _ _
  |with_reducible refine c8.cond ?_ ?_
  |with_reducible refine c8.bind ?_ (fun _=>?_)
  |(split<;>try dsimp only)
  |with_reducible exact c8.refl _
def c_(s_0:Sl aE)(f_1_c0:Sl Int)(f_1_c1:Int):Option Int:=
 (jm 100000 (bI s_0 f_1_c0 f_1_c1) 0).bind fun
 |.inl i5=>(some i5)
 |.inr _=>(some (-1))
theorem iV(s_0:Sl aE)(f_1_c0:Sl Int)(f_1_c1:Int):c8 (c_ s_0 f_1_c0 f_1_c1) (bP s_0 f_1_c0 f_1_c1):=by
 unfold c_ bP
 repeat' first
  |with_reducible refine c8.loop (fun _=>?_) _ _
  |with_reducible refine c8.bind ?_ (fun _=>?_)
  |(split<;>try dsimp only)
  |with_reducible exact c8.refl _
def cR(s_0:Sl aE)(f_1_c0:Sl Int)(f_1_c1:Int):Option Bool:=
 (c_ s_0 f_1_c0 f_1_c1).bind fun r1=>
 some (decide (r1>=0))
theorem iw(s_0:Sl aE)(f_1_c0:Sl Int)(f_1_c1:Int):c8 (cR s_0 f_1_c0 f_1_c1) (bp s_0 f_1_c0 f_1_c1):=by
 unfold cR bp
 repeat' first
  |with_reducible apply iV
  |with_reducible refine c8.bind ?_ (fun _=>?_)
  |(split<;>try dsimp only)
  |with_reducible exact c8.refl _
def oS(t_0:aj)(w_1:Sl Nat)(r1:Sl Nat)(i7:Int)(s8:Sl Int):(Int×Sl Int)->Option ((Int×Sl Int)⊕(Sl Int)):=fun(i13,s14)=>
 bif decide (i13<(s8.l.length:Int))then((((cZ i13 s14.l.length).bind fun n15=>
 bif decide ((gt s14.l n15)<0)then((o_ t_0 w_1 r1 i13).bind fun r16=>
 (cR r16 s14 i7).bind fun r17=>
 some r17)else
 (some false):Option Bool).bind fun b18=>
 bif b18 then((cZ i13 s14.l.length).bind fun n19=>
 some (Sl.mk (s14.l.set n19 (wr .i64 (i7+1)))))else
 (some s14):Option (Sl Int)).bind fun s20=>
 some (.inl (wr .i64 (i13+1),s20)))else
 (some (.inr s14))
theorem v5(t_0:aj)(w_1:Sl Nat)(r1:Sl Nat)(i7:Int)(s8:Sl Int):∀s,c8 (oS t_0 w_1 r1 i7 s8 s) (jC t_0 w_1 r1 i7 s8 s):=by
 intro s;unfold oS jC
 repeat' first
  |with_reducible apply tZ
  |with_reducible apply iw
  |with_reducible refine c8.cond ?_ ?_
  |with_reducible refine c8.bind ?_ (fun _=>?_)
  |(split<;>try dsimp only)
  |with_reducible exact c8.refl _
def oR(t_0:aj)(w_1:Sl Nat)(r1:Sl Nat):(Int×Sl Int)->Option ((Int×Sl Int)⊕(Sl Int)):=fun(i7,s8)=>
 (hN s8 i7).bind fun r9=>
 bif r9 then((jm 100000 (oS t_0 w_1 r1 i7 s8) (0,s8)).bind fun s21=>
 some (.inl (wr .i64 (i7+1),s21)))else
 (some (.inr s8))
theorem vZ(t_0:aj)(w_1:Sl Nat)(r1:Sl Nat):∀s,c8 (oR t_0 w_1 r1 s) (iz t_0 w_1 r1 s):=by
 intro s;unfold oR iz
 repeat' first
  |with_reducible apply ma
  |with_reducible apply v5
  |with_reducible refine c8.loop (fun _=>?_) _ _
  |with_reducible refine c8.cond ?_ ?_
  |with_reducible refine c8.bind ?_ (fun _=>?_)
  |(split<;>try dsimp only)
  |with_reducible exact c8.refl _
def rG(t_0:aj)(w_1:Sl Nat)(sw_2:Int):Option (Sl Int):=
 (pd t_0 w_1 sw_2).bind fun r1=>
 bif r1.fT then(some Sl.nil)else
 ((iJ (Sl.mk [(-1)]) (aj.ah t_0)).bind fun s2=>
 (cZ sw_2 s2.l.length).bind fun n3=>
 (jm 100000 (oR t_0 w_1 r1) (0,(Sl.mk (s2.l.set n3 0)))).bind fun s22=>
 some s22)
theorem zD(t_0:aj)(w_1:Sl Nat)(sw_2:Int):c8 (rG t_0 w_1 sw_2) (kc t_0 w_1 sw_2):=by
 unfold rG kc
 repeat' first
  |with_reducible apply t4
  |with_reducible apply mR
  |with_reducible apply vZ
  |with_reducible refine c8.loop (fun _=>?_) _ _
  |with_reducible refine c8.cond ?_ ?_
  |with_reducible refine c8.bind ?_ (fun _=>?_)
  |(split<;>try dsimp only)
  |with_reducible exact c8.refl _
def pG(t_0:aj)(w_1:Sl Nat)(r3:Sl Nat)(r4:Sl Int)(s5:Sl Int):(Int×Sl Int)->Option ((Int×Sl Int)⊕(Sl Int)):=fun(i9,s10)=>
 bif decide (i9<(s5.l.length:Int))then((o_ t_0 w_1 r3 i9).bind fun r11=>
 (jm 100000 (jj r4 i9 r11) (0,s10)).bind fun s21=>
 some (.inl (wr .i64 (i9+1),s21)))else
 (some (.inr s10))
theorem xm(t_0:aj)(w_1:Sl Nat)(r3:Sl Nat)(r4:Sl Int)(s5:Sl Int):∀s,c8 (pG t_0 w_1 r3 r4 s5 s) (ko t_0 w_1 r3 r4 s5 s):=by
 intro s;unfold pG ko
 repeat' first
  |with_reducible apply tZ
  |with_reducible refine c8.loop (fun _=>?_) _ _
  |with_reducible refine c8.cond ?_ ?_
  |with_reducible refine c8.bind ?_ (fun _=>?_)
  |(split<;>try dsimp only)
  |with_reducible exact c8.refl _
def sP(t_0:aj)(w_1:Sl Nat)(h_2:Int):Option (Sl Int×Int):=
 (mT t_0 w_1).bind fun r1=>
 bif(!r1)then(some (Sl.nil,2))else
 (bif((decide (h_2<0))||(decide (h_2>=(((aj.bg t_0).l).length:Int))))then(some (Sl.nil,7))else
 ((cZ h_2 ((aj.bg t_0).l).length).bind fun n2=>
 (pd t_0 w_1 (dQ.At (gt ((aj.bg t_0).l) n2))).bind fun r3=>
 (rG t_0 w_1 (dQ.At (gt ((aj.bg t_0).l) n2))).bind fun r4=>
 (iJ (Sl.mk [(-1)]) (aj.ah t_0)).bind fun s5=>
 (jm 100000 (pG t_0 w_1 r3 r4 s5) (0,s5)).bind fun s22=>
 (cZ h_2 ((aj.bg t_0).l).length).bind fun n23=>
 (cZ (dQ.At (gt ((aj.bg t_0).l) n2)) s22.l.length).bind fun n24=>
 some ((Sl.mk (s22.l.set n24 (dQ.f_ (gt ((aj.bg t_0).l) n23)))),0)))
theorem A9(t_0:aj)(w_1:Sl Nat)(h_2:Int):c8 (sP t_0 w_1 h_2) (kp t_0 w_1 h_2):=by
 unfold sP kp
 repeat' first
  |with_reducible apply qr
  |with_reducible apply t4
  |with_reducible apply zD
  |with_reducible apply mR
  |with_reducible apply xm
  |with_reducible refine c8.loop (fun _=>?_) _ _
  |with_reducible refine c8.cond ?_ ?_
  |with_reducible refine c8.bind ?_ (fun _=>?_)
  |(split<;>try dsimp only)
  |with_reducible exact c8.refl _
def nZ(t_0:aj)(w_1:Sl Nat):(Int×Sl (Sl Int))->Option ((Int×Sl (Sl Int))⊕(Int⊕(Sl (Sl Int)))):=fun(i6,s7)=>
 bif decide (i6<(((aj.bg t_0).l).length:Int))then((sP t_0 w_1 i6).bind fun(r8,r9)=>
 (hN r8 (-1)).bind fun r10=>
 bif r10 then(some (.inr (.inl 7)))else
 ((jm 100000 (jZ r8) (0,s7)).bind fun s20=>
 some (.inl (wr .i64 (i6+1),s20))))else
 (some (.inr (.inr s7)))
theorem vu(t_0:aj)(w_1:Sl Nat):∀s,c8 (nZ t_0 w_1 s) (fS t_0 w_1 s):=by
 intro s;unfold nZ fS
 repeat' first
  |with_reducible apply A9
  |with_reducible apply ma
  |with_reducible refine c8.loop (fun _=>?_) _ _
  |with_reducible refine c8.cond ?_ ?_
  |with_reducible refine c8.bind ?_ (fun _=>?_)
  |(split<;>try dsimp only)
  |with_reducible exact c8.refl _
def qs(t_0:aj)(w_1:Sl Nat):Option (Sl (Sl Int)×Int):=
 (mT t_0 w_1).bind fun r1=>
 bif(!r1)then(some (Sl.nil,2))else
 ((A0 (Sl.nil:Sl Int) (aj.ah t_0) (aj.ah t_0)).bind fun l2=>
 (jm 100000 (nZ t_0 w_1) (0,(Sl.mk l2))).bind fun
 |.inl i21=>(some (Sl.nil,i21))
 |.inr s22=>(some (s22,0)))
theorem yz(t_0:aj)(w_1:Sl Nat):c8 (qs t_0 w_1) (ip t_0 w_1):=by
 unfold qs ip
 repeat' first
  |with_reducible apply qr
  |with_reducible apply vu
  |with_reducible refine c8.loop (fun _=>?_) _ _
  |with_reducible refine c8.cond ?_ ?_
  |with_reducible refine c8.bind ?_ (fun _=>?_)
  |(split<;>try dsimp only)
  |with_reducible exact c8.refl _
def u7:Option Bool:=
 (qs (⟨3,(Sl.mk [(⟨0,0,1,0,1,1⟩:aX),(⟨0,1,2,0,1,1⟩:aX),(⟨2,1,1,1,1,1⟩:aX)]),(Sl.mk [(⟨1,5⟩:dQ)])⟩:aj) (Sl.mk [4613937818241073152,4607182418800017408,4607182418800017408])).bind fun(r1,r2)=>
 (bif((r2==0)&&((r1.l.length:Int)==3))then((cZ 0 r1.l.length).bind fun n3=>
 (cZ 0 ((gt r1.l n3).l).length).bind fun n4=>
 bif((gt ((gt r1.l n3).l) n4)==1)then((cZ 1 r1.l.length).bind fun n5=>
 (cZ 0 ((gt r1.l n5).l).length).bind fun n6=>
 bif((gt ((gt r1.l n5).l) n6)==5)then((cZ 2 r1.l.length).bind fun n7=>
 (cZ 0 ((gt r1.l n7).l).length).bind fun n8=>
 some ((gt ((gt r1.l n7).l) n8)==1))else
 (some false))else
 (some false))else
 (some false):Option Bool).bind fun b9=>
 some b9
theorem Ae:c8 (u7) (mr):=by
 unfold u7 mr
 repeat' first
  |with_reducible apply yz
  |with_reducible refine c8.cond ?_ ?_
  |with_reducible refine c8.bind ?_ (fun _=>?_)
  |(split<;>try dsimp only)
  |with_reducible exact c8.refl _
theorem xI:mr=some true:=Ae _ (by decide+kernel)
end Go.Proofs.Ytingpmogbibghaa.S
