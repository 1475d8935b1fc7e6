/- gL answers true: by running its twin. Conditions: none. -/
import Derived.Test.YthcplpfiidlinaaDoorJ
import Derived.Test.YthcplpfiidlinaaDoorTwin
open Go.Ev Go
noncomputable section
namespace Go.Proofs.YthcplpfiidlinaaDoor.J
def qh(t_0:ah):Option (Sl bn):=
 (ic 100000 (lc t_0) (0,Sl.nil)).bind fun s8=>
 (ic 100000 (k_ t_0) (0,s8)).bind fun s15=>
 some s15
theorem xZ(t_0:ah):cU (qh t_0) (mE t_0):=by
 unfold qh mE
 repeat' first
  |with_reducible refine cU.loop (fun _=>?_) _ _
  |with_reducible refine cU.bind ?_ (fun _=>?_)
  |(split<;>try dsimp only)
  |with_reducible exact cU.refl _
def rf(t_0:ah):Option Bool:=
 bif((((decide ((ah.br t_0)<1))||(decide ((ah.br t_0)>8)))||(decide ((((ah.bW t_0).l).length:Int)>24)))||(decide ((((ah.bd t_0).l).length:Int)>8)))then(some false)else
 ((ic 100000 (lV t_0) 0).bind fun
 |.inl b4=>(some b4)
 |.inr _=>((qh t_0).bind fun r5=>
 (ic 100000 (iI t_0 r5) (0,(Mp.none:Mp bn Int))).bind fun
 |.inl b13=>(some b13)
 |.inr _=>(some true)))
theorem zR(t_0:ah):cU (rf t_0) (nD t_0):=by
 unfold rf nD
 repeat' first
  |with_reducible apply xZ
  |with_reducible refine cU.loop (fun _=>?_) _ _
  |with_reducible refine cU.cond ?_ ?_
  |with_reducible refine cU.bind ?_ (fun _=>?_)
  |(split<;>try dsimp only)
  |with_reducible exact cU.refl _
def eS(s_0:Sl Int):Option Int:=
 (ic 100000 (cL s_0) 0).bind fun
 |.inl i5=>(some i5)
 |.inr _=>(some (-1))
theorem ky(s_0:Sl Int):cU (eS s_0) (c9 s_0):=by
 unfold eS c9
 repeat' first
  |with_reducible refine cU.loop (fun _=>?_) _ _
  |with_reducible refine cU.bind ?_ (fun _=>?_)
  |(split<;>try dsimp only)
  |with_reducible exact cU.refl _
def er(s_0:Sl Int):Option Bool:=
 (eS s_0).bind fun r1=>
 some (decide (r1>=0))
theorem jV(s_0:Sl Int):cU (er s_0) (bV s_0):=by
 unfold er bV
 repeat' first
  |with_reducible apply ky
  |with_reducible refine cU.bind ?_ (fun _=>?_)
  |(split<;>try dsimp only)
  |with_reducible exact cU.refl _
def nI(t_0:ah)(r_1:Sl (Sl Int)):Int->Option (Int⊕(Bool⊕Unit)):=fun i3=>
 bif decide (i3<(r_1.l.length:Int))then((e9 i3 r_1.l.length).bind fun n4=>
 (bif((((gt r_1.l n4).l).length:Int) !=(((ah.bd t_0).l).length:Int))then(some true)else
 ((er (gt r_1.l n4)).bind fun r5=>
 some r5):Option Bool).bind fun b6=>
 bif b6 then(some (.inr (.inl false)))else
 (some (.inl (wr .i64 (i3+1)))))else
 (some (.inr (.inr ())))
theorem u4(t_0:ah)(r_1:Sl (Sl Int)):∀s,cU (nI t_0 r_1 s) (jX t_0 r_1 s):=by
 intro s;unfold nI jX
 repeat' first
  |with_reducible apply jV
  |with_reducible refine cU.cond ?_ ?_
  |with_reducible refine cU.bind ?_ (fun _=>?_)
  |(split<;>try dsimp only)
  |with_reducible exact cU.refl _
def lX(t_0:ah)(r_1:Sl (Sl Int)):Option Bool:=
 (rf t_0).bind fun r1=>
 bif((!r1)||((r_1.l.length:Int) !=(ah.br t_0)))then(some false)else
 ((ic 100000 (nI t_0 r_1) 0).bind fun
 |.inl b7=>(some b7)
 |.inr _=>(some true))
theorem pw(t_0:ah)(r_1:Sl (Sl Int)):cU (lX t_0 r_1) (js t_0 r_1):=by
 unfold lX js
 repeat' first
  |with_reducible apply zR
  |with_reducible apply u4
  |with_reducible refine cU.loop (fun _=>?_) _ _
  |with_reducible refine cU.cond ?_ ?_
  |with_reducible refine cU.bind ?_ (fun _=>?_)
  |(split<;>try dsimp only)
  |with_reducible exact cU.refl _
def kh(s_0:Sl Int)(v_1:Int):Option Int:=
 (ic 100000 (ga s_0 v_1) 0).bind fun
 |.inl i4=>(some i4)
 |.inr _=>(some (-1))
theorem qB(s_0:Sl Int)(v_1:Int):cU (kh s_0 v_1) (h_ s_0 v_1):=by
 unfold kh h_
 repeat' first
  |with_reducible refine cU.loop (fun _=>?_) _ _
  |with_reducible refine cU.bind ?_ (fun _=>?_)
  |(split<;>try dsimp only)
  |with_reducible exact cU.refl _
def fP(s_0:Sl Int)(v_1:Int):Option Bool:=
 (kh s_0 v_1).bind fun r1=>
 some (decide (r1>=0))
theorem iT(s_0:Sl Int)(v_1:Int):cU (fP s_0 v_1) (cO s_0 v_1):=by
 unfold fP cO
 repeat' first
  |with_reducible apply qB
  |with_reducible refine cU.bind ?_ (fun _=>?_)
  |(split<;>try dsimp only)
  |with_reducible exact cU.refl _
def mV(l_0:Sl Int):Option Bool:=
 (bif decide ((l_0.l.length:Int)>0)then((qu l_0.l 0 (wr .i64 ((l_0.l.length:Int)-1))).bind fun l1=>
 (e9 (wr .i64 ((l_0.l.length:Int)-1)) l_0.l.length).bind fun n2=>
 (fP (l_0.to l1) (gt l_0.l n2)).bind fun r3=>
 some r3)else
 (some false):Option Bool).bind fun b4=>
 some b4
theorem uA(l_0:Sl Int):cU (mV l_0) (ir l_0):=by
 unfold mV ir
 repeat' first
  |with_reducible apply iT
  |with_reducible refine cU.cond ?_ ?_
  |with_reducible refine cU.bind ?_ (fun _=>?_)
  |(split<;>try dsimp only)
  |with_reducible exact cU.refl _
def pZ(t_0:ah)(sw_1:Int)(port_2:Int):Option (Int×Int×Int×Bool):=
 (ic 100000 (mR t_0 sw_1 port_2) 0).bind fun
 |.inl (i4,i5,i6,b7)=>(some (i4,i5,i6,b7))
 |.inr _=>(some (0,0,0,false))
theorem uV(t_0:ah)(sw_1:Int)(port_2:Int):cU (pZ t_0 sw_1 port_2) (nE t_0 sw_1 port_2):=by
 unfold pZ nE
 repeat' first
  |with_reducible refine cU.loop (fun _=>?_) _ _
  |with_reducible refine cU.bind ?_ (fun _=>?_)
  |(split<;>try dsimp only)
  |with_reducible exact cU.refl _
def rl(t_0:ah)(r_1:Sl (Sl Int))(sw_2:Int)(h_3:Int):Option (Int×Bool):=
 (mw r_1 sw_2 h_3).bind fun(r1,r2)=>
 bif(!r2)then(some (0,false))else
 ((pZ t_0 sw_2 r1).bind fun(r3,r4,r5,r6)=>
 some (r3,r6))
theorem zZ(t_0:ah)(r_1:Sl (Sl Int))(sw_2:Int)(h_3:Int):cU (rl t_0 r_1 sw_2 h_3) (nJ t_0 r_1 sw_2 h_3):=by
 unfold rl nJ
 repeat' first
  |with_reducible apply uV
  |with_reducible refine cU.cond ?_ ?_
  |with_reducible refine cU.bind ?_ (fun _=>?_)
  |(split<;>try dsimp only)
  |with_reducible exact cU.refl _
def oG(t_0:ah)(r_1:Sl (Sl Int))(h_3:Int):(Sl Int)->Option (Sl Int⊕((Int×Sl Int)⊕Unit)):=fun s6=>
 (mV s6).bind fun r7=>
 bif(!r7)then((e9 (wr .i64 ((s6.l.length:Int)-1)) s6.l.length).bind fun n8=>
 (e9 h_3 ((ah.bd t_0).l).length).bind fun n9=>
 (e9 (gt s6.l n8) r_1.l.length).bind fun n10=>
 (e9 h_3 ((gt r_1.l n10).l).length).bind fun n11=>
 bif decide ((gt ((ah.bd t_0).l) n9)=(⟨gt s6.l n8,gt ((gt r_1.l n10).l) n11⟩:fS))then(some (.inr (.inl (0,s6))))else
 ((rl t_0 r_1 (gt s6.l n8) h_3).bind fun(r12,r13)=>
 bif(!r13)then(some (.inr (.inl (13,Sl.nil))))else
 ((iH (s6.l++[r12])).bind fun l14=>
 some (.inl (Sl.mk l14)))))else
 (some (.inr (.inr ())))
theorem v_(t_0:ah)(r_1:Sl (Sl Int))(h_3:Int):∀s,cU (oG t_0 r_1 h_3 s) (d_ t_0 r_1 h_3 s):=by
 intro s;unfold oG d_
 repeat' first
  |with_reducible apply uA
  |with_reducible apply zZ
  |with_reducible refine cU.cond ?_ ?_
  |with_reducible refine cU.bind ?_ (fun _=>?_)
  |(split<;>try dsimp only)
  |with_reducible exact cU.refl _
def rk(t_0:ah)(r_1:Sl (Sl Int))(sw_2:Int)(h_3:Int):Option (Sl Int×Int):=
 (mw r_1 sw_2 h_3).bind fun(r1,r2)=>
 (bif(!r2)then(some true)else
 ((lX t_0 r_1).bind fun r3=>
 some (!r3)):Option Bool).bind fun b4=>
 bif b4 then(some (Sl.nil,2))else
 ((ic 100000 (oG t_0 r_1 h_3) (Sl.mk [sw_2])).bind fun
 |.inl (i15,s16)=>(some (s16,i15))
 |.inr _=>(some (Sl.nil,12)))
theorem zY(t_0:ah)(r_1:Sl (Sl Int))(sw_2:Int)(h_3:Int):cU (rk t_0 r_1 sw_2 h_3) (jB t_0 r_1 sw_2 h_3):=by
 unfold rk jB
 repeat' first
  |with_reducible apply pw
  |with_reducible apply v_
  |with_reducible refine cU.loop (fun _=>?_) _ _
  |with_reducible refine cU.cond ?_ ?_
  |with_reducible refine cU.bind ?_ (fun _=>?_)
  |(split<;>try dsimp only)
  |with_reducible exact cU.refl _
def px(t_0:ah)(r_1:Sl (Sl Int))(h_2:Int):(Int×Sl Int)->Option ((Int×Sl Int)⊕(Sl Int)):=fun(i5,s6)=>
 bif decide (i5<(r_1.l.length:Int))then((rk t_0 r_1 i5 h_2).bind fun(r7,r8)=>
 (iH (s6.l++[wr .i64 ((r7.l.length:Int)-1)])).bind fun l9=>
 some (.inl (wr .i64 (i5+1),(Sl.mk l9))))else
 (some (.inr s6))
theorem xn(t_0:ah)(r_1:Sl (Sl Int))(h_2:Int):∀s,cU (px t_0 r_1 h_2 s) (gA t_0 r_1 h_2 s):=by
 intro s;unfold px gA
 repeat' first
  |with_reducible apply zY
  |with_reducible refine cU.cond ?_ ?_
  |with_reducible refine cU.bind ?_ (fun _=>?_)
  |(split<;>try dsimp only)
  |with_reducible exact cU.refl _
def sD(t_0:ah)(r_1:Sl (Sl Int))(h_2:Int):Option (Sl Int):=
 (lX t_0 r_1).bind fun r1=>
 bif(((!r1)||(decide (h_2<0)))||(decide (h_2>=(((ah.bd t_0).l).length:Int))))then(some Sl.nil)else
 ((ic 100000 (px t_0 r_1 h_2) (0,Sl.nil)).bind fun s10=>
 some s10)
theorem BN(t_0:ah)(r_1:Sl (Sl Int))(h_2:Int):cU (sD t_0 r_1 h_2) (lD t_0 r_1 h_2):=by
 unfold sD lD
 repeat' first
  |with_reducible apply pw
  |with_reducible apply xn
  |with_reducible refine cU.loop (fun _=>?_) _ _
  |with_reducible refine cU.cond ?_ ?_
  |with_reducible refine cU.bind ?_ (fun _=>?_)
  |(split<;>try dsimp only)
  |with_reducible exact cU.refl _
def oH(t_0:ah)(r_1:Sl (Sl Int)):Int->Option (Int⊕(Bool⊕Unit)):=fun i3=>
 bif decide (i3<(((ah.bd t_0).l).length:Int))then((sD t_0 r_1 i3).bind fun r4=>
 (fP r4 (-1)).bind fun r5=>
 bif r5 then(some (.inr (.inl false)))else
 (some (.inl (wr .i64 (i3+1)))))else
 (some (.inr (.inr ())))
theorem wa(t_0:ah)(r_1:Sl (Sl Int)):∀s,cU (oH t_0 r_1 s) (gY t_0 r_1 s):=by
 intro s;unfold oH gY
 repeat' first
  |with_reducible apply BN
  |with_reducible apply iT
  |with_reducible refine cU.cond ?_ ?_
  |with_reducible refine cU.bind ?_ (fun _=>?_)
  |(split<;>try dsimp only)
  |with_reducible exact cU.refl _
def o5(t_0:ah)(r_1:Sl (Sl Int)):Option Bool:=
 (lX t_0 r_1).bind fun r1=>
 bif(!r1)then(some false)else
 ((ic 100000 (oH t_0 r_1) 0).bind fun
 |.inl b6=>(some b6)
 |.inr _=>(some true))
theorem z6(t_0:ah)(r_1:Sl (Sl Int)):cU (o5 t_0 r_1) (iu t_0 r_1):=by
 unfold o5 iu
 repeat' first
  |with_reducible apply pw
  |with_reducible apply wa
  |with_reducible refine cU.loop (fun _=>?_) _ _
  |with_reducible refine cU.cond ?_ ?_
  |with_reducible refine cU.bind ?_ (fun _=>?_)
  |(split<;>try dsimp only)
  |with_reducible exact cU.refl _
def m7(r_0:aj)(m_1:ae):Option Bool:=
 (bif((ae.uj m_1)==(aj.No r_0))then((fP (aj.RF r_0) (ae.Sw m_1)).bind fun r1=>
 some r1)else
 (some false):Option Bool).bind fun b2=>
 some b2
theorem qp(r_0:aj)(m_1:ae):cU (m7 r_0 m_1) (ko r_0 m_1):=by
 unfold m7 ko
 repeat' first
  |with_reducible apply iT
  |with_reducible refine cU.cond ?_ ?_
  |with_reducible refine cU.bind ?_ (fun _=>?_)
  |(split<;>try dsimp only)
  |with_reducible exact cU.refl _
def kM(r_0:aj)(c_1:ae):Option Bool:=
 (m7 r_0 c_1).bind fun r1=>
 some r1
theorem ry(r_0:aj)(c_1:ae):cU (kM r_0 c_1) (iz r_0 c_1):=by
 unfold kM iz
 repeat' first
  |with_reducible apply qp
  |with_reducible refine cU.bind ?_ (fun _=>?_)
  |(split<;>try dsimp only)
  |with_reducible exact cU.refl _
def cC(s_0:Sl aj)(f_1_c0:ae):Int->Option (Int⊕(Int⊕Unit)):=fun i2=>
 bif decide (i2<(s_0.l.length:Int))then((e9 i2 s_0.l.length).bind fun n3=>
 (kM (gt s_0.l n3) f_1_c0).bind fun r4=>
 bif r4 then(some (.inr (.inl i2)))else
 (some (.inl (wr .i64 (i2+1)))))else
 (some (.inr (.inr ())))
theorem gq(s_0:Sl aj)(f_1_c0:ae):∀s,cU (cC s_0 f_1_c0 s) (bf s_0 f_1_c0 s):=by
 intro s;unfold cC bf
 repeat' first
  |with_reducible apply ry
  |with_reducible refine cU.cond ?_ ?_
  |with_reducible refine cU.bind ?_ (fun _=>?_)
  |(split<;>try dsimp only)
  |with_reducible exact cU.refl _
def cN(s_0:Sl aj)(f_1_c0:ae):Option Int:=
 (ic 100000 (cC s_0 f_1_c0) 0).bind fun
 |.inl i5=>(some i5)
 |.inr _=>(some (-1))
theorem gI(s_0:Sl aj)(f_1_c0:ae):cU (cN s_0 f_1_c0) (bC s_0 f_1_c0):=by
 unfold cN bC
 repeat' first
  |with_reducible apply gq
  |with_reducible refine cU.loop (fun _=>?_) _ _
  |with_reducible refine cU.bind ?_ (fun _=>?_)
  |(split<;>try dsimp only)
  |with_reducible exact cU.refl _
def cD(s_0:Sl aj)(f_1_c0:ae):Option Bool:=
 (cN s_0 f_1_c0).bind fun r1=>
 some (decide (r1>=0))
theorem gr(s_0:Sl aj)(f_1_c0:ae):cU (cD s_0 f_1_c0) (bt s_0 f_1_c0):=by
 unfold cD bt
 repeat' first
  |with_reducible apply gI
  |with_reducible refine cU.bind ?_ (fun _=>?_)
  |(split<;>try dsimp only)
  |with_reducible exact cU.refl _
def jO(x_0:bg)(m_1:ae):Option Bool:=
 (cD (aJ.eI (bg.p x_0)) m_1).bind fun r1=>
 some r1
theorem oz(x_0:bg)(m_1:ae):cU (jO x_0 m_1) (eZ x_0 m_1):=by
 unfold jO eZ
 repeat' first
  |with_reducible apply gr
  |with_reducible refine cU.bind ?_ (fun _=>?_)
  |(split<;>try dsimp only)
  |with_reducible exact cU.refl _
def j7(i13:Int)(s47:Sl am)(i43:Int)(i45:Int)(i46:Int)(n48:Nat)(s16:Sl (Sl Int))(n24:Nat)(i37:Int)(x38:ah)(s39:Sl (Sl Int))(s40:Sl (Sl Int))(s41:Sl ae)(s42:Sl aj)(i44:Int):(Int×Int)->Option ((Int×Int)⊕Int):=fun(i51,i52)=>
 bif decide (i52<(s41.l.length:Int))then(((e9 i52 s41.l.length).bind fun n53=>
 (bif((((ae.Sw (gt s41.l n53))==i13)&&((ae.mC (gt s41.l n53))==i37))&&((ae.oc (gt s41.l n53))==(gt ((gt s16.l n24).l) n48)))then((jO (⟨x38,s39,s40,(⟨s41,s42,i43,i44,i45,i46⟩:bI),s47⟩:bg) (gt s41.l n53)).bind fun r54=>
 some r54)else
 (some false):Option Bool).bind fun b55=>
 bif b55 then(some (wr .i64 (i51+1)))else
 (some i51):Option Int).bind fun i56=>
 some (.inl (i56,wr .i64 (i52+1))))else
 (some (.inr i51))
theorem qo(i13:Int)(s47:Sl am)(i43:Int)(i45:Int)(i46:Int)(n48:Nat)(s16:Sl (Sl Int))(n24:Nat)(i37:Int)(x38:ah)(s39:Sl (Sl Int))(s40:Sl (Sl Int))(s41:Sl ae)(s42:Sl aj)(i44:Int):∀s,cU (j7 i13 s47 i43 i45 i46 n48 s16 n24 i37 x38 s39 s40 s41 s42 i44 s) (dX i13 s47 i43 i45 i46 n48 s16 n24 i37 x38 s39 s40 s41 s42 i44 s):=by
 intro s;unfold j7 dX
 repeat' first
  |with_reducible apply oz
  |with_reducible refine cU.cond ?_ ?_
  |with_reducible refine cU.bind ?_ (fun _=>?_)
  |(split<;>try dsimp only)
  |with_reducible exact cU.refl _
def j6(i13:Int)(s16:Sl (Sl Int))(n24:Nat):(Int×ah×Sl (Sl Int)×Sl (Sl Int)×Sl ae×Sl aj×Int×Int×Int×Int×Sl am)->Option ((Int×ah×Sl (Sl Int)×Sl (Sl Int)×Sl ae×Sl aj×Int×Int×Int×Int×Sl am)⊕(ah×Sl (Sl Int)×Sl (Sl Int)×Sl ae×Sl aj×Int×Int×Int×Int×Sl am)):=fun(i37,x38,s39,s40,s41,s42,i43,i44,i45,i46,s47)=>
 bif decide (i37<(((gt s16.l n24).l).length:Int))then((e9 i37 ((gt s16.l n24).l).length).bind fun n48=>
 (ic 100000 (j7 i13 s47 i43 i45 i46 n48 s16 n24 i37 x38 s39 s40 s41 s42 i44) (0,0)).bind fun i57=>
 (e9 i13 s39.l.length).bind fun n58=>
 (e9 i37 ((gt s39.l n58).l).length).bind fun n59=>
 (bF x38 s39 s40 s41 s42 i43 i44 i45 i46 s47 (((gt ((gt s16.l n24).l) n48) !=(gt ((gt s39.l n58).l) n59))&&(i57 !=1)) 2 i13 i37).bind fun(q60,q61,q62,q63,q64,q65,q66,q67,q68,s69)=>
 some (.inl (wr .i64 (i37+1),q60,q61,q62,q63,q64,q65,q66,q67,q68,s69)))else
 (some (.inr (x38,s39,s40,s41,s42,i43,i44,i45,i46,s47)))
theorem qn(i13:Int)(s16:Sl (Sl Int))(n24:Nat):∀s,cU (j6 i13 s16 n24 s) (eV i13 s16 n24 s):=by
 intro s;unfold j6 eV
 repeat' first
  |with_reducible apply qo
  |with_reducible refine cU.loop (fun _=>?_) _ _
  |with_reducible refine cU.cond ?_ ?_
  |with_reducible refine cU.bind ?_ (fun _=>?_)
  |(split<;>try dsimp only)
  |with_reducible exact cU.refl _
def j5(x_0_now:Sl (Sl Int)):(Int×ah×Sl (Sl Int)×Sl (Sl Int)×Sl ae×Sl aj×Int×Int×Int×Int×Sl am)->Option ((Int×ah×Sl (Sl Int)×Sl (Sl Int)×Sl ae×Sl aj×Int×Int×Int×Int×Sl am)⊕(ah×Sl (Sl Int)×Sl (Sl Int)×Sl ae×Sl aj×Int×Int×Int×Int×Sl am)):=fun(i13,x14,s15,s16,s17,s18,i19,i20,i21,i22,s23)=>
 bif decide (i13<(x_0_now.l.length:Int))then((e9 i13 s16.l.length).bind fun n24=>
 (ic 100000 (j6 i13 s16 n24) (0,x14,s15,s16,s17,s18,i19,i20,i21,i22,s23)).bind fun(x70,s71,s72,s73,s74,i75,i76,i77,i78,s79)=>
 some (.inl (wr .i64 (i13+1),x70,s71,s72,s73,s74,i75,i76,i77,i78,s79)))else
 (some (.inr (x14,s15,s16,s17,s18,i19,i20,i21,i22,s23)))
theorem qm(x_0_now:Sl (Sl Int)):∀s,cU (j5 x_0_now s) (eU x_0_now s):=by
 intro s;unfold j5 eU
 repeat' first
  |with_reducible apply qn
  |with_reducible refine cU.loop (fun _=>?_) _ _
  |with_reducible refine cU.cond ?_ ?_
  |with_reducible refine cU.bind ?_ (fun _=>?_)
  |(split<;>try dsimp only)
  |with_reducible exact cU.refl _
def j4(s83:Sl ae):(Int×ah×Sl (Sl Int)×Sl (Sl Int)×Sl ae×Sl aj×Int×Int×Int×Int×Sl am)->Option ((Int×ah×Sl (Sl Int)×Sl (Sl Int)×Sl ae×Sl aj×Int×Int×Int×Int×Sl am)⊕(ah×Sl (Sl Int)×Sl (Sl Int)×Sl ae×Sl aj×Int×Int×Int×Int×Sl am)):=fun(i102,x103,s104,s105,s106,s107,i108,i109,i110,i111,s112)=>
 bif decide (i102<(s83.l.length:Int))then((e9 i102 s83.l.length).bind fun n113=>
 ((fA (⟨x103,s104,s105,(⟨s106,s107,i108,i109,i110,i111⟩:bI),s112⟩:bg) (gt s83.l n113)).bind fun r114=>
 bif(!r114)then((bF x103 s104 s105 s106 s107 i108 i109 i110 i111 s112 true 3 i102 (ae.mC (gt s83.l n113))).bind fun(q115,q116,q117,q118,q119,q120,q121,q122,q123,s124)=>
 some (q115,q116,q117,q118,q119,q120,q121,q122,q123,s124))else
 ((e9 (ae.Sw (gt s83.l n113)) s105.l.length).bind fun n125=>
 (e9 (ae.mC (gt s83.l n113)) ((gt s105.l n125).l).length).bind fun n126=>
 bif((gt ((gt s105.l n125).l) n126) !=(ae.oc (gt s83.l n113)))then((bF x103 s104 s105 s106 s107 i108 i109 i110 i111 s112 true 3 i102 (ae.mC (gt s83.l n113))).bind fun(q127,q128,q129,q130,q131,q132,q133,q134,q135,s136)=>
 some (q127,q128,q129,q130,q131,q132,q133,q134,q135,s136))else
 ((e9 (ae.Sw (gt s83.l n113)) s104.l.length).bind fun n137=>
 (e9 (ae.mC (gt s83.l n113)) ((gt s104.l n137).l).length).bind fun n138=>
 bif((gt ((gt s104.l n137).l) n138)==(ae.oc (gt s83.l n113)))then((bF x103 s104 s105 s106 s107 i108 i109 i110 i111 s112 true 3 i102 (ae.mC (gt s83.l n113))).bind fun(q139,q140,q141,q142,q143,q144,q145,q146,q147,s148)=>
 some (q139,q140,q141,q142,q143,q144,q145,q146,q147,s148))else
 ((jO (⟨x103,s104,s105,(⟨s106,s107,i108,i109,i110,i111⟩:bI),s112⟩:bg) (gt s83.l n113)).bind fun r149=>
 (bF x103 s104 s105 s106 s107 i108 i109 i110 i111 s112 (!r149) 3 i102 (ae.mC (gt s83.l n113))).bind fun(q150,q151,q152,q153,q154,q155,q156,q157,q158,s159)=>
 some (q150,q151,q152,q153,q154,q155,q156,q157,q158,s159)))):Option (ah×Sl (Sl Int)×Sl (Sl Int)×Sl ae×Sl aj×Int×Int×Int×Int×Sl am)).bind fun(x160,s161,s162,s163,s164,i165,i166,i167,i168,s169)=>
 some (.inl (wr .i64 (i102+1),x160,s161,s162,s163,s164,i165,i166,i167,i168,s169)))else
 (some (.inr (x103,s104,s105,s106,s107,i108,i109,i110,i111,s112)))
theorem ql(s83:Sl ae):∀s,cU (j4 s83 s) (eT s83 s):=by
 intro s;unfold j4 eT
 repeat' first
  |with_reducible apply oz
  |with_reducible refine cU.cond ?_ ?_
  |with_reducible refine cU.bind ?_ (fun _=>?_)
  |(split<;>try dsimp only)
  |with_reducible exact cU.refl _
def li(x_0_t:ah)(x_0_old:Sl (Sl Int))(x_0_now:Sl (Sl Int))(x_0_p_Moves:Sl ae)(x_0_p_Rounds:Sl aj)(x_0_p_Miss:Int)(x_0_p_Life:Int)(x_0_p_From:Int)(x_0_p_To:Int)(x_0_out:Sl am):Option (ah×Sl (Sl Int)×Sl (Sl Int)×Sl ae×Sl aj×Int×Int×Int×Int×Sl am):=
 (ic 100000 (j5 x_0_now) (0,x_0_t,x_0_old,x_0_now,x_0_p_Moves,x_0_p_Rounds,x_0_p_Miss,x_0_p_Life,x_0_p_From,x_0_p_To,x_0_out)).bind fun(x80,s81,s82,s83,s84,i85,i86,i87,i88,s89)=>
 (ic 100000 (j4 s83) (0,x80,s81,s82,s83,s84,i85,i86,i87,i88,s89)).bind fun(x170,s171,s172,s173,s174,i175,i176,i177,i178,s179)=>
 some (x170,s171,s172,s173,s174,i175,i176,i177,i178,s179)
theorem se(x_0_t:ah)(x_0_old:Sl (Sl Int))(x_0_now:Sl (Sl Int))(x_0_p_Moves:Sl ae)(x_0_p_Rounds:Sl aj)(x_0_p_Miss:Int)(x_0_p_Life:Int)(x_0_p_From:Int)(x_0_p_To:Int)(x_0_out:Sl am):cU (li x_0_t x_0_old x_0_now x_0_p_Moves x_0_p_Rounds x_0_p_Miss x_0_p_Life x_0_p_From x_0_p_To x_0_out) (f_ x_0_t x_0_old x_0_now x_0_p_Moves x_0_p_Rounds x_0_p_Miss x_0_p_Life x_0_p_From x_0_p_To x_0_out):=by
 unfold li f_
 repeat' first
  |with_reducible apply qm
  |with_reducible apply ql
  |with_reducible refine cU.loop (fun _=>?_) _ _
  |with_reducible refine cU.bind ?_ (fun _=>?_)
  |(split<;>try dsimp only)
  |with_reducible exact cU.refl _
def po(t_0:ah):Option Int:=
 (ic 100000 (jm t_0) (0,0)).bind fun i6=>
 some i6
theorem xl(t_0:ah):cU (po t_0) (lC t_0):=by
 unfold po lC
 repeat' first
  |with_reducible refine cU.loop (fun _=>?_) _ _
  |with_reducible refine cU.bind ?_ (fun _=>?_)
  |(split<;>try dsimp only)
  |with_reducible exact cU.refl _
def sE(t_0:ah):Option Int:=
 (po t_0).bind fun r1=>
 some (wr .i64 ((ah.br t_0)*r1))
theorem BR(t_0:ah):cU (sE t_0) (nM t_0):=by
 unfold sE nM
 repeat' first
  |with_reducible apply xl
  |with_reducible refine cU.bind ?_ (fun _=>?_)
  |(split<;>try dsimp only)
  |with_reducible exact cU.refl _
def uC(t_0:ah)(miss_1:Int):Option Int:=
 (sE t_0).bind fun r1=>
 some (wr .i64 ((wr .i64 ((wr .i64 (2*miss_1))+r1))+1))
theorem Dc(t_0:ah)(miss_1:Int):cU (uC t_0 miss_1) (oq t_0 miss_1):=by
 unfold uC oq
 repeat' first
  |with_reducible apply BR
  |with_reducible refine cU.bind ?_ (fun _=>?_)
  |(split<;>try dsimp only)
  |with_reducible exact cU.refl _
def lh(x_0_t:ah)(x_0_old:Sl (Sl Int))(x_0_now:Sl (Sl Int))(x_0_p_Moves:Sl ae)(x_0_p_Rounds:Sl aj)(x_0_p_Miss:Int)(x_0_p_Life:Int)(x_0_p_From:Int)(x_0_p_To:Int)(x_0_out:Sl am):Option (ah×Sl (Sl Int)×Sl (Sl Int)×Sl ae×Sl aj×Int×Int×Int×Int×Sl am):=
 (uC x_0_t (if 1048576<(if 0>x_0_p_Miss then 0 else x_0_p_Miss)then 1048576 else(if 0>x_0_p_Miss then 0 else x_0_p_Miss))).bind fun r1=>
 (ic 100000 (dW r1) (1,x_0_t,x_0_old,x_0_now,x_0_p_Moves,x_0_p_Rounds,x_0_p_Miss,x_0_p_Life,x_0_p_From,x_0_p_To,x_0_out)).bind fun(x39,s40,s41,s42,s43,i44,i45,i46,i47,s48)=>
 some (x39,s40,s41,s42,s43,i44,i45,i46,i47,s48)
theorem sd(x_0_t:ah)(x_0_old:Sl (Sl Int))(x_0_now:Sl (Sl Int))(x_0_p_Moves:Sl ae)(x_0_p_Rounds:Sl aj)(x_0_p_Miss:Int)(x_0_p_Life:Int)(x_0_p_From:Int)(x_0_p_To:Int)(x_0_out:Sl am):cU (lh x_0_t x_0_old x_0_now x_0_p_Moves x_0_p_Rounds x_0_p_Miss x_0_p_Life x_0_p_From x_0_p_To x_0_out) (fZ x_0_t x_0_old x_0_now x_0_p_Moves x_0_p_Rounds x_0_p_Miss x_0_p_Life x_0_p_From x_0_p_To x_0_out):=by
 unfold lh fZ
 repeat' first
  |with_reducible apply Dc
  |with_reducible refine cU.loop (fun _=>?_) _ _
  |with_reducible refine cU.bind ?_ (fun _=>?_)
  |(split<;>try dsimp only)
  |with_reducible exact cU.refl _
def qq(n_0:Int)(l_1:Sl aQ):Option Bool:=
 bif((decide (n_0<0))||(decide (n_0>16)))then(some false)else
 ((ic 100000 (j8 n_0 l_1) 0).bind fun
 |.inl b4=>(some b4)
 |.inr _=>(some true))
theorem yZ(n_0:Int)(l_1:Sl aQ):cU (qq n_0 l_1) (lj n_0 l_1):=by
 unfold qq lj
 repeat' first
  |with_reducible refine cU.loop (fun _=>?_) _ _
  |with_reducible refine cU.cond ?_ ?_
  |with_reducible refine cU.bind ?_ (fun _=>?_)
  |(split<;>try dsimp only)
  |with_reducible exact cU.refl _
def oL(l_1:Sl aQ):(Int×Sl Int)->Option ((Int×Sl Int)⊕(Sl Int)):=fun(i5,s6)=>
 bif decide (i5<(l_1.l.length:Int))then((e9 i5 l_1.l.length).bind fun n7=>
 (e9 (aQ.pN (gt l_1.l n7)) s6.l.length).bind fun n8=>
 (ye .u16 1 (aQ.To (gt l_1.l n7))).bind fun i9=>
 (e9 (aQ.pN (gt l_1.l n7)) s6.l.length).bind fun n10=>
 some (.inl (wr .i64 (i5+1),(Sl.mk (s6.l.set n10 (OR .u16 (gt s6.l n8) i9))))))else
 (some (.inr s6))
theorem wv(l_1:Sl aQ):∀s,cU (oL l_1 s) (kG l_1 s):=by
 intro s;unfold oL kG;rw[Cm]
 repeat' first
  |with_reducible refine cU.cond ?_ ?_
  |with_reducible refine cU.bind ?_ (fun _=>?_)
  |(split<;>try dsimp only)
  |with_reducible exact cU.refl _
def rB(n_0:Int)(l_1:Sl aQ):Option (Sl Int):=
 (zL 0 n_0 n_0).bind fun l1=>
 (ic 100000 (oL l_1) (0,(Sl.mk l1))).bind fun s11=>
 some s11
theorem Ag(n_0:Int)(l_1:Sl aQ):cU (rB n_0 l_1) (nR n_0 l_1):=by
 unfold rB nR
 repeat' first
  |with_reducible apply wv
  |with_reducible refine cU.loop (fun _=>?_) _ _
  |with_reducible refine cU.bind ?_ (fun _=>?_)
  |(split<;>try dsimp only)
  |with_reducible exact cU.refl _
def gk(x_0:Int):Option Int:=
 bif(x_0==0)then(some 16)else
 ((e9 (JQ .u32 (wr .u32 ((wr .u32 (HO .u16 x_0 (wr .u16 (0-x_0))))*125613361)) 27) 32).bind fun n1=>
 some (wr .i64 (gt H8.1 n1)))
theorem kz(x_0:Int):cU (gk x_0) (dE x_0):=by
 unfold gk dE;rw[xO]
 repeat' first
  |with_reducible refine cU.cond ?_ ?_
  |with_reducible refine cU.bind ?_ (fun _=>?_)
  |(split<;>try dsimp only)
  |with_reducible exact cU.refl _
def oM:(Int×Sl Int)->Option ((Int×Sl Int)⊕(Sl Int)):=fun(i4,s5)=>
 bif(i4 !=0)then((gk i4).bind fun r6=>
 (iH (s5.l++[r6])).bind fun l7=>
 some (.inl (HO .u16 i4 (wr .u16 (i4-1)),(Sl.mk l7))))else
 (some (.inr s5))
theorem ww:∀s,cU (oM s) (kH s):=by
 intro s;unfold oM kH;rw[xO]
 repeat' first
  |with_reducible apply kz
  |with_reducible refine cU.cond ?_ ?_
  |with_reducible refine cU.bind ?_ (fun _=>?_)
  |(split<;>try dsimp only)
  |with_reducible exact cU.refl _
def rC(set_0:Int):Option (Sl Int):=
 (ic 100000 (oM) (set_0,Sl.nil)).bind fun s8=>
 some s8
theorem Ah(set_0:Int):cU (rC set_0) (nT set_0):=by
 unfold rC nT
 repeat' first
  |with_reducible apply ww
  |with_reducible refine cU.loop (fun _=>?_) _ _
  |with_reducible refine cU.bind ?_ (fun _=>?_)
  |(split<;>try dsimp only)
  |with_reducible exact cU.refl _
def oK(to_0:Sl Int)(r1:Sl Int):(Int×Int)->Option ((Int×Int)⊕Int):=fun(i4,i5)=>
 bif decide (i5<(r1.l.length:Int))then((e9 i5 r1.l.length).bind fun n6=>
 (e9 (gt r1.l n6) to_0.l.length).bind fun n7=>
 some (.inl (OR .u16 i4 (gt to_0.l n7),wr .i64 (i5+1))))else
 (some (.inr i4))
theorem wu(to_0:Sl Int)(r1:Sl Int):∀s,cU (oK to_0 r1 s) (kF to_0 r1 s):=by
 intro s;unfold oK kF;rw[Cm]
 repeat' first
  |with_reducible refine cU.cond ?_ ?_
  |with_reducible refine cU.bind ?_ (fun _=>?_)
  |(split<;>try dsimp only)
  |with_reducible exact cU.refl _
def rA(to_0:Sl Int)(set_1:Int):Option Int:=
 (rC set_1).bind fun r1=>
 (ic 100000 (oK to_0 r1) (0,0)).bind fun i8=>
 some i8
theorem Af(to_0:Sl Int)(set_1:Int):cU (rA to_0 set_1) (nQ to_0 set_1):=by
 unfold rA nQ
 repeat' first
  |with_reducible apply Ah
  |with_reducible apply wu
  |with_reducible refine cU.loop (fun _=>?_) _ _
  |with_reducible refine cU.bind ?_ (fun _=>?_)
  |(split<;>try dsimp only)
  |with_reducible exact cU.refl _
def nU(r2:Sl Int):(Int×Sl Int)->Option ((Int×Sl Int)⊕(Bool⊕(Sl Int))):=fun(i7,s8)=>
 bif(i7 !=0)then((rA r2 i7).bind fun r9=>
 bif((s_ .u16 i7 r9)==0)then(some (.inr (.inl false)))else
 ((gk (s_ .u16 i7 r9)).bind fun r10=>
 (iH (s8.l++[r10])).bind fun l11=>
 (ye .u16 1 r10).bind fun i12=>
 some (.inl (s_ .u16 i7 i12,(Sl.mk l11)))))else
 (some (.inr (.inr s8)))
theorem vv(r2:Sl Int):∀s,cU (nU r2 s) (iW r2 s):=by
 intro s;unfold nU iW;rw[uO]
 repeat' first
  |with_reducible apply Af
  |with_reducible apply kz
  |with_reducible refine cU.cond ?_ ?_
  |with_reducible refine cU.bind ?_ (fun _=>?_)
  |(split<;>try dsimp only)
  |with_reducible exact cU.refl _
def qr(n_0:Int)(l_1:Sl aQ):Option (Sl Int×Bool):=
 (qq n_0 l_1).bind fun r1=>
 bif(!r1)then(some (Sl.nil,false))else
 ((rB n_0 l_1).bind fun r2=>
 (ye .u16 1 n_0).bind fun i3=>
 (ic 100000 (nU r2) (wr .u16 (i3-1),Sl.nil)).bind fun
 |.inl b13=>(some (Sl.nil,b13))
 |.inr s14=>(some (s14,true)))
theorem y8(n_0:Int)(l_1:Sl aQ):cU (qr n_0 l_1) (iK n_0 l_1):=by
 unfold qr iK
 repeat' first
  |with_reducible apply yZ
  |with_reducible apply Ag
  |with_reducible apply vv
  |with_reducible refine cU.loop (fun _=>?_) _ _
  |with_reducible refine cU.cond ?_ ?_
  |with_reducible refine cU.bind ?_ (fun _=>?_)
  |(split<;>try dsimp only)
  |with_reducible exact cU.refl _
def km(x_0_t:ah)(ports_1:Sl (Sl Int))(h_3:Int)(i7:Int)(n9:Nat):(Bool×Int×Sl aQ)->Option ((Bool×Int×Sl aQ)⊕(Bool×Sl aQ)):=fun(b13,i14,s15)=>
 bif decide (i14<(((gt ports_1.l n9).l).length:Int))then(((e9 i14 ((gt ports_1.l n9).l).length).bind fun n16=>
 (pZ x_0_t i7 (gt ((gt ports_1.l n9).l) n16)).bind fun(r17,r18,r19,r20)=>
 bif r20 then((iH (s15.l++[(⟨i7,r17⟩:aQ)])).bind fun l21=>
 some (b13,(Sl.mk l21)))else
 ((e9 h_3 ((ah.bd x_0_t).l).length).bind fun n22=>
 bif(!(decide ((gt ((ah.bd x_0_t).l) n22)=(⟨i7,gt ((gt ports_1.l n9).l) n16⟩:fS))))then(some (true,s15))else
 (some (b13,s15))):Option (Bool×Sl aQ)).bind fun(b23,s24)=>
 some (.inl (b23,wr .i64 (i14+1),s24)))else
 (some (.inr (b13,s15)))
theorem qI(x_0_t:ah)(ports_1:Sl (Sl Int))(h_3:Int)(i7:Int)(n9:Nat):∀s,cU (km x_0_t ports_1 h_3 i7 n9 s) (ez x_0_t ports_1 h_3 i7 n9 s):=by
 intro s;unfold km ez
 repeat' first
  |with_reducible apply uV
  |with_reducible refine cU.cond ?_ ?_
  |with_reducible refine cU.bind ?_ (fun _=>?_)
  |(split<;>try dsimp only)
  |with_reducible exact cU.refl _
def kj(x_0_t:ah)(ports_1:Sl (Sl Int))(h_3:Int):(Bool×Int×Sl aQ)->Option ((Bool×Int×Sl aQ)⊕(Bool×Sl aQ)):=fun(b6,i7,s8)=>
 bif decide (i7<(ports_1.l.length:Int))then((e9 i7 ports_1.l.length).bind fun n9=>
 (ic 100000 (km x_0_t ports_1 h_3 i7 n9) (b6,0,s8)).bind fun(b25,s26)=>
 some (.inl (b25,wr .i64 (i7+1),s26)))else
 (some (.inr (b6,s8)))
theorem qH(x_0_t:ah)(ports_1:Sl (Sl Int))(h_3:Int):∀s,cU (kj x_0_t ports_1 h_3 s) (fw x_0_t ports_1 h_3 s):=by
 intro s;unfold kj fw
 repeat' first
  |with_reducible apply qI
  |with_reducible refine cU.loop (fun _=>?_) _ _
  |with_reducible refine cU.cond ?_ ?_
  |with_reducible refine cU.bind ?_ (fun _=>?_)
  |(split<;>try dsimp only)
  |with_reducible exact cU.refl _
def lQ(x_0_t:ah)(x_0_old:Sl (Sl Int))(x_0_now:Sl (Sl Int))(x_0_p_Moves:Sl ae)(x_0_p_Rounds:Sl aj)(x_0_p_Miss:Int)(x_0_p_Life:Int)(x_0_p_From:Int)(x_0_p_To:Int)(x_0_out:Sl am)(ports_1:Sl (Sl Int))(k_2:Int)(h_3:Int):Option (ah×Sl (Sl Int)×Sl (Sl Int)×Sl ae×Sl aj×Int×Int×Int×Int×Sl am):=
 (ic 100000 (kj x_0_t ports_1 h_3) (false,0,Sl.nil)).bind fun(b27,s28)=>
 (qr (ah.br x_0_t) s28).bind fun(r29,r30)=>
 (bF x_0_t x_0_old x_0_now x_0_p_Moves x_0_p_Rounds x_0_p_Miss x_0_p_Life x_0_p_From x_0_p_To x_0_out b27 5 k_2 h_3).bind fun(q31,q32,q33,q34,q35,q36,q37,q38,q39,s40)=>
 (bF q31 q32 q33 q34 q35 q36 q37 q38 q39 s40 (!r30) 6 k_2 h_3).bind fun(q41,q42,q43,q44,q45,q46,q47,q48,q49,s50)=>
 some (q41,q42,q43,q44,q45,q46,q47,q48,q49,s50)
theorem sR(x_0_t:ah)(x_0_old:Sl (Sl Int))(x_0_now:Sl (Sl Int))(x_0_p_Moves:Sl ae)(x_0_p_Rounds:Sl aj)(x_0_p_Miss:Int)(x_0_p_Life:Int)(x_0_p_From:Int)(x_0_p_To:Int)(x_0_out:Sl am)(ports_1:Sl (Sl Int))(k_2:Int)(h_3:Int):cU (lQ x_0_t x_0_old x_0_now x_0_p_Moves x_0_p_Rounds x_0_p_Miss x_0_p_Life x_0_p_From x_0_p_To x_0_out ports_1 k_2 h_3) (ii x_0_t x_0_old x_0_now x_0_p_Moves x_0_p_Rounds x_0_p_Miss x_0_p_Life x_0_p_From x_0_p_To x_0_out ports_1 k_2 h_3):=by
 unfold lQ ii
 repeat' first
  |with_reducible apply qH
  |with_reducible apply y8
  |with_reducible refine cU.loop (fun _=>?_) _ _
  |with_reducible refine cU.bind ?_ (fun _=>?_)
  |(split<;>try dsimp only)
  |with_reducible exact cU.refl _
def jG(x_0_p_Rounds:Sl aj)(n36:Nat)(s52:Sl (Sl Int))(s53:Sl (Sl Int))(s61:Sl am)(s55:Sl aj)(s54:Sl ae)(i50:Int)(x51:ah)(i56:Int)(i57:Int)(i58:Int)(i59:Int):(Int×Sl (Sl Int))->Option ((Int×Sl (Sl Int))⊕(Sl (Sl Int))):=fun(i78,s79)=>
 bif decide (i78<(s54.l.length:Int))then(((e9 i78 s54.l.length).bind fun n80=>
 (bif((ae.mC (gt s54.l n80))==i50)then((fA (⟨x51,s52,s53,(⟨s54,s55,i56,i57,i58,i59⟩:bI),s61⟩:bg) (gt s54.l n80)).bind fun r81=>
 bif r81 then((m7 (gt x_0_p_Rounds.l n36) (gt s54.l n80)).bind fun r82=>
 some r82)else
 (some false))else
 (some false):Option Bool).bind fun b83=>
 bif b83 then((e9 (ae.Sw (gt s54.l n80)) s79.l.length).bind fun n84=>
 (iH (((gt s79.l n84).l)++[ae.oc (gt s54.l n80)])).bind fun l85=>
 (e9 (ae.Sw (gt s54.l n80)) s79.l.length).bind fun n86=>
 bif Nat.beq n84 n86 then(some (Sl.mk (s79.l.set n86 (Sl.mk l85))))else(none))else
 (some s79):Option (Sl (Sl Int))).bind fun s87=>
 some (.inl (wr .i64 (i78+1),s87)))else
 (some (.inr s79))
theorem pR(x_0_p_Rounds:Sl aj)(n36:Nat)(s52:Sl (Sl Int))(s53:Sl (Sl Int))(s61:Sl am)(s55:Sl aj)(s54:Sl ae)(i50:Int)(x51:ah)(i56:Int)(i57:Int)(i58:Int)(i59:Int):∀s,cU (jG x_0_p_Rounds n36 s52 s53 s61 s55 s54 i50 x51 i56 i57 i58 i59 s) (eE x_0_p_Rounds n36 s52 s53 s61 s55 s54 i50 x51 i56 i57 i58 i59 s):=by
 intro s;unfold jG eE
 repeat' first
  |with_reducible apply qp
  |with_reducible refine cU.cond ?_ ?_
  |with_reducible refine cU.bind ?_ (fun _=>?_)
  |(split<;>try dsimp only)
  |with_reducible exact cU.refl _
def jF(x_0_p_Rounds:Sl aj)(n36:Nat)(i24:Int)(x25:ah):(Int×ah×Sl (Sl Int)×Sl (Sl Int)×Sl ae×Sl aj×Int×Int×Int×Int×Sl (Sl Int)×Sl am)->Option ((Int×ah×Sl (Sl Int)×Sl (Sl Int)×Sl ae×Sl aj×Int×Int×Int×Int×Sl (Sl Int)×Sl am)⊕(ah×Sl (Sl Int)×Sl (Sl Int)×Sl ae×Sl aj×Int×Int×Int×Int×Sl (Sl Int)×Sl am)):=fun(i50,x51,s52,s53,s54,s55,i56,i57,i58,i59,s60,s61)=>
 bif decide (i50<(((ah.bd x25).l).length:Int))then((zL (Sl.nil:Sl Int) (s60.l.length:Int) (s60.l.length:Int)).bind fun l62=>
 (ic 100000 (fD i50 s60) (0,s60,(Sl.mk l62))).bind fun(s73,s74)=>
 (ic 100000 (jG x_0_p_Rounds n36 s52 s53 s61 s55 s54 i50 x51 i56 i57 i58 i59) (0,s74)).bind fun s88=>
 (lQ x51 s52 s53 s54 s55 i56 i57 i58 i59 s61 s88 i24 i50).bind fun(q89,q90,q91,q92,q93,q94,q95,q96,q97,s98)=>
 some (.inl (wr .i64 (i50+1),q89,q90,q91,q92,q93,q94,q95,q96,q97,s73,s98)))else
 (some (.inr (x51,s52,s53,s54,s55,i56,i57,i58,i59,s60,s61)))
theorem pQ(x_0_p_Rounds:Sl aj)(n36:Nat)(i24:Int)(x25:ah):∀s,cU (jF x_0_p_Rounds n36 i24 x25 s) (eD x_0_p_Rounds n36 i24 x25 s):=by
 intro s;unfold jF eD
 repeat' first
  |with_reducible apply pR
  |with_reducible apply sR
  |with_reducible refine cU.loop (fun _=>?_) _ _
  |with_reducible refine cU.cond ?_ ?_
  |with_reducible refine cU.bind ?_ (fun _=>?_)
  |(split<;>try dsimp only)
  |with_reducible exact cU.refl _
def jE(x_0_p_Rounds:Sl aj)(n36:Nat)(s100:Sl (Sl Int))(s102:Sl ae)(s109:Sl am)(x99:ah)(s101:Sl (Sl Int))(s103:Sl aj)(i104:Int)(i105:Int)(i106:Int)(i107:Int):(Int×Sl (Sl Int))->Option ((Int×Sl (Sl Int))⊕(Sl (Sl Int))):=fun(i113,s114)=>
 bif decide (i113<(s102.l.length:Int))then(((e9 i113 s102.l.length).bind fun n115=>
 ((fA (⟨x99,s100,s101,(⟨s102,s103,i104,i105,i106,i107⟩:bI),s109⟩:bg) (gt s102.l n115)).bind fun r116=>
 bif r116 then((m7 (gt x_0_p_Rounds.l n36) (gt s102.l n115)).bind fun r117=>
 some r117)else
 (some false):Option Bool).bind fun b118=>
 bif b118 then((e9 (ae.Sw (gt s102.l n115)) s114.l.length).bind fun n119=>
 (e9 (ae.mC (gt s102.l n115)) ((gt s114.l n119).l).length).bind fun n120=>
 some (Sl.mk (s114.l.set n119 (Sl.mk (((gt s114.l n119).l).set n120 (ae.oc (gt s102.l n115)))))))else
 (some s114):Option (Sl (Sl Int))).bind fun s121=>
 some (.inl (wr .i64 (i113+1),s121)))else
 (some (.inr s114))
theorem pP(x_0_p_Rounds:Sl aj)(n36:Nat)(s100:Sl (Sl Int))(s102:Sl ae)(s109:Sl am)(x99:ah)(s101:Sl (Sl Int))(s103:Sl aj)(i104:Int)(i105:Int)(i106:Int)(i107:Int):∀s,cU (jE x_0_p_Rounds n36 s100 s102 s109 x99 s101 s103 i104 i105 i106 i107 s) (eC x_0_p_Rounds n36 s100 s102 s109 x99 s101 s103 i104 i105 i106 i107 s):=by
 intro s;unfold jE eC
 repeat' first
  |with_reducible apply qp
  |with_reducible refine cU.cond ?_ ?_
  |with_reducible refine cU.bind ?_ (fun _=>?_)
  |(split<;>try dsimp only)
  |with_reducible exact cU.refl _
def jD(x_0_p_Rounds:Sl aj):(Int×ah×Sl (Sl Int)×Sl (Sl Int)×Sl ae×Sl aj×Int×Int×Int×Int×Sl (Sl Int)×Sl am)->Option ((Int×ah×Sl (Sl Int)×Sl (Sl Int)×Sl ae×Sl aj×Int×Int×Int×Int×Sl (Sl Int)×Sl am)⊕(ah×Sl (Sl Int)×Sl (Sl Int)×Sl ae×Sl aj×Int×Int×Int×Int×Sl am)):=fun(i24,x25,s26,s27,s28,s29,i30,i31,i32,i33,s34,s35)=>
 bif decide (i24<(x_0_p_Rounds.l.length:Int))then((e9 i24 x_0_p_Rounds.l.length).bind fun n36=>
 (ic 100000 (jF x_0_p_Rounds n36 i24 x25) (0,x25,s26,s27,s28,s29,i30,i31,i32,i33,s34,s35)).bind fun(x99,s100,s101,s102,s103,i104,i105,i106,i107,s108,s109)=>
 (ic 100000 (jE x_0_p_Rounds n36 s100 s102 s109 x99 s101 s103 i104 i105 i106 i107) (0,s108)).bind fun s122=>
 some (.inl (wr .i64 (i24+1),x99,s100,s101,s102,s103,i104,i105,i106,i107,s122,s109)))else
 (some (.inr (x25,s26,s27,s28,s29,i30,i31,i32,i33,s35)))
theorem pO(x_0_p_Rounds:Sl aj):∀s,cU (jD x_0_p_Rounds s) (eB x_0_p_Rounds s):=by
 intro s;unfold jD eB
 repeat' first
  |with_reducible apply pQ
  |with_reducible apply pP
  |with_reducible refine cU.loop (fun _=>?_) _ _
  |with_reducible refine cU.cond ?_ ?_
  |with_reducible refine cU.bind ?_ (fun _=>?_)
  |(split<;>try dsimp only)
  |with_reducible exact cU.refl _
def kL(x_0_t:ah)(x_0_old:Sl (Sl Int))(x_0_now:Sl (Sl Int))(x_0_p_Moves:Sl ae)(x_0_p_Rounds:Sl aj)(x_0_p_Miss:Int)(x_0_p_Life:Int)(x_0_p_From:Int)(x_0_p_To:Int)(x_0_out:Sl am):Option (ah×Sl (Sl Int)×Sl (Sl Int)×Sl ae×Sl aj×Int×Int×Int×Int×Sl am):=
 (zL (Sl.nil:Sl Int) (x_0_old.l.length:Int) (x_0_old.l.length:Int)).bind fun l1=>
 (ic 100000 (fE x_0_old) (0,(Sl.mk l1))).bind fun s10=>
 (ic 100000 (jD x_0_p_Rounds) (0,x_0_t,x_0_old,x_0_now,x_0_p_Moves,x_0_p_Rounds,x_0_p_Miss,x_0_p_Life,x_0_p_From,x_0_p_To,s10,x_0_out)).bind fun(x123,s124,s125,s126,s127,i128,i129,i130,i131,s132)=>
 some (x123,s124,s125,s126,s127,i128,i129,i130,i131,s132)
theorem rx(x_0_t:ah)(x_0_old:Sl (Sl Int))(x_0_now:Sl (Sl Int))(x_0_p_Moves:Sl ae)(x_0_p_Rounds:Sl aj)(x_0_p_Miss:Int)(x_0_p_Life:Int)(x_0_p_From:Int)(x_0_p_To:Int)(x_0_out:Sl am):cU (kL x_0_t x_0_old x_0_now x_0_p_Moves x_0_p_Rounds x_0_p_Miss x_0_p_Life x_0_p_From x_0_p_To x_0_out) (gH x_0_t x_0_old x_0_now x_0_p_Moves x_0_p_Rounds x_0_p_Miss x_0_p_Life x_0_p_From x_0_p_To x_0_out):=by
 unfold kL gH
 repeat' first
  |with_reducible apply pO
  |with_reducible refine cU.loop (fun _=>?_) _ _
  |with_reducible refine cU.bind ?_ (fun _=>?_)
  |(split<;>try dsimp only)
  |with_reducible exact cU.refl _
def od(t_0:ah)(old_1:Sl (Sl Int))(now_2:Sl (Sl Int))(p_3:aJ):Option (Sl am):=
 ((o5 t_0 old_1).bind fun r1=>
 bif(!r1)then(some true)else
 ((o5 t_0 now_2).bind fun r2=>
 some (!r2)):Option Bool).bind fun b3=>
 bif b3 then(some (Sl.mk [(⟨1,0,0⟩:am)]))else
 ((li t_0 old_1 now_2 (aJ.iZ p_3) (aJ.eI p_3) (aJ.Av p_3) (aJ.GM p_3) (aJ.pN p_3) (aJ.To p_3) Sl.nil).bind fun(q4,q5,q6,q7,q8,q9,q10,q11,q12,s13)=>
 (lh q4 q5 q6 q7 q8 q9 q10 q11 q12 s13).bind fun(q14,q15,q16,q17,q18,q19,q20,q21,q22,s23)=>
 (kL q14 q15 q16 q17 q18 q19 q20 q21 q22 s23).bind fun(q24,q25,q26,q27,q28,q29,q30,q31,q32,s33)=>
 some s33)
theorem yU(t_0:ah)(old_1:Sl (Sl Int))(now_2:Sl (Sl Int))(p_3:aJ):cU (od t_0 old_1 now_2 p_3) (fx t_0 old_1 now_2 p_3):=by
 unfold od fx
 repeat' first
  |with_reducible apply z6
  |with_reducible apply se
  |with_reducible apply sd
  |with_reducible apply rx
  |with_reducible refine cU.cond ?_ ?_
  |with_reducible refine cU.bind ?_ (fun _=>?_)
  |(split<;>try dsimp only)
  |with_reducible exact cU.refl _
def ub:Option Bool:=
 (od (⟨3,(Sl.mk [(⟨0,0,1,0,1,1⟩:bz),(⟨1,1,2,0,1,1⟩:bz),(⟨0,1,2,1,1,1⟩:bz)]),(Sl.mk [(⟨2,7⟩:fS)])⟩:ah) (Sl.mk [(Sl.mk [0]),(Sl.mk [1]),(Sl.mk [7])]) (Sl.mk [(Sl.mk [1]),(Sl.mk [1]),(Sl.mk [7])]) (⟨Sl.nil,Sl.nil,0,0,0,0⟩:aJ)).bind fun r1=>
 (bif((r1.l.length:Int)==1)then((e9 0 r1.l.length).bind fun n2=>
 bif decide ((gt r1.l n2)=(⟨2,0,0⟩:am))then((uH 6).bind fun r3=>
 bif(r3.toList==(⟨#[108,111,111,112]⟩:ByteArray).toList)then((od (⟨0,Sl.nil,Sl.nil⟩:ah) Sl.nil Sl.nil (⟨Sl.nil,Sl.nil,0,0,0,0⟩:aJ)).bind fun r4=>
 some ((r4.l.length:Int)==1))else
 (some false))else
 (some false))else
 (some false):Option Bool).bind fun b5=>
 some b5
theorem yR:cU (ub) (gL):=by
 unfold ub gL
 repeat' first
  |with_reducible apply yU
  |with_reducible refine cU.cond ?_ ?_
  |with_reducible refine cU.bind ?_ (fun _=>?_)
  |(split<;>try dsimp only)
  |with_reducible exact cU.refl _
theorem dJ:gL=some true:=yR _ (by decide+kernel)
end Go.Proofs.YthcplpfiidlinaaDoor.J
