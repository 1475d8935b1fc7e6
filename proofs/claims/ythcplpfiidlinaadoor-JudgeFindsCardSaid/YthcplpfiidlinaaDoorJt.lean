/- ju answers true: by running its twin. Conditions: none. -/
import Derived.Test.YthcplpfiidlinaaDoorJ
import Derived.Test.YthcplpfiidlinaaDoorTwin
open Go.Ev Go
noncomputable section
namespace Go.Proofs.YthcplpfiidlinaaDoor.J
def qm(t_0:ah):Option (Sl bn):=
 (ic 100000 (k9 t_0) (0,Sl.nil)).bind fun s8=>
 (ic 100000 (k8 t_0) (0,s8)).bind fun s15=>
 some s15
theorem x9(t_0:ah):cT (qm t_0) (mF t_0):=by
 unfold qm mF
 repeat' first
  |with_reducible refine cT.loop (fun _=>?_) _ _
  |with_reducible refine cT.bind ?_ (fun _=>?_)
  |(split<;>try dsimp only)
  |with_reducible exact cT.refl _
def rl(t_0:ah):Option Bool:=
 bif((((decide ((ah.bq t_0)<1))||(decide ((ah.bq t_0)>8)))||(decide ((((ah.bU t_0).l).length:Int)>24)))||(decide ((((ah.bf t_0).l).length:Int)>8)))then(some false)else
 ((ic 100000 (lV t_0) 0).bind fun
 |.inl b4=>(some b4)
 |.inr _=>((qm t_0).bind fun r5=>
 (ic 100000 (iH t_0 r5) (0,(Mp.none:Mp bn Int))).bind fun
 |.inl b13=>(some b13)
 |.inr _=>(some true)))
theorem zT(t_0:ah):cT (rl t_0) (nD t_0):=by
 unfold rl nD
 repeat' first
  |with_reducible apply x9
  |with_reducible refine cT.loop (fun _=>?_) _ _
  |with_reducible refine cT.cond ?_ ?_
  |with_reducible refine cT.bind ?_ (fun _=>?_)
  |(split<;>try dsimp only)
  |with_reducible exact cT.refl _
def eV(s_0:Sl Int):Option Int:=
 (ic 100000 (cK s_0) 0).bind fun
 |.inl i5=>(some i5)
 |.inr _=>(some (-1))
theorem kz(s_0:Sl Int):cT (eV s_0) (c8 s_0):=by
 unfold eV c8
 repeat' first
  |with_reducible refine cT.loop (fun _=>?_) _ _
  |with_reducible refine cT.bind ?_ (fun _=>?_)
  |(split<;>try dsimp only)
  |with_reducible exact cT.refl _
def ew(s_0:Sl Int):Option Bool:=
 (eV s_0).bind fun r1=>
 some (decide (r1>=0))
theorem jX(s_0:Sl Int):cT (ew s_0) (bT s_0):=by
 unfold ew bT
 repeat' first
  |with_reducible apply kz
  |with_reducible refine cT.bind ?_ (fun _=>?_)
  |(split<;>try dsimp only)
  |with_reducible exact cT.refl _
def nI(t_0:ah)(r_1:Sl (Sl Int)):Int->Option (Int⊕(Bool⊕Unit)):=fun i3=>
 bif decide (i3<(r_1.l.length:Int))then((ff i3 r_1.l.length).bind fun n4=>
 (bif((((gt r_1.l n4).l).length:Int) !=(((ah.bf t_0).l).length:Int))then(some true)else
 ((ew (gt r_1.l n4)).bind fun r5=>
 some r5):Option Bool).bind fun b6=>
 bif b6 then(some (.inr (.inl false)))else
 (some (.inl (wr .i64 (i3+1)))))else
 (some (.inr (.inr ())))
theorem u_(t_0:ah)(r_1:Sl (Sl Int)):∀s,cT (nI t_0 r_1 s) (jZ t_0 r_1 s):=by
 intro s;unfold nI jZ
 repeat' first
  |with_reducible apply jX
  |with_reducible refine cT.cond ?_ ?_
  |with_reducible refine cT.bind ?_ (fun _=>?_)
  |(split<;>try dsimp only)
  |with_reducible exact cT.refl _
def lX(t_0:ah)(r_1:Sl (Sl Int)):Option Bool:=
 (rl t_0).bind fun r1=>
 bif((!r1)||((r_1.l.length:Int) !=(ah.bq t_0)))then(some false)else
 ((ic 100000 (nI t_0 r_1) 0).bind fun
 |.inl b7=>(some b7)
 |.inr _=>(some true))
theorem px(t_0:ah)(r_1:Sl (Sl Int)):cT (lX t_0 r_1) (js t_0 r_1):=by
 unfold lX js
 repeat' first
  |with_reducible apply zT
  |with_reducible apply u_
  |with_reducible refine cT.loop (fun _=>?_) _ _
  |with_reducible refine cT.cond ?_ ?_
  |with_reducible refine cT.bind ?_ (fun _=>?_)
  |(split<;>try dsimp only)
  |with_reducible exact cT.refl _
def ki(s_0:Sl Int)(v_1:Int):Option Int:=
 (ic 100000 (ge s_0 v_1) 0).bind fun
 |.inl i4=>(some i4)
 |.inr _=>(some (-1))
theorem qI(s_0:Sl Int)(v_1:Int):cT (ki s_0 v_1) (h_ s_0 v_1):=by
 unfold ki h_
 repeat' first
  |with_reducible refine cT.loop (fun _=>?_) _ _
  |with_reducible refine cT.bind ?_ (fun _=>?_)
  |(split<;>try dsimp only)
  |with_reducible exact cT.refl _
def fN(s_0:Sl Int)(v_1:Int):Option Bool:=
 (ki s_0 v_1).bind fun r1=>
 some (decide (r1>=0))
theorem iS(s_0:Sl Int)(v_1:Int):cT (fN s_0 v_1) (cN s_0 v_1):=by
 unfold fN cN
 repeat' first
  |with_reducible apply qI
  |with_reducible refine cT.bind ?_ (fun _=>?_)
  |(split<;>try dsimp only)
  |with_reducible exact cT.refl _
def mW(l_0:Sl Int):Option Bool:=
 (bif decide ((l_0.l.length:Int)>0)then((qB l_0.l 0 (wr .i64 ((l_0.l.length:Int)-1))).bind fun l1=>
 (ff (wr .i64 ((l_0.l.length:Int)-1)) l_0.l.length).bind fun n2=>
 (fN (l_0.to l1) (gt l_0.l n2)).bind fun r3=>
 some r3)else
 (some false):Option Bool).bind fun b4=>
 some b4
theorem uF(l_0:Sl Int):cT (mW l_0) (ir l_0):=by
 unfold mW ir
 repeat' first
  |with_reducible apply iS
  |with_reducible refine cT.cond ?_ ?_
  |with_reducible refine cT.bind ?_ (fun _=>?_)
  |(split<;>try dsimp only)
  |with_reducible exact cT.refl _
def p_(t_0:ah)(sw_1:Int)(port_2:Int):Option (Int×Int×Int×Bool):=
 (ic 100000 (mU t_0 sw_1 port_2) 0).bind fun
 |.inl (i4,i5,i6,b7)=>(some (i4,i5,i6,b7))
 |.inr _=>(some (0,0,0,false))
theorem u4(t_0:ah)(sw_1:Int)(port_2:Int):cT (p_ t_0 sw_1 port_2) (nE t_0 sw_1 port_2):=by
 unfold p_ nE
 repeat' first
  |with_reducible refine cT.loop (fun _=>?_) _ _
  |with_reducible refine cT.bind ?_ (fun _=>?_)
  |(split<;>try dsimp only)
  |with_reducible exact cT.refl _
def rt(t_0:ah)(r_1:Sl (Sl Int))(sw_2:Int)(h_3:Int):Option (Int×Bool):=
 (mz r_1 sw_2 h_3).bind fun(r1,r2)=>
 bif(!r2)then(some (0,false))else
 ((p_ t_0 sw_2 r1).bind fun(r3,r4,r5,r6)=>
 some (r3,r6))
theorem z6(t_0:ah)(r_1:Sl (Sl Int))(sw_2:Int)(h_3:Int):cT (rt t_0 r_1 sw_2 h_3) (nJ t_0 r_1 sw_2 h_3):=by
 unfold rt nJ
 repeat' first
  |with_reducible apply u4
  |with_reducible refine cT.cond ?_ ?_
  |with_reducible refine cT.bind ?_ (fun _=>?_)
  |(split<;>try dsimp only)
  |with_reducible exact cT.refl _
def oH(t_0:ah)(r_1:Sl (Sl Int))(h_3:Int):(Sl Int)->Option (Sl Int⊕((Int×Sl Int)⊕Unit)):=fun s6=>
 (mW s6).bind fun r7=>
 bif(!r7)then((ff (wr .i64 ((s6.l.length:Int)-1)) s6.l.length).bind fun n8=>
 (ff h_3 ((ah.bf t_0).l).length).bind fun n9=>
 (ff (gt s6.l n8) r_1.l.length).bind fun n10=>
 (ff h_3 ((gt r_1.l n10).l).length).bind fun n11=>
 bif decide ((gt ((ah.bf t_0).l) n9)=(⟨gt s6.l n8,gt ((gt r_1.l n10).l) n11⟩:fR))then(some (.inr (.inl (0,s6))))else
 ((rt t_0 r_1 (gt s6.l n8) h_3).bind fun(r12,r13)=>
 bif(!r13)then(some (.inr (.inl (13,Sl.nil))))else
 ((iG (s6.l++[r12])).bind fun l14=>
 some (.inl (Sl.mk l14)))))else
 (some (.inr (.inr ())))
theorem wd(t_0:ah)(r_1:Sl (Sl Int))(h_3:Int):∀s,cT (oH t_0 r_1 h_3 s) (eh t_0 r_1 h_3 s):=by
 intro s;unfold oH eh
 repeat' first
  |with_reducible apply uF
  |with_reducible apply z6
  |with_reducible refine cT.cond ?_ ?_
  |with_reducible refine cT.bind ?_ (fun _=>?_)
  |(split<;>try dsimp only)
  |with_reducible exact cT.refl _
def rq(t_0:ah)(r_1:Sl (Sl Int))(sw_2:Int)(h_3:Int):Option (Sl Int×Int):=
 (mz r_1 sw_2 h_3).bind fun(r1,r2)=>
 (bif(!r2)then(some true)else
 ((lX t_0 r_1).bind fun r3=>
 some (!r3)):Option Bool).bind fun b4=>
 bif b4 then(some (Sl.nil,2))else
 ((ic 100000 (oH t_0 r_1 h_3) (Sl.mk [sw_2])).bind fun
 |.inl (i15,s16)=>(some (s16,i15))
 |.inr _=>(some (Sl.nil,12)))
theorem zZ(t_0:ah)(r_1:Sl (Sl Int))(sw_2:Int)(h_3:Int):cT (rq t_0 r_1 sw_2 h_3) (jE t_0 r_1 sw_2 h_3):=by
 unfold rq jE
 repeat' first
  |with_reducible apply px
  |with_reducible apply wd
  |with_reducible refine cT.loop (fun _=>?_) _ _
  |with_reducible refine cT.cond ?_ ?_
  |with_reducible refine cT.bind ?_ (fun _=>?_)
  |(split<;>try dsimp only)
  |with_reducible exact cT.refl _
def py(t_0:ah)(r_1:Sl (Sl Int))(h_2:Int):(Int×Sl Int)->Option ((Int×Sl Int)⊕(Sl Int)):=fun(i5,s6)=>
 bif decide (i5<(r_1.l.length:Int))then((rq t_0 r_1 i5 h_2).bind fun(r7,r8)=>
 (iG (s6.l++[wr .i64 ((r7.l.length:Int)-1)])).bind fun l9=>
 some (.inl (wr .i64 (i5+1),(Sl.mk l9))))else
 (some (.inr s6))
theorem xp(t_0:ah)(r_1:Sl (Sl Int))(h_2:Int):∀s,cT (py t_0 r_1 h_2 s) (gA t_0 r_1 h_2 s):=by
 intro s;unfold py gA
 repeat' first
  |with_reducible apply zZ
  |with_reducible refine cT.cond ?_ ?_
  |with_reducible refine cT.bind ?_ (fun _=>?_)
  |(split<;>try dsimp only)
  |with_reducible exact cT.refl _
def sH(t_0:ah)(r_1:Sl (Sl Int))(h_2:Int):Option (Sl Int):=
 (lX t_0 r_1).bind fun r1=>
 bif(((!r1)||(decide (h_2<0)))||(decide (h_2>=(((ah.bf t_0).l).length:Int))))then(some Sl.nil)else
 ((ic 100000 (py t_0 r_1 h_2) (0,Sl.nil)).bind fun s10=>
 some s10)
theorem BM(t_0:ah)(r_1:Sl (Sl Int))(h_2:Int):cT (sH t_0 r_1 h_2) (lA t_0 r_1 h_2):=by
 unfold sH lA
 repeat' first
  |with_reducible apply px
  |with_reducible apply xp
  |with_reducible refine cT.loop (fun _=>?_) _ _
  |with_reducible refine cT.cond ?_ ?_
  |with_reducible refine cT.bind ?_ (fun _=>?_)
  |(split<;>try dsimp only)
  |with_reducible exact cT.refl _
def oI(t_0:ah)(r_1:Sl (Sl Int)):Int->Option (Int⊕(Bool⊕Unit)):=fun i3=>
 bif decide (i3<(((ah.bf t_0).l).length:Int))then((sH t_0 r_1 i3).bind fun r4=>
 (fN r4 (-1)).bind fun r5=>
 bif r5 then(some (.inr (.inl false)))else
 (some (.inl (wr .i64 (i3+1)))))else
 (some (.inr (.inr ())))
theorem we(t_0:ah)(r_1:Sl (Sl Int)):∀s,cT (oI t_0 r_1 s) (gY t_0 r_1 s):=by
 intro s;unfold oI gY
 repeat' first
  |with_reducible apply BM
  |with_reducible apply iS
  |with_reducible refine cT.cond ?_ ?_
  |with_reducible refine cT.bind ?_ (fun _=>?_)
  |(split<;>try dsimp only)
  |with_reducible exact cT.refl _
def o8(t_0:ah)(r_1:Sl (Sl Int)):Option Bool:=
 (lX t_0 r_1).bind fun r1=>
 bif(!r1)then(some false)else
 ((ic 100000 (oI t_0 r_1) 0).bind fun
 |.inl b6=>(some b6)
 |.inr _=>(some true))
theorem z7(t_0:ah)(r_1:Sl (Sl Int)):cT (o8 t_0 r_1) (iu t_0 r_1):=by
 unfold o8 iu
 repeat' first
  |with_reducible apply px
  |with_reducible apply we
  |with_reducible refine cT.loop (fun _=>?_) _ _
  |with_reducible refine cT.cond ?_ ?_
  |with_reducible refine cT.bind ?_ (fun _=>?_)
  |(split<;>try dsimp only)
  |with_reducible exact cT.refl _
def m8(r_0:aj)(m_1:ae):Option Bool:=
 (bif((ae.vL m_1)==(aj.No r_0))then((fN (aj.SQ r_0) (ae.Sw m_1)).bind fun r1=>
 some r1)else
 (some false):Option Bool).bind fun b2=>
 some b2
theorem qv(r_0:aj)(m_1:ae):cT (m8 r_0 m_1) (kp r_0 m_1):=by
 unfold m8 kp
 repeat' first
  |with_reducible apply iS
  |with_reducible refine cT.cond ?_ ?_
  |with_reducible refine cT.bind ?_ (fun _=>?_)
  |(split<;>try dsimp only)
  |with_reducible exact cT.refl _
def kN(r_0:aj)(c_1:ae):Option Bool:=
 (m8 r_0 c_1).bind fun r1=>
 some r1
theorem rD(r_0:aj)(c_1:ae):cT (kN r_0 c_1) (iz r_0 c_1):=by
 unfold kN iz
 repeat' first
  |with_reducible apply qv
  |with_reducible refine cT.bind ?_ (fun _=>?_)
  |(split<;>try dsimp only)
  |with_reducible exact cT.refl _
def cB(s_0:Sl aj)(f_1_c0:ae):Int->Option (Int⊕(Int⊕Unit)):=fun i2=>
 bif decide (i2<(s_0.l.length:Int))then((ff i2 s_0.l.length).bind fun n3=>
 (kN (gt s_0.l n3) f_1_c0).bind fun r4=>
 bif r4 then(some (.inr (.inl i2)))else
 (some (.inl (wr .i64 (i2+1)))))else
 (some (.inr (.inr ())))
theorem gu(s_0:Sl aj)(f_1_c0:ae):∀s,cT (cB s_0 f_1_c0 s) (bg s_0 f_1_c0 s):=by
 intro s;unfold cB bg
 repeat' first
  |with_reducible apply rD
  |with_reducible refine cT.cond ?_ ?_
  |with_reducible refine cT.bind ?_ (fun _=>?_)
  |(split<;>try dsimp only)
  |with_reducible exact cT.refl _
def cM(s_0:Sl aj)(f_1_c0:ae):Option Int:=
 (ic 100000 (cB s_0 f_1_c0) 0).bind fun
 |.inl i5=>(some i5)
 |.inr _=>(some (-1))
theorem gI(s_0:Sl aj)(f_1_c0:ae):cT (cM s_0 f_1_c0) (bD s_0 f_1_c0):=by
 unfold cM bD
 repeat' first
  |with_reducible apply gu
  |with_reducible refine cT.loop (fun _=>?_) _ _
  |with_reducible refine cT.bind ?_ (fun _=>?_)
  |(split<;>try dsimp only)
  |with_reducible exact cT.refl _
def cC(s_0:Sl aj)(f_1_c0:ae):Option Bool:=
 (cM s_0 f_1_c0).bind fun r1=>
 some (decide (r1>=0))
theorem gw(s_0:Sl aj)(f_1_c0:ae):cT (cC s_0 f_1_c0) (br s_0 f_1_c0):=by
 unfold cC br
 repeat' first
  |with_reducible apply gI
  |with_reducible refine cT.bind ?_ (fun _=>?_)
  |(split<;>try dsimp only)
  |with_reducible exact cT.refl _
def jQ(x_0:bv)(m_1:ae):Option Bool:=
 (cC (aK.fS (bv.p x_0)) m_1).bind fun r1=>
 some r1
theorem ou(x_0:bv)(m_1:ae):cT (jQ x_0 m_1) (fc x_0 m_1):=by
 unfold jQ fc
 repeat' first
  |with_reducible apply gw
  |with_reducible refine cT.bind ?_ (fun _=>?_)
  |(split<;>try dsimp only)
  |with_reducible exact cT.refl _
def j9(i13:Int)(s47:Sl ao)(i43:Int)(i45:Int)(i46:Int)(n48:Nat)(s16:Sl (Sl Int))(n24:Nat)(i37:Int)(x38:ah)(s39:Sl (Sl Int))(s40:Sl (Sl Int))(s41:Sl ae)(s42:Sl aj)(i44:Int):(Int×Int)->Option ((Int×Int)⊕Int):=fun(i51,i52)=>
 bif decide (i52<(s41.l.length:Int))then(((ff i52 s41.l.length).bind fun n53=>
 (bif((((ae.Sw (gt s41.l n53))==i13)&&((ae.mS (gt s41.l n53))==i37))&&((ae.oF (gt s41.l n53))==(gt ((gt s16.l n24).l) n48)))then((jQ (⟨x38,s39,s40,(⟨s41,s42,i43,i44,i45,i46⟩:dv),s47⟩:bv) (gt s41.l n53)).bind fun r54=>
 some r54)else
 (some false):Option Bool).bind fun b55=>
 bif b55 then(some (wr .i64 (i51+1)))else
 (some i51):Option Int).bind fun i56=>
 some (.inl (i56,wr .i64 (i52+1))))else
 (some (.inr i51))
theorem qu(i13:Int)(s47:Sl ao)(i43:Int)(i45:Int)(i46:Int)(n48:Nat)(s16:Sl (Sl Int))(n24:Nat)(i37:Int)(x38:ah)(s39:Sl (Sl Int))(s40:Sl (Sl Int))(s41:Sl ae)(s42:Sl aj)(i44:Int):∀s,cT (j9 i13 s47 i43 i45 i46 n48 s16 n24 i37 x38 s39 s40 s41 s42 i44 s) (dX i13 s47 i43 i45 i46 n48 s16 n24 i37 x38 s39 s40 s41 s42 i44 s):=by
 intro s;unfold j9 dX
 repeat' first
  |with_reducible apply ou
  |with_reducible refine cT.cond ?_ ?_
  |with_reducible refine cT.bind ?_ (fun _=>?_)
  |(split<;>try dsimp only)
  |with_reducible exact cT.refl _
def j8(i13:Int)(s16:Sl (Sl Int))(n24:Nat):(Int×ah×Sl (Sl Int)×Sl (Sl Int)×Sl ae×Sl aj×Int×Int×Int×Int×Sl ao)->Option ((Int×ah×Sl (Sl Int)×Sl (Sl Int)×Sl ae×Sl aj×Int×Int×Int×Int×Sl ao)⊕(ah×Sl (Sl Int)×Sl (Sl Int)×Sl ae×Sl aj×Int×Int×Int×Int×Sl ao)):=fun(i37,x38,s39,s40,s41,s42,i43,i44,i45,i46,s47)=>
 bif decide (i37<(((gt s16.l n24).l).length:Int))then((ff i37 ((gt s16.l n24).l).length).bind fun n48=>
 (ic 100000 (j9 i13 s47 i43 i45 i46 n48 s16 n24 i37 x38 s39 s40 s41 s42 i44) (0,0)).bind fun i57=>
 (ff i13 s39.l.length).bind fun n58=>
 (ff i37 ((gt s39.l n58).l).length).bind fun n59=>
 (bG x38 s39 s40 s41 s42 i43 i44 i45 i46 s47 (((gt ((gt s16.l n24).l) n48) !=(gt ((gt s39.l n58).l) n59))&&(i57 !=1)) 2 i13 i37).bind fun(q60,q61,q62,q63,q64,q65,q66,q67,q68,s69)=>
 some (.inl (wr .i64 (i37+1),q60,q61,q62,q63,q64,q65,q66,q67,q68,s69)))else
 (some (.inr (x38,s39,s40,s41,s42,i43,i44,i45,i46,s47)))
theorem qt(i13:Int)(s16:Sl (Sl Int))(n24:Nat):∀s,cT (j8 i13 s16 n24 s) (eY i13 s16 n24 s):=by
 intro s;unfold j8 eY
 repeat' first
  |with_reducible apply qu
  |with_reducible refine cT.loop (fun _=>?_) _ _
  |with_reducible refine cT.cond ?_ ?_
  |with_reducible refine cT.bind ?_ (fun _=>?_)
  |(split<;>try dsimp only)
  |with_reducible exact cT.refl _
def j7(x_0_now:Sl (Sl Int)):(Int×ah×Sl (Sl Int)×Sl (Sl Int)×Sl ae×Sl aj×Int×Int×Int×Int×Sl ao)->Option ((Int×ah×Sl (Sl Int)×Sl (Sl Int)×Sl ae×Sl aj×Int×Int×Int×Int×Sl ao)⊕(ah×Sl (Sl Int)×Sl (Sl Int)×Sl ae×Sl aj×Int×Int×Int×Int×Sl ao)):=fun(i13,x14,s15,s16,s17,s18,i19,i20,i21,i22,s23)=>
 bif decide (i13<(x_0_now.l.length:Int))then((ff i13 s16.l.length).bind fun n24=>
 (ic 100000 (j8 i13 s16 n24) (0,x14,s15,s16,s17,s18,i19,i20,i21,i22,s23)).bind fun(x70,s71,s72,s73,s74,i75,i76,i77,i78,s79)=>
 some (.inl (wr .i64 (i13+1),x70,s71,s72,s73,s74,i75,i76,i77,i78,s79)))else
 (some (.inr (x14,s15,s16,s17,s18,i19,i20,i21,i22,s23)))
theorem qs(x_0_now:Sl (Sl Int)):∀s,cT (j7 x_0_now s) (eX x_0_now s):=by
 intro s;unfold j7 eX
 repeat' first
  |with_reducible apply qt
  |with_reducible refine cT.loop (fun _=>?_) _ _
  |with_reducible refine cT.cond ?_ ?_
  |with_reducible refine cT.bind ?_ (fun _=>?_)
  |(split<;>try dsimp only)
  |with_reducible exact cT.refl _
def j6(s83:Sl ae):(Int×ah×Sl (Sl Int)×Sl (Sl Int)×Sl ae×Sl aj×Int×Int×Int×Int×Sl ao)->Option ((Int×ah×Sl (Sl Int)×Sl (Sl Int)×Sl ae×Sl aj×Int×Int×Int×Int×Sl ao)⊕(ah×Sl (Sl Int)×Sl (Sl Int)×Sl ae×Sl aj×Int×Int×Int×Int×Sl ao)):=fun(i102,x103,s104,s105,s106,s107,i108,i109,i110,i111,s112)=>
 bif decide (i102<(s83.l.length:Int))then((ff i102 s83.l.length).bind fun n113=>
 ((fB (⟨x103,s104,s105,(⟨s106,s107,i108,i109,i110,i111⟩:dv),s112⟩:bv) (gt s83.l n113)).bind fun r114=>
 bif(!r114)then((bG x103 s104 s105 s106 s107 i108 i109 i110 i111 s112 true 3 i102 (ae.mS (gt s83.l n113))).bind fun(q115,q116,q117,q118,q119,q120,q121,q122,q123,s124)=>
 some (q115,q116,q117,q118,q119,q120,q121,q122,q123,s124))else
 ((ff (ae.Sw (gt s83.l n113)) s105.l.length).bind fun n125=>
 (ff (ae.mS (gt s83.l n113)) ((gt s105.l n125).l).length).bind fun n126=>
 bif((gt ((gt s105.l n125).l) n126) !=(ae.oF (gt s83.l n113)))then((bG x103 s104 s105 s106 s107 i108 i109 i110 i111 s112 true 3 i102 (ae.mS (gt s83.l n113))).bind fun(q127,q128,q129,q130,q131,q132,q133,q134,q135,s136)=>
 some (q127,q128,q129,q130,q131,q132,q133,q134,q135,s136))else
 ((ff (ae.Sw (gt s83.l n113)) s104.l.length).bind fun n137=>
 (ff (ae.mS (gt s83.l n113)) ((gt s104.l n137).l).length).bind fun n138=>
 bif((gt ((gt s104.l n137).l) n138)==(ae.oF (gt s83.l n113)))then((bG x103 s104 s105 s106 s107 i108 i109 i110 i111 s112 true 3 i102 (ae.mS (gt s83.l n113))).bind fun(q139,q140,q141,q142,q143,q144,q145,q146,q147,s148)=>
 some (q139,q140,q141,q142,q143,q144,q145,q146,q147,s148))else
 ((jQ (⟨x103,s104,s105,(⟨s106,s107,i108,i109,i110,i111⟩:dv),s112⟩:bv) (gt s83.l n113)).bind fun r149=>
 (bG x103 s104 s105 s106 s107 i108 i109 i110 i111 s112 (!r149) 3 i102 (ae.mS (gt s83.l n113))).bind fun(q150,q151,q152,q153,q154,q155,q156,q157,q158,s159)=>
 some (q150,q151,q152,q153,q154,q155,q156,q157,q158,s159)))):Option (ah×Sl (Sl Int)×Sl (Sl Int)×Sl ae×Sl aj×Int×Int×Int×Int×Sl ao)).bind fun(x160,s161,s162,s163,s164,i165,i166,i167,i168,s169)=>
 some (.inl (wr .i64 (i102+1),x160,s161,s162,s163,s164,i165,i166,i167,i168,s169)))else
 (some (.inr (x103,s104,s105,s106,s107,i108,i109,i110,i111,s112)))
theorem qr(s83:Sl ae):∀s,cT (j6 s83 s) (eW s83 s):=by
 intro s;unfold j6 eW
 repeat' first
  |with_reducible apply ou
  |with_reducible refine cT.cond ?_ ?_
  |with_reducible refine cT.bind ?_ (fun _=>?_)
  |(split<;>try dsimp only)
  |with_reducible exact cT.refl _
def lf(x_0_t:ah)(x_0_old:Sl (Sl Int))(x_0_now:Sl (Sl Int))(x_0_p_Moves:Sl ae)(x_0_p_Rounds:Sl aj)(x_0_p_Miss:Int)(x_0_p_Life:Int)(x_0_p_From:Int)(x_0_p_To:Int)(x_0_out:Sl ao):Option (ah×Sl (Sl Int)×Sl (Sl Int)×Sl ae×Sl aj×Int×Int×Int×Int×Sl ao):=
 (ic 100000 (j7 x_0_now) (0,x_0_t,x_0_old,x_0_now,x_0_p_Moves,x_0_p_Rounds,x_0_p_Miss,x_0_p_Life,x_0_p_From,x_0_p_To,x_0_out)).bind fun(x80,s81,s82,s83,s84,i85,i86,i87,i88,s89)=>
 (ic 100000 (j6 s83) (0,x80,s81,s82,s83,s84,i85,i86,i87,i88,s89)).bind fun(x170,s171,s172,s173,s174,i175,i176,i177,i178,s179)=>
 some (x170,s171,s172,s173,s174,i175,i176,i177,i178,s179)
theorem si(x_0_t:ah)(x_0_old:Sl (Sl Int))(x_0_now:Sl (Sl Int))(x_0_p_Moves:Sl ae)(x_0_p_Rounds:Sl aj)(x_0_p_Miss:Int)(x_0_p_Life:Int)(x_0_p_From:Int)(x_0_p_To:Int)(x_0_out:Sl ao):cT (lf x_0_t x_0_old x_0_now x_0_p_Moves x_0_p_Rounds x_0_p_Miss x_0_p_Life x_0_p_From x_0_p_To x_0_out) (ga x_0_t x_0_old x_0_now x_0_p_Moves x_0_p_Rounds x_0_p_Miss x_0_p_Life x_0_p_From x_0_p_To x_0_out):=by
 unfold lf ga
 repeat' first
  |with_reducible apply qs
  |with_reducible apply qr
  |with_reducible refine cT.loop (fun _=>?_) _ _
  |with_reducible refine cT.bind ?_ (fun _=>?_)
  |(split<;>try dsimp only)
  |with_reducible exact cT.refl _
def pq(t_0:ah):Option Int:=
 (ic 100000 (jm t_0) (0,0)).bind fun i6=>
 some i6
theorem xn(t_0:ah):cT (pq t_0) (ly t_0):=by
 unfold pq ly
 repeat' first
  |with_reducible refine cT.loop (fun _=>?_) _ _
  |with_reducible refine cT.bind ?_ (fun _=>?_)
  |(split<;>try dsimp only)
  |with_reducible exact cT.refl _
def sI(t_0:ah):Option Int:=
 (pq t_0).bind fun r1=>
 some (wr .i64 ((ah.bq t_0)*r1))
theorem BQ(t_0:ah):cT (sI t_0) (nM t_0):=by
 unfold sI nM
 repeat' first
  |with_reducible apply xn
  |with_reducible refine cT.bind ?_ (fun _=>?_)
  |(split<;>try dsimp only)
  |with_reducible exact cT.refl _
def uH(t_0:ah)(miss_1:Int):Option Int:=
 (sI t_0).bind fun r1=>
 some (wr .i64 ((wr .i64 ((wr .i64 (2*miss_1))+r1))+1))
theorem Dj(t_0:ah)(miss_1:Int):cT (uH t_0 miss_1) (oe t_0 miss_1):=by
 unfold uH oe
 repeat' first
  |with_reducible apply BQ
  |with_reducible refine cT.bind ?_ (fun _=>?_)
  |(split<;>try dsimp only)
  |with_reducible exact cT.refl _
def ld(x_0_t:ah)(x_0_old:Sl (Sl Int))(x_0_now:Sl (Sl Int))(x_0_p_Moves:Sl ae)(x_0_p_Rounds:Sl aj)(x_0_p_Miss:Int)(x_0_p_Life:Int)(x_0_p_From:Int)(x_0_p_To:Int)(x_0_out:Sl ao):Option (ah×Sl (Sl Int)×Sl (Sl Int)×Sl ae×Sl aj×Int×Int×Int×Int×Sl ao):=
 (uH x_0_t (if 1048576<(if 0>x_0_p_Miss then 0 else x_0_p_Miss)then 1048576 else(if 0>x_0_p_Miss then 0 else x_0_p_Miss))).bind fun r1=>
 (ic 100000 (dW r1) (1,x_0_t,x_0_old,x_0_now,x_0_p_Moves,x_0_p_Rounds,x_0_p_Miss,x_0_p_Life,x_0_p_From,x_0_p_To,x_0_out)).bind fun(x39,s40,s41,s42,s43,i44,i45,i46,i47,s48)=>
 some (x39,s40,s41,s42,s43,i44,i45,i46,i47,s48)
theorem sh(x_0_t:ah)(x_0_old:Sl (Sl Int))(x_0_now:Sl (Sl Int))(x_0_p_Moves:Sl ae)(x_0_p_Rounds:Sl aj)(x_0_p_Miss:Int)(x_0_p_Life:Int)(x_0_p_From:Int)(x_0_p_To:Int)(x_0_out:Sl ao):cT (ld x_0_t x_0_old x_0_now x_0_p_Moves x_0_p_Rounds x_0_p_Miss x_0_p_Life x_0_p_From x_0_p_To x_0_out) (f_ x_0_t x_0_old x_0_now x_0_p_Moves x_0_p_Rounds x_0_p_Miss x_0_p_Life x_0_p_From x_0_p_To x_0_out):=by
 unfold ld f_
 repeat' first
  |with_reducible apply Dj
  |with_reducible refine cT.loop (fun _=>?_) _ _
  |with_reducible refine cT.bind ?_ (fun _=>?_)
  |(split<;>try dsimp only)
  |with_reducible exact cT.refl _
def qw(n_0:Int)(l_1:Sl aQ):Option Bool:=
 bif((decide (n_0<0))||(decide (n_0>16)))then(some false)else
 ((ic 100000 (j_ n_0 l_1) 0).bind fun
 |.inl b4=>(some b4)
 |.inr _=>(some true))
theorem zd(n_0:Int)(l_1:Sl aQ):cT (qw n_0 l_1) (lg n_0 l_1):=by
 unfold qw lg
 repeat' first
  |with_reducible refine cT.loop (fun _=>?_) _ _
  |with_reducible refine cT.cond ?_ ?_
  |with_reducible refine cT.bind ?_ (fun _=>?_)
  |(split<;>try dsimp only)
  |with_reducible exact cT.refl _
def oM(l_1:Sl aQ):(Int×Sl Int)->Option ((Int×Sl Int)⊕(Sl Int)):=fun(i5,s6)=>
 bif decide (i5<(l_1.l.length:Int))then((ff i5 l_1.l.length).bind fun n7=>
 (ff (aQ.pZ (gt l_1.l n7)) s6.l.length).bind fun n8=>
 (yj .u16 1 (aQ.To (gt l_1.l n7))).bind fun i9=>
 (ff (aQ.pZ (gt l_1.l n7)) s6.l.length).bind fun n10=>
 some (.inl (wr .i64 (i5+1),(Sl.mk (s6.l.set n10 (O0 .u16 (gt s6.l n8) i9))))))else
 (some (.inr s6))
theorem ww(l_1:Sl aQ):∀s,cT (oM l_1 s) (kG l_1 s):=by
 intro s;unfold oM kG;rw[Cn]
 repeat' first
  |with_reducible refine cT.cond ?_ ?_
  |with_reducible refine cT.bind ?_ (fun _=>?_)
  |(split<;>try dsimp only)
  |with_reducible exact cT.refl _
def rG(n_0:Int)(l_1:Sl aQ):Option (Sl Int):=
 (zO 0 n_0 n_0).bind fun l1=>
 (ic 100000 (oM l_1) (0,(Sl.mk l1))).bind fun s11=>
 some s11
theorem Ah(n_0:Int)(l_1:Sl aQ):cT (rG n_0 l_1) (nQ n_0 l_1):=by
 unfold rG nQ
 repeat' first
  |with_reducible apply ww
  |with_reducible refine cT.loop (fun _=>?_) _ _
  |with_reducible refine cT.bind ?_ (fun _=>?_)
  |(split<;>try dsimp only)
  |with_reducible exact cT.refl _
def gq(x_0:Int):Option Int:=
 bif(x_0==0)then(some 16)else
 ((ff (JU .u32 (wr .u32 ((wr .u32 (HQ .u16 x_0 (wr .u16 (0-x_0))))*125613361)) 27) 32).bind fun n1=>
 some (wr .i64 (gt H_.1 n1)))
theorem kA(x_0:Int):cT (gq x_0) (dH x_0):=by
 unfold gq dH;rw[xR]
 repeat' first
  |with_reducible refine cT.cond ?_ ?_
  |with_reducible refine cT.bind ?_ (fun _=>?_)
  |(split<;>try dsimp only)
  |with_reducible exact cT.refl _
def oN:(Int×Sl Int)->Option ((Int×Sl Int)⊕(Sl Int)):=fun(i4,s5)=>
 bif(i4 !=0)then((gq i4).bind fun r6=>
 (iG (s5.l++[r6])).bind fun l7=>
 some (.inl (HQ .u16 i4 (wr .u16 (i4-1)),(Sl.mk l7))))else
 (some (.inr s5))
theorem wx:∀s,cT (oN s) (kH s):=by
 intro s;unfold oN kH;rw[xR]
 repeat' first
  |with_reducible apply kA
  |with_reducible refine cT.cond ?_ ?_
  |with_reducible refine cT.bind ?_ (fun _=>?_)
  |(split<;>try dsimp only)
  |with_reducible exact cT.refl _
def rH(set_0:Int):Option (Sl Int):=
 (ic 100000 (oN) (set_0,Sl.nil)).bind fun s8=>
 some s8
theorem Ai(set_0:Int):cT (rH set_0) (nR set_0):=by
 unfold rH nR
 repeat' first
  |with_reducible apply wx
  |with_reducible refine cT.loop (fun _=>?_) _ _
  |with_reducible refine cT.bind ?_ (fun _=>?_)
  |(split<;>try dsimp only)
  |with_reducible exact cT.refl _
def oL(to_0:Sl Int)(r1:Sl Int):(Int×Int)->Option ((Int×Int)⊕Int):=fun(i4,i5)=>
 bif decide (i5<(r1.l.length:Int))then((ff i5 r1.l.length).bind fun n6=>
 (ff (gt r1.l n6) to_0.l.length).bind fun n7=>
 some (.inl (O0 .u16 i4 (gt to_0.l n7),wr .i64 (i5+1))))else
 (some (.inr i4))
theorem wv(to_0:Sl Int)(r1:Sl Int):∀s,cT (oL to_0 r1 s) (kF to_0 r1 s):=by
 intro s;unfold oL kF;rw[Cn]
 repeat' first
  |with_reducible refine cT.cond ?_ ?_
  |with_reducible refine cT.bind ?_ (fun _=>?_)
  |(split<;>try dsimp only)
  |with_reducible exact cT.refl _
def rF(to_0:Sl Int)(set_1:Int):Option Int:=
 (rH set_1).bind fun r1=>
 (ic 100000 (oL to_0 r1) (0,0)).bind fun i8=>
 some i8
theorem Ag(to_0:Sl Int)(set_1:Int):cT (rF to_0 set_1) (nP to_0 set_1):=by
 unfold rF nP
 repeat' first
  |with_reducible apply Ai
  |with_reducible apply wv
  |with_reducible refine cT.loop (fun _=>?_) _ _
  |with_reducible refine cT.bind ?_ (fun _=>?_)
  |(split<;>try dsimp only)
  |with_reducible exact cT.refl _
def nT(r2:Sl Int):(Int×Sl Int)->Option ((Int×Sl Int)⊕(Bool⊕(Sl Int))):=fun(i7,s8)=>
 bif(i7 !=0)then((rF r2 i7).bind fun r9=>
 bif((th .u16 i7 r9)==0)then(some (.inr (.inl false)))else
 ((gq (th .u16 i7 r9)).bind fun r10=>
 (iG (s8.l++[r10])).bind fun l11=>
 (yj .u16 1 r10).bind fun i12=>
 some (.inl (th .u16 i7 i12,(Sl.mk l11)))))else
 (some (.inr (.inr s8)))
theorem vB(r2:Sl Int):∀s,cT (nT r2 s) (iW r2 s):=by
 intro s;unfold nT iW;rw[uT]
 repeat' first
  |with_reducible apply Ag
  |with_reducible apply kA
  |with_reducible refine cT.cond ?_ ?_
  |with_reducible refine cT.bind ?_ (fun _=>?_)
  |(split<;>try dsimp only)
  |with_reducible exact cT.refl _
def qx(n_0:Int)(l_1:Sl aQ):Option (Sl Int×Bool):=
 (qw n_0 l_1).bind fun r1=>
 bif(!r1)then(some (Sl.nil,false))else
 ((rG n_0 l_1).bind fun r2=>
 (yj .u16 1 n_0).bind fun i3=>
 (ic 100000 (nT r2) (wr .u16 (i3-1),Sl.nil)).bind fun
 |.inl b13=>(some (Sl.nil,b13))
 |.inr s14=>(some (s14,true)))
theorem ze(n_0:Int)(l_1:Sl aQ):cT (qx n_0 l_1) (iJ n_0 l_1):=by
 unfold qx iJ
 repeat' first
  |with_reducible apply zd
  |with_reducible apply Ah
  |with_reducible apply vB
  |with_reducible refine cT.loop (fun _=>?_) _ _
  |with_reducible refine cT.cond ?_ ?_
  |with_reducible refine cT.bind ?_ (fun _=>?_)
  |(split<;>try dsimp only)
  |with_reducible exact cT.refl _
def ko(x_0_t:ah)(ports_1:Sl (Sl Int))(h_3:Int)(i7:Int)(n9:Nat):(Bool×Int×Sl aQ)->Option ((Bool×Int×Sl aQ)⊕(Bool×Sl aQ)):=fun(b13,i14,s15)=>
 bif decide (i14<(((gt ports_1.l n9).l).length:Int))then(((ff i14 ((gt ports_1.l n9).l).length).bind fun n16=>
 (p_ x_0_t i7 (gt ((gt ports_1.l n9).l) n16)).bind fun(r17,r18,r19,r20)=>
 bif r20 then((iG (s15.l++[(⟨i7,r17⟩:aQ)])).bind fun l21=>
 some (b13,(Sl.mk l21)))else
 ((ff h_3 ((ah.bf x_0_t).l).length).bind fun n22=>
 bif(!(decide ((gt ((ah.bf x_0_t).l) n22)=(⟨i7,gt ((gt ports_1.l n9).l) n16⟩:fR))))then(some (true,s15))else
 (some (b13,s15))):Option (Bool×Sl aQ)).bind fun(b23,s24)=>
 some (.inl (b23,wr .i64 (i14+1),s24)))else
 (some (.inr (b13,s15)))
theorem qP(x_0_t:ah)(ports_1:Sl (Sl Int))(h_3:Int)(i7:Int)(n9:Nat):∀s,cT (ko x_0_t ports_1 h_3 i7 n9 s) (eB x_0_t ports_1 h_3 i7 n9 s):=by
 intro s;unfold ko eB
 repeat' first
  |with_reducible apply u4
  |with_reducible refine cT.cond ?_ ?_
  |with_reducible refine cT.bind ?_ (fun _=>?_)
  |(split<;>try dsimp only)
  |with_reducible exact cT.refl _
def km(x_0_t:ah)(ports_1:Sl (Sl Int))(h_3:Int):(Bool×Int×Sl aQ)->Option ((Bool×Int×Sl aQ)⊕(Bool×Sl aQ)):=fun(b6,i7,s8)=>
 bif decide (i7<(ports_1.l.length:Int))then((ff i7 ports_1.l.length).bind fun n9=>
 (ic 100000 (ko x_0_t ports_1 h_3 i7 n9) (b6,0,s8)).bind fun(b25,s26)=>
 some (.inl (b25,wr .i64 (i7+1),s26)))else
 (some (.inr (b6,s8)))
theorem qO(x_0_t:ah)(ports_1:Sl (Sl Int))(h_3:Int):∀s,cT (km x_0_t ports_1 h_3 s) (fy x_0_t ports_1 h_3 s):=by
 intro s;unfold km fy
 repeat' first
  |with_reducible apply qP
  |with_reducible refine cT.loop (fun _=>?_) _ _
  |with_reducible refine cT.cond ?_ ?_
  |with_reducible refine cT.bind ?_ (fun _=>?_)
  |(split<;>try dsimp only)
  |with_reducible exact cT.refl _
def lQ(x_0_t:ah)(x_0_old:Sl (Sl Int))(x_0_now:Sl (Sl Int))(x_0_p_Moves:Sl ae)(x_0_p_Rounds:Sl aj)(x_0_p_Miss:Int)(x_0_p_Life:Int)(x_0_p_From:Int)(x_0_p_To:Int)(x_0_out:Sl ao)(ports_1:Sl (Sl Int))(k_2:Int)(h_3:Int):Option (ah×Sl (Sl Int)×Sl (Sl Int)×Sl ae×Sl aj×Int×Int×Int×Int×Sl ao):=
 (ic 100000 (km x_0_t ports_1 h_3) (false,0,Sl.nil)).bind fun(b27,s28)=>
 (qx (ah.bq x_0_t) s28).bind fun(r29,r30)=>
 (bG x_0_t x_0_old x_0_now x_0_p_Moves x_0_p_Rounds x_0_p_Miss x_0_p_Life x_0_p_From x_0_p_To x_0_out b27 5 k_2 h_3).bind fun(q31,q32,q33,q34,q35,q36,q37,q38,q39,s40)=>
 (bG q31 q32 q33 q34 q35 q36 q37 q38 q39 s40 (!r30) 6 k_2 h_3).bind fun(q41,q42,q43,q44,q45,q46,q47,q48,q49,s50)=>
 some (q41,q42,q43,q44,q45,q46,q47,q48,q49,s50)
theorem sT(x_0_t:ah)(x_0_old:Sl (Sl Int))(x_0_now:Sl (Sl Int))(x_0_p_Moves:Sl ae)(x_0_p_Rounds:Sl aj)(x_0_p_Miss:Int)(x_0_p_Life:Int)(x_0_p_From:Int)(x_0_p_To:Int)(x_0_out:Sl ao)(ports_1:Sl (Sl Int))(k_2:Int)(h_3:Int):cT (lQ x_0_t x_0_old x_0_now x_0_p_Moves x_0_p_Rounds x_0_p_Miss x_0_p_Life x_0_p_From x_0_p_To x_0_out ports_1 k_2 h_3) (ii x_0_t x_0_old x_0_now x_0_p_Moves x_0_p_Rounds x_0_p_Miss x_0_p_Life x_0_p_From x_0_p_To x_0_out ports_1 k_2 h_3):=by
 unfold lQ ii
 repeat' first
  |with_reducible apply qO
  |with_reducible apply ze
  |with_reducible refine cT.loop (fun _=>?_) _ _
  |with_reducible refine cT.bind ?_ (fun _=>?_)
  |(split<;>try dsimp only)
  |with_reducible exact cT.refl _
def jJ(x_0_p_Rounds:Sl aj)(n36:Nat)(s52:Sl (Sl Int))(s53:Sl (Sl Int))(s61:Sl ao)(s55:Sl aj)(s54:Sl ae)(i50:Int)(x51:ah)(i56:Int)(i57:Int)(i58:Int)(i59:Int):(Int×Sl (Sl Int))->Option ((Int×Sl (Sl Int))⊕(Sl (Sl Int))):=fun(i78,s79)=>
 bif decide (i78<(s54.l.length:Int))then(((ff i78 s54.l.length).bind fun n80=>
 (bif((ae.mS (gt s54.l n80))==i50)then((fB (⟨x51,s52,s53,(⟨s54,s55,i56,i57,i58,i59⟩:dv),s61⟩:bv) (gt s54.l n80)).bind fun r81=>
 bif r81 then((m8 (gt x_0_p_Rounds.l n36) (gt s54.l n80)).bind fun r82=>
 some r82)else
 (some false))else
 (some false):Option Bool).bind fun b83=>
 bif b83 then((ff (ae.Sw (gt s54.l n80)) s79.l.length).bind fun n84=>
 (iG (((gt s79.l n84).l)++[ae.oF (gt s54.l n80)])).bind fun l85=>
 (ff (ae.Sw (gt s54.l n80)) s79.l.length).bind fun n86=>
 bif Nat.beq n84 n86 then(some (Sl.mk (s79.l.set n86 (Sl.mk l85))))else(none))else
 (some s79):Option (Sl (Sl Int))).bind fun s87=>
 some (.inl (wr .i64 (i78+1),s87)))else
 (some (.inr s79))
theorem pT(x_0_p_Rounds:Sl aj)(n36:Nat)(s52:Sl (Sl Int))(s53:Sl (Sl Int))(s61:Sl ao)(s55:Sl aj)(s54:Sl ae)(i50:Int)(x51:ah)(i56:Int)(i57:Int)(i58:Int)(i59:Int):∀s,cT (jJ x_0_p_Rounds n36 s52 s53 s61 s55 s54 i50 x51 i56 i57 i58 i59 s) (eH x_0_p_Rounds n36 s52 s53 s61 s55 s54 i50 x51 i56 i57 i58 i59 s):=by
 intro s;unfold jJ eH
 repeat' first
  |with_reducible apply qv
  |with_reducible refine cT.cond ?_ ?_
  |with_reducible refine cT.bind ?_ (fun _=>?_)
  |(split<;>try dsimp only)
  |with_reducible exact cT.refl _
def jI(x_0_p_Rounds:Sl aj)(n36:Nat)(i24:Int)(x25:ah):(Int×ah×Sl (Sl Int)×Sl (Sl Int)×Sl ae×Sl aj×Int×Int×Int×Int×Sl (Sl Int)×Sl ao)->Option ((Int×ah×Sl (Sl Int)×Sl (Sl Int)×Sl ae×Sl aj×Int×Int×Int×Int×Sl (Sl Int)×Sl ao)⊕(ah×Sl (Sl Int)×Sl (Sl Int)×Sl ae×Sl aj×Int×Int×Int×Int×Sl (Sl Int)×Sl ao)):=fun(i50,x51,s52,s53,s54,s55,i56,i57,i58,i59,s60,s61)=>
 bif decide (i50<(((ah.bf x25).l).length:Int))then((zO (Sl.nil:Sl Int) (s60.l.length:Int) (s60.l.length:Int)).bind fun l62=>
 (ic 100000 (fD i50 s60) (0,s60,(Sl.mk l62))).bind fun(s73,s74)=>
 (ic 100000 (jJ x_0_p_Rounds n36 s52 s53 s61 s55 s54 i50 x51 i56 i57 i58 i59) (0,s74)).bind fun s88=>
 (lQ x51 s52 s53 s54 s55 i56 i57 i58 i59 s61 s88 i24 i50).bind fun(q89,q90,q91,q92,q93,q94,q95,q96,q97,s98)=>
 some (.inl (wr .i64 (i50+1),q89,q90,q91,q92,q93,q94,q95,q96,q97,s73,s98)))else
 (some (.inr (x51,s52,s53,s54,s55,i56,i57,i58,i59,s60,s61)))
theorem pS(x_0_p_Rounds:Sl aj)(n36:Nat)(i24:Int)(x25:ah):∀s,cT (jI x_0_p_Rounds n36 i24 x25 s) (eG x_0_p_Rounds n36 i24 x25 s):=by
 intro s;unfold jI eG
 repeat' first
  |with_reducible apply pT
  |with_reducible apply sT
  |with_reducible refine cT.loop (fun _=>?_) _ _
  |with_reducible refine cT.cond ?_ ?_
  |with_reducible refine cT.bind ?_ (fun _=>?_)
  |(split<;>try dsimp only)
  |with_reducible exact cT.refl _
def jH(x_0_p_Rounds:Sl aj)(n36:Nat)(s100:Sl (Sl Int))(s102:Sl ae)(s109:Sl ao)(x99:ah)(s101:Sl (Sl Int))(s103:Sl aj)(i104:Int)(i105:Int)(i106:Int)(i107:Int):(Int×Sl (Sl Int))->Option ((Int×Sl (Sl Int))⊕(Sl (Sl Int))):=fun(i113,s114)=>
 bif decide (i113<(s102.l.length:Int))then(((ff i113 s102.l.length).bind fun n115=>
 ((fB (⟨x99,s100,s101,(⟨s102,s103,i104,i105,i106,i107⟩:dv),s109⟩:bv) (gt s102.l n115)).bind fun r116=>
 bif r116 then((m8 (gt x_0_p_Rounds.l n36) (gt s102.l n115)).bind fun r117=>
 some r117)else
 (some false):Option Bool).bind fun b118=>
 bif b118 then((ff (ae.Sw (gt s102.l n115)) s114.l.length).bind fun n119=>
 (ff (ae.mS (gt s102.l n115)) ((gt s114.l n119).l).length).bind fun n120=>
 some (Sl.mk (s114.l.set n119 (Sl.mk (((gt s114.l n119).l).set n120 (ae.oF (gt s102.l n115)))))))else
 (some s114):Option (Sl (Sl Int))).bind fun s121=>
 some (.inl (wr .i64 (i113+1),s121)))else
 (some (.inr s114))
theorem pR(x_0_p_Rounds:Sl aj)(n36:Nat)(s100:Sl (Sl Int))(s102:Sl ae)(s109:Sl ao)(x99:ah)(s101:Sl (Sl Int))(s103:Sl aj)(i104:Int)(i105:Int)(i106:Int)(i107:Int):∀s,cT (jH x_0_p_Rounds n36 s100 s102 s109 x99 s101 s103 i104 i105 i106 i107 s) (eF x_0_p_Rounds n36 s100 s102 s109 x99 s101 s103 i104 i105 i106 i107 s):=by
 intro s;unfold jH eF
 repeat' first
  |with_reducible apply qv
  |with_reducible refine cT.cond ?_ ?_
  |with_reducible refine cT.bind ?_ (fun _=>?_)
  |(split<;>try dsimp only)
  |with_reducible exact cT.refl _
def jG(x_0_p_Rounds:Sl aj):(Int×ah×Sl (Sl Int)×Sl (Sl Int)×Sl ae×Sl aj×Int×Int×Int×Int×Sl (Sl Int)×Sl ao)->Option ((Int×ah×Sl (Sl Int)×Sl (Sl Int)×Sl ae×Sl aj×Int×Int×Int×Int×Sl (Sl Int)×Sl ao)⊕(ah×Sl (Sl Int)×Sl (Sl Int)×Sl ae×Sl aj×Int×Int×Int×Int×Sl ao)):=fun(i24,x25,s26,s27,s28,s29,i30,i31,i32,i33,s34,s35)=>
 bif decide (i24<(x_0_p_Rounds.l.length:Int))then((ff i24 x_0_p_Rounds.l.length).bind fun n36=>
 (ic 100000 (jI x_0_p_Rounds n36 i24 x25) (0,x25,s26,s27,s28,s29,i30,i31,i32,i33,s34,s35)).bind fun(x99,s100,s101,s102,s103,i104,i105,i106,i107,s108,s109)=>
 (ic 100000 (jH x_0_p_Rounds n36 s100 s102 s109 x99 s101 s103 i104 i105 i106 i107) (0,s108)).bind fun s122=>
 some (.inl (wr .i64 (i24+1),x99,s100,s101,s102,s103,i104,i105,i106,i107,s122,s109)))else
 (some (.inr (x25,s26,s27,s28,s29,i30,i31,i32,i33,s35)))
theorem pQ(x_0_p_Rounds:Sl aj):∀s,cT (jG x_0_p_Rounds s) (eE x_0_p_Rounds s):=by
 intro s;unfold jG eE
 repeat' first
  |with_reducible apply pS
  |with_reducible apply pR
  |with_reducible refine cT.loop (fun _=>?_) _ _
  |with_reducible refine cT.cond ?_ ?_
  |with_reducible refine cT.bind ?_ (fun _=>?_)
  |(split<;>try dsimp only)
  |with_reducible exact cT.refl _
def kM(x_0_t:ah)(x_0_old:Sl (Sl Int))(x_0_now:Sl (Sl Int))(x_0_p_Moves:Sl ae)(x_0_p_Rounds:Sl aj)(x_0_p_Miss:Int)(x_0_p_Life:Int)(x_0_p_From:Int)(x_0_p_To:Int)(x_0_out:Sl ao):Option (ah×Sl (Sl Int)×Sl (Sl Int)×Sl ae×Sl aj×Int×Int×Int×Int×Sl ao):=
 (zO (Sl.nil:Sl Int) (x_0_old.l.length:Int) (x_0_old.l.length:Int)).bind fun l1=>
 (ic 100000 (fE x_0_old) (0,(Sl.mk l1))).bind fun s10=>
 (ic 100000 (jG x_0_p_Rounds) (0,x_0_t,x_0_old,x_0_now,x_0_p_Moves,x_0_p_Rounds,x_0_p_Miss,x_0_p_Life,x_0_p_From,x_0_p_To,s10,x_0_out)).bind fun(x123,s124,s125,s126,s127,i128,i129,i130,i131,s132)=>
 some (x123,s124,s125,s126,s127,i128,i129,i130,i131,s132)
theorem rC(x_0_t:ah)(x_0_old:Sl (Sl Int))(x_0_now:Sl (Sl Int))(x_0_p_Moves:Sl ae)(x_0_p_Rounds:Sl aj)(x_0_p_Miss:Int)(x_0_p_Life:Int)(x_0_p_From:Int)(x_0_p_To:Int)(x_0_out:Sl ao):cT (kM x_0_t x_0_old x_0_now x_0_p_Moves x_0_p_Rounds x_0_p_Miss x_0_p_Life x_0_p_From x_0_p_To x_0_out) (gH x_0_t x_0_old x_0_now x_0_p_Moves x_0_p_Rounds x_0_p_Miss x_0_p_Life x_0_p_From x_0_p_To x_0_out):=by
 unfold kM gH
 repeat' first
  |with_reducible apply pQ
  |with_reducible refine cT.loop (fun _=>?_) _ _
  |with_reducible refine cT.bind ?_ (fun _=>?_)
  |(split<;>try dsimp only)
  |with_reducible exact cT.refl _
def nX(t_0:ah)(old_1:Sl (Sl Int))(now_2:Sl (Sl Int))(p_3:aK):Option (Sl ao):=
 ((o8 t_0 old_1).bind fun r1=>
 bif(!r1)then(some true)else
 ((o8 t_0 now_2).bind fun r2=>
 some (!r2)):Option Bool).bind fun b3=>
 bif b3 then(some (Sl.mk [(⟨1,0,0⟩:ao)]))else
 ((lf t_0 old_1 now_2 (aK.jx p_3) (aK.fS p_3) (aK.CB p_3) (aK.J1 p_3) (aK.pZ p_3) (aK.To p_3) Sl.nil).bind fun(q4,q5,q6,q7,q8,q9,q10,q11,q12,s13)=>
 (ld q4 q5 q6 q7 q8 q9 q10 q11 q12 s13).bind fun(q14,q15,q16,q17,q18,q19,q20,q21,q22,s23)=>
 (kM q14 q15 q16 q17 q18 q19 q20 q21 q22 s23).bind fun(q24,q25,q26,q27,q28,q29,q30,q31,q32,s33)=>
 some s33)
theorem y8(t_0:ah)(old_1:Sl (Sl Int))(now_2:Sl (Sl Int))(p_3:aK):cT (nX t_0 old_1 now_2 p_3) (fT t_0 old_1 now_2 p_3):=by
 unfold nX fT
 repeat' first
  |with_reducible apply z7
  |with_reducible apply si
  |with_reducible apply sh
  |with_reducible apply rC
  |with_reducible refine cT.cond ?_ ?_
  |with_reducible refine cT.bind ?_ (fun _=>?_)
  |(split<;>try dsimp only)
  |with_reducible exact cT.refl _
def ug:Option Bool:=
 (nX (⟨3,(Sl.mk [(⟨0,0,1,0,1,1⟩:bz),(⟨1,1,2,0,1,1⟩:bz),(⟨0,1,2,1,1,1⟩:bz)]),(Sl.mk [(⟨2,7⟩:fR)])⟩:ah) (Sl.mk [(Sl.mk [0]),(Sl.mk [1]),(Sl.mk [7])]) (Sl.mk [(Sl.mk [1]),(Sl.mk [1]),(Sl.mk [7])]) (⟨Sl.nil,Sl.nil,0,0,0,0⟩:aK)).bind fun r1=>
 (bif((r1.l.length:Int)==1)then((ff 0 r1.l.length).bind fun n2=>
 bif decide ((gt r1.l n2)=(⟨2,0,0⟩:ao))then((uM 6).bind fun r3=>
 bif(r3.toList==(⟨#[108,111,111,112]⟩:ByteArray).toList)then((nX (⟨0,Sl.nil,Sl.nil⟩:ah) Sl.nil Sl.nil (⟨Sl.nil,Sl.nil,0,0,0,0⟩:aK)).bind fun r4=>
 some ((r4.l.length:Int)==1))else
 (some false))else
 (some false))else
 (some false):Option Bool).bind fun b5=>
 some b5
theorem yX:cT (ug) (ju):=by
 unfold ug ju
 repeat' first
  |with_reducible apply y8
  |with_reducible refine cT.cond ?_ ?_
  |with_reducible refine cT.bind ?_ (fun _=>?_)
  |(split<;>try dsimp only)
  |with_reducible exact cT.refl _
theorem gf:ju=some true:=yX _ (by decide+kernel)
end Go.Proofs.YthcplpfiidlinaaDoor.J
