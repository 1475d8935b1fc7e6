/- jt answers true: by running its twin. Conditions: none. -/
import Derived.Test.YthcplpfiidlinaaDoorJ
import Derived.Test.YthcplpfiidlinaaDoorTwin
open Go.Ev Go
noncomputable section
namespace Go.Proofs.YthcplpfiidlinaaDoor.J
def qe(t_0:ah):Option (Sl bm):=
 (h_ 100000 (k7 t_0) (0,Sl.nil)).bind fun s8=>
 (h_ 100000 (kZ t_0) (0,s8)).bind fun s15=>
 some s15
theorem xS(t_0:ah):cT (qe t_0) (mz t_0):=by
 unfold qe mz
 repeat' first
  |with_reducible refine cT.loop (fun _=>?_) _ _
  |with_reducible refine cT.bind ?_ (fun _=>?_)
  |(split<;>try dsimp only)
  |with_reducible exact cT.refl _
def q_(t_0:ah):Option Bool:=
 bif((((decide ((ah.bq t_0)<1))||(decide ((ah.bq t_0)>8)))||(decide ((((ah.bU t_0).l).length:Int)>24)))||(decide ((((ah.bd t_0).l).length:Int)>8)))then(some false)else
 ((h_ 100000 (lS t_0) 0).bind fun
 |.inl b4=>(some b4)
 |.inr _=>((qe t_0).bind fun r5=>
 (h_ 100000 (iG t_0 r5) (0,(Mp.none:Mp bm Int))).bind fun
 |.inl b13=>(some b13)
 |.inr _=>(some true)))
theorem zJ(t_0:ah):cT (q_ t_0) (nA t_0):=by
 unfold q_ nA
 repeat' first
  |with_reducible apply xS
  |with_reducible refine cT.loop (fun _=>?_) _ _
  |with_reducible refine cT.cond ?_ ?_
  |with_reducible refine cT.bind ?_ (fun _=>?_)
  |(split<;>try dsimp only)
  |with_reducible exact cT.refl _
def eP(s_0:Sl Int):Option Int:=
 (h_ 100000 (cK s_0) 0).bind fun
 |.inl i5=>(some i5)
 |.inr _=>(some (-1))
theorem kw(s_0:Sl Int):cT (eP s_0) (c8 s_0):=by
 unfold eP c8
 repeat' first
  |with_reducible refine cT.loop (fun _=>?_) _ _
  |with_reducible refine cT.bind ?_ (fun _=>?_)
  |(split<;>try dsimp only)
  |with_reducible exact cT.refl _
def eg(s_0:Sl Int):Option Bool:=
 (eP s_0).bind fun r1=>
 some (decide (r1>=0))
theorem jS(s_0:Sl Int):cT (eg s_0) (bT s_0):=by
 unfold eg bT
 repeat' first
  |with_reducible apply kw
  |with_reducible refine cT.bind ?_ (fun _=>?_)
  |(split<;>try dsimp only)
  |with_reducible exact cT.refl _
def nF(t_0:ah)(r_1:Sl (Sl Int)):Int->Option (Int⊕(Bool⊕Unit)):=fun i3=>
 bif decide (i3<(r_1.l.length:Int))then((eX i3 r_1.l.length).bind fun n4=>
 (bif((((gt r_1.l n4).l).length:Int) !=(((ah.bd t_0).l).length:Int))then(some true)else
 ((eg (gt r_1.l n4)).bind fun r5=>
 some r5):Option Bool).bind fun b6=>
 bif b6 then(some (.inr (.inl false)))else
 (some (.inl (wr .i64 (i3+1)))))else
 (some (.inr (.inr ())))
theorem uV(t_0:ah)(r_1:Sl (Sl Int)):∀s,cT (nF t_0 r_1 s) (jU t_0 r_1 s):=by
 intro s;unfold nF jU
 repeat' first
  |with_reducible apply jS
  |with_reducible refine cT.cond ?_ ?_
  |with_reducible refine cT.bind ?_ (fun _=>?_)
  |(split<;>try dsimp only)
  |with_reducible exact cT.refl _
def lU(t_0:ah)(r_1:Sl (Sl Int)):Option Bool:=
 (q_ t_0).bind fun r1=>
 bif((!r1)||((r_1.l.length:Int) !=(ah.bq t_0)))then(some false)else
 ((h_ 100000 (nF t_0 r_1) 0).bind fun
 |.inl b7=>(some b7)
 |.inr _=>(some true))
theorem pp(t_0:ah)(r_1:Sl (Sl Int)):cT (lU t_0 r_1) (jr t_0 r_1):=by
 unfold lU jr
 repeat' first
  |with_reducible apply zJ
  |with_reducible apply uV
  |with_reducible refine cT.loop (fun _=>?_) _ _
  |with_reducible refine cT.cond ?_ ?_
  |with_reducible refine cT.bind ?_ (fun _=>?_)
  |(split<;>try dsimp only)
  |with_reducible exact cT.refl _
def ke(s_0:Sl Int)(v_1:Int):Option Int:=
 (h_ 100000 (f_ s_0 v_1) 0).bind fun
 |.inl i4=>(some i4)
 |.inr _=>(some (-1))
theorem qy(s_0:Sl Int)(v_1:Int):cT (ke s_0 v_1) (hC s_0 v_1):=by
 unfold ke hC
 repeat' first
  |with_reducible refine cT.loop (fun _=>?_) _ _
  |with_reducible refine cT.bind ?_ (fun _=>?_)
  |(split<;>try dsimp only)
  |with_reducible exact cT.refl _
def fM(s_0:Sl Int)(v_1:Int):Option Bool:=
 (ke s_0 v_1).bind fun r1=>
 some (decide (r1>=0))
theorem iR(s_0:Sl Int)(v_1:Int):cT (fM s_0 v_1) (cN s_0 v_1):=by
 unfold fM cN
 repeat' first
  |with_reducible apply qy
  |with_reducible refine cT.bind ?_ (fun _=>?_)
  |(split<;>try dsimp only)
  |with_reducible exact cT.refl _
def mR(l_0:Sl Int):Option Bool:=
 (bif decide ((l_0.l.length:Int)>0)then((qr l_0.l 0 (wr .i64 ((l_0.l.length:Int)-1))).bind fun l1=>
 (eX (wr .i64 ((l_0.l.length:Int)-1)) l_0.l.length).bind fun n2=>
 (fM (l_0.to l1) (gt l_0.l n2)).bind fun r3=>
 some r3)else
 (some false):Option Bool).bind fun b4=>
 some b4
theorem ut(l_0:Sl Int):cT (mR l_0) (iq l_0):=by
 unfold mR iq
 repeat' first
  |with_reducible apply iR
  |with_reducible refine cT.cond ?_ ?_
  |with_reducible refine cT.bind ?_ (fun _=>?_)
  |(split<;>try dsimp only)
  |with_reducible exact cT.refl _
def pW(t_0:ah)(sw_1:Int)(port_2:Int):Option (Int×Int×Int×Bool):=
 (h_ 100000 (mN t_0 sw_1 port_2) 0).bind fun
 |.inl (i4,i5,i6,b7)=>(some (i4,i5,i6,b7))
 |.inr _=>(some (0,0,0,false))
theorem uQ(t_0:ah)(sw_1:Int)(port_2:Int):cT (pW t_0 sw_1 port_2) (nB t_0 sw_1 port_2):=by
 unfold pW nB
 repeat' first
  |with_reducible refine cT.loop (fun _=>?_) _ _
  |with_reducible refine cT.bind ?_ (fun _=>?_)
  |(split<;>try dsimp only)
  |with_reducible exact cT.refl _
def rh(t_0:ah)(r_1:Sl (Sl Int))(sw_2:Int)(h_3:Int):Option (Int×Bool):=
 (mo r_1 sw_2 h_3).bind fun(r1,r2)=>
 bif(!r2)then(some (0,false))else
 ((pW t_0 sw_2 r1).bind fun(r3,r4,r5,r6)=>
 some (r3,r6))
theorem zR(t_0:ah)(r_1:Sl (Sl Int))(sw_2:Int)(h_3:Int):cT (rh t_0 r_1 sw_2 h_3) (nG t_0 r_1 sw_2 h_3):=by
 unfold rh nG
 repeat' first
  |with_reducible apply uQ
  |with_reducible refine cT.cond ?_ ?_
  |with_reducible refine cT.bind ?_ (fun _=>?_)
  |(split<;>try dsimp only)
  |with_reducible exact cT.refl _
def oC(t_0:ah)(r_1:Sl (Sl Int))(h_3:Int):(Sl Int)->Option (Sl Int⊕((Int×Sl Int)⊕Unit)):=fun s6=>
 (mR s6).bind fun r7=>
 bif(!r7)then((eX (wr .i64 ((s6.l.length:Int)-1)) s6.l.length).bind fun n8=>
 (eX h_3 ((ah.bd t_0).l).length).bind fun n9=>
 (eX (gt s6.l n8) r_1.l.length).bind fun n10=>
 (eX h_3 ((gt r_1.l n10).l).length).bind fun n11=>
 bif decide ((gt ((ah.bd t_0).l) n9)=(⟨gt s6.l n8,gt ((gt r_1.l n10).l) n11⟩:fQ))then(some (.inr (.inl (0,s6))))else
 ((rh t_0 r_1 (gt s6.l n8) h_3).bind fun(r12,r13)=>
 bif(!r13)then(some (.inr (.inl (13,Sl.nil))))else
 ((iF (s6.l++[r12])).bind fun l14=>
 some (.inl (Sl.mk l14)))))else
 (some (.inr (.inr ())))
theorem vW(t_0:ah)(r_1:Sl (Sl Int))(h_3:Int):∀s,cT (oC t_0 r_1 h_3 s) (dX t_0 r_1 h_3 s):=by
 intro s;unfold oC dX
 repeat' first
  |with_reducible apply ut
  |with_reducible apply zR
  |with_reducible refine cT.cond ?_ ?_
  |with_reducible refine cT.bind ?_ (fun _=>?_)
  |(split<;>try dsimp only)
  |with_reducible exact cT.refl _
def rg(t_0:ah)(r_1:Sl (Sl Int))(sw_2:Int)(h_3:Int):Option (Sl Int×Int):=
 (mo r_1 sw_2 h_3).bind fun(r1,r2)=>
 (bif(!r2)then(some true)else
 ((lU t_0 r_1).bind fun r3=>
 some (!r3)):Option Bool).bind fun b4=>
 bif b4 then(some (Sl.nil,2))else
 ((h_ 100000 (oC t_0 r_1 h_3) (Sl.mk [sw_2])).bind fun
 |.inl (i15,s16)=>(some (s16,i15))
 |.inr _=>(some (Sl.nil,12)))
theorem zQ(t_0:ah)(r_1:Sl (Sl Int))(sw_2:Int)(h_3:Int):cT (rg t_0 r_1 sw_2 h_3) (jA t_0 r_1 sw_2 h_3):=by
 unfold rg jA
 repeat' first
  |with_reducible apply pp
  |with_reducible apply vW
  |with_reducible refine cT.loop (fun _=>?_) _ _
  |with_reducible refine cT.cond ?_ ?_
  |with_reducible refine cT.bind ?_ (fun _=>?_)
  |(split<;>try dsimp only)
  |with_reducible exact cT.refl _
def pq(t_0:ah)(r_1:Sl (Sl Int))(h_2:Int):(Int×Sl Int)->Option ((Int×Sl Int)⊕(Sl Int)):=fun(i5,s6)=>
 bif decide (i5<(r_1.l.length:Int))then((rg t_0 r_1 i5 h_2).bind fun(r7,r8)=>
 (iF (s6.l++[wr .i64 ((r7.l.length:Int)-1)])).bind fun l9=>
 some (.inl (wr .i64 (i5+1),(Sl.mk l9))))else
 (some (.inr s6))
theorem xe(t_0:ah)(r_1:Sl (Sl Int))(h_2:Int):∀s,cT (pq t_0 r_1 h_2 s) (gz t_0 r_1 h_2 s):=by
 intro s;unfold pq gz
 repeat' first
  |with_reducible apply zQ
  |with_reducible refine cT.cond ?_ ?_
  |with_reducible refine cT.bind ?_ (fun _=>?_)
  |(split<;>try dsimp only)
  |with_reducible exact cT.refl _
def sv(t_0:ah)(r_1:Sl (Sl Int))(h_2:Int):Option (Sl Int):=
 (lU t_0 r_1).bind fun r1=>
 bif(((!r1)||(decide (h_2<0)))||(decide (h_2>=(((ah.bd t_0).l).length:Int))))then(some Sl.nil)else
 ((h_ 100000 (pq t_0 r_1 h_2) (0,Sl.nil)).bind fun s10=>
 some s10)
theorem BD(t_0:ah)(r_1:Sl (Sl Int))(h_2:Int):cT (sv t_0 r_1 h_2) (lw t_0 r_1 h_2):=by
 unfold sv lw
 repeat' first
  |with_reducible apply pp
  |with_reducible apply xe
  |with_reducible refine cT.loop (fun _=>?_) _ _
  |with_reducible refine cT.cond ?_ ?_
  |with_reducible refine cT.bind ?_ (fun _=>?_)
  |(split<;>try dsimp only)
  |with_reducible exact cT.refl _
def oD(t_0:ah)(r_1:Sl (Sl Int)):Int->Option (Int⊕(Bool⊕Unit)):=fun i3=>
 bif decide (i3<(((ah.bd t_0).l).length:Int))then((sv t_0 r_1 i3).bind fun r4=>
 (fM r4 (-1)).bind fun r5=>
 bif r5 then(some (.inr (.inl false)))else
 (some (.inl (wr .i64 (i3+1)))))else
 (some (.inr (.inr ())))
theorem vX(t_0:ah)(r_1:Sl (Sl Int)):∀s,cT (oD t_0 r_1 s) (gW t_0 r_1 s):=by
 intro s;unfold oD gW
 repeat' first
  |with_reducible apply BD
  |with_reducible apply iR
  |with_reducible refine cT.cond ?_ ?_
  |with_reducible refine cT.bind ?_ (fun _=>?_)
  |(split<;>try dsimp only)
  |with_reducible exact cT.refl _
def oX(t_0:ah)(r_1:Sl (Sl Int)):Option Bool:=
 (lU t_0 r_1).bind fun r1=>
 bif(!r1)then(some false)else
 ((h_ 100000 (oD t_0 r_1) 0).bind fun
 |.inl b6=>(some b6)
 |.inr _=>(some true))
theorem zS(t_0:ah)(r_1:Sl (Sl Int)):cT (oX t_0 r_1) (ir t_0 r_1):=by
 unfold oX ir
 repeat' first
  |with_reducible apply pp
  |with_reducible apply vX
  |with_reducible refine cT.loop (fun _=>?_) _ _
  |with_reducible refine cT.cond ?_ ?_
  |with_reducible refine cT.bind ?_ (fun _=>?_)
  |(split<;>try dsimp only)
  |with_reducible exact cT.refl _
def mX(r_0:aj)(m_1:ae):Option Bool:=
 (bif((ae.vC m_1)==(aj.No r_0))then((fM (aj.SC r_0) (ae.Sw m_1)).bind fun r1=>
 some r1)else
 (some false):Option Bool).bind fun b2=>
 some b2
theorem qm(r_0:aj)(m_1:ae):cT (mX r_0 m_1) (ki r_0 m_1):=by
 unfold mX ki
 repeat' first
  |with_reducible apply iR
  |with_reducible refine cT.cond ?_ ?_
  |with_reducible refine cT.bind ?_ (fun _=>?_)
  |(split<;>try dsimp only)
  |with_reducible exact cT.refl _
def kJ(r_0:aj)(c_1:ae):Option Bool:=
 (mX r_0 c_1).bind fun r1=>
 some r1
theorem rq(r_0:aj)(c_1:ae):cT (kJ r_0 c_1) (iv r_0 c_1):=by
 unfold kJ iv
 repeat' first
  |with_reducible apply qm
  |with_reducible refine cT.bind ?_ (fun _=>?_)
  |(split<;>try dsimp only)
  |with_reducible exact cT.refl _
def cB(s_0:Sl aj)(f_1_c0:ae):Int->Option (Int⊕(Int⊕Unit)):=fun i2=>
 bif decide (i2<(s_0.l.length:Int))then((eX i2 s_0.l.length).bind fun n3=>
 (kJ (gt s_0.l n3) f_1_c0).bind fun r4=>
 bif r4 then(some (.inr (.inl i2)))else
 (some (.inl (wr .i64 (i2+1)))))else
 (some (.inr (.inr ())))
theorem gq(s_0:Sl aj)(f_1_c0:ae):∀s,cT (cB s_0 f_1_c0 s) (bf s_0 f_1_c0 s):=by
 intro s;unfold cB bf
 repeat' first
  |with_reducible apply rq
  |with_reducible refine cT.cond ?_ ?_
  |with_reducible refine cT.bind ?_ (fun _=>?_)
  |(split<;>try dsimp only)
  |with_reducible exact cT.refl _
def cM(s_0:Sl aj)(f_1_c0:ae):Option Int:=
 (h_ 100000 (cB s_0 f_1_c0) 0).bind fun
 |.inl i5=>(some i5)
 |.inr _=>(some (-1))
theorem gI(s_0:Sl aj)(f_1_c0:ae):cT (cM s_0 f_1_c0) (bC s_0 f_1_c0):=by
 unfold cM bC
 repeat' first
  |with_reducible apply gq
  |with_reducible refine cT.loop (fun _=>?_) _ _
  |with_reducible refine cT.bind ?_ (fun _=>?_)
  |(split<;>try dsimp only)
  |with_reducible exact cT.refl _
def cC(s_0:Sl aj)(f_1_c0:ae):Option Bool:=
 (cM s_0 f_1_c0).bind fun r1=>
 some (decide (r1>=0))
theorem gr(s_0:Sl aj)(f_1_c0:ae):cT (cC s_0 f_1_c0) (br s_0 f_1_c0):=by
 unfold cC br
 repeat' first
  |with_reducible apply gI
  |with_reducible refine cT.bind ?_ (fun _=>?_)
  |(split<;>try dsimp only)
  |with_reducible exact cT.refl _
def jL(x_0:bv)(m_1:ae):Option Bool:=
 (cC (aJ.fo (bv.p x_0)) m_1).bind fun r1=>
 some r1
theorem oo(x_0:bv)(m_1:ae):cT (jL x_0 m_1) (eW x_0 m_1):=by
 unfold jL eW
 repeat' first
  |with_reducible apply gr
  |with_reducible refine cT.bind ?_ (fun _=>?_)
  |(split<;>try dsimp only)
  |with_reducible exact cT.refl _
def j4(i13:Int)(s47:Sl am)(i43:Int)(i45:Int)(i46:Int)(n48:Nat)(s16:Sl (Sl Int))(n24:Nat)(i37:Int)(x38:ah)(s39:Sl (Sl Int))(s40:Sl (Sl Int))(s41:Sl ae)(s42:Sl aj)(i44:Int):(Int×Int)->Option ((Int×Int)⊕Int):=fun(i51,i52)=>
 bif decide (i52<(s41.l.length:Int))then(((eX i52 s41.l.length).bind fun n53=>
 (bif((((ae.Sw (gt s41.l n53))==i13)&&((ae.mL (gt s41.l n53))==i37))&&((ae.oA (gt s41.l n53))==(gt ((gt s16.l n24).l) n48)))then((jL (⟨x38,s39,s40,(⟨s41,s42,i43,i44,i45,i46⟩:dh),s47⟩:bv) (gt s41.l n53)).bind fun r54=>
 some r54)else
 (some false):Option Bool).bind fun b55=>
 bif b55 then(some (wr .i64 (i51+1)))else
 (some i51):Option Int).bind fun i56=>
 some (.inl (i56,wr .i64 (i52+1))))else
 (some (.inr i51))
theorem ql(i13:Int)(s47:Sl am)(i43:Int)(i45:Int)(i46:Int)(n48:Nat)(s16:Sl (Sl Int))(n24:Nat)(i37:Int)(x38:ah)(s39:Sl (Sl Int))(s40:Sl (Sl Int))(s41:Sl ae)(s42:Sl aj)(i44:Int):∀s,cT (j4 i13 s47 i43 i45 i46 n48 s16 n24 i37 x38 s39 s40 s41 s42 i44 s) (dR i13 s47 i43 i45 i46 n48 s16 n24 i37 x38 s39 s40 s41 s42 i44 s):=by
 intro s;unfold j4 dR
 repeat' first
  |with_reducible apply oo
  |with_reducible refine cT.cond ?_ ?_
  |with_reducible refine cT.bind ?_ (fun _=>?_)
  |(split<;>try dsimp only)
  |with_reducible exact cT.refl _
def j3(i13:Int)(s16:Sl (Sl Int))(n24:Nat):(Int×ah×Sl (Sl Int)×Sl (Sl Int)×Sl ae×Sl aj×Int×Int×Int×Int×Sl am)->Option ((Int×ah×Sl (Sl Int)×Sl (Sl Int)×Sl ae×Sl aj×Int×Int×Int×Int×Sl am)⊕(ah×Sl (Sl Int)×Sl (Sl Int)×Sl ae×Sl aj×Int×Int×Int×Int×Sl am)):=fun(i37,x38,s39,s40,s41,s42,i43,i44,i45,i46,s47)=>
 bif decide (i37<(((gt s16.l n24).l).length:Int))then((eX i37 ((gt s16.l n24).l).length).bind fun n48=>
 (h_ 100000 (j4 i13 s47 i43 i45 i46 n48 s16 n24 i37 x38 s39 s40 s41 s42 i44) (0,0)).bind fun i57=>
 (eX i13 s39.l.length).bind fun n58=>
 (eX i37 ((gt s39.l n58).l).length).bind fun n59=>
 (bF x38 s39 s40 s41 s42 i43 i44 i45 i46 s47 (((gt ((gt s16.l n24).l) n48) !=(gt ((gt s39.l n58).l) n59))&&(i57 !=1)) 2 i13 i37).bind fun(q60,q61,q62,q63,q64,q65,q66,q67,q68,s69)=>
 some (.inl (wr .i64 (i37+1),q60,q61,q62,q63,q64,q65,q66,q67,q68,s69)))else
 (some (.inr (x38,s39,s40,s41,s42,i43,i44,i45,i46,s47)))
theorem qk(i13:Int)(s16:Sl (Sl Int))(n24:Nat):∀s,cT (j3 i13 s16 n24 s) (eS i13 s16 n24 s):=by
 intro s;unfold j3 eS
 repeat' first
  |with_reducible apply ql
  |with_reducible refine cT.loop (fun _=>?_) _ _
  |with_reducible refine cT.cond ?_ ?_
  |with_reducible refine cT.bind ?_ (fun _=>?_)
  |(split<;>try dsimp only)
  |with_reducible exact cT.refl _
def jZ(x_0_now:Sl (Sl Int)):(Int×ah×Sl (Sl Int)×Sl (Sl Int)×Sl ae×Sl aj×Int×Int×Int×Int×Sl am)->Option ((Int×ah×Sl (Sl Int)×Sl (Sl Int)×Sl ae×Sl aj×Int×Int×Int×Int×Sl am)⊕(ah×Sl (Sl Int)×Sl (Sl Int)×Sl ae×Sl aj×Int×Int×Int×Int×Sl am)):=fun(i13,x14,s15,s16,s17,s18,i19,i20,i21,i22,s23)=>
 bif decide (i13<(x_0_now.l.length:Int))then((eX i13 s16.l.length).bind fun n24=>
 (h_ 100000 (j3 i13 s16 n24) (0,x14,s15,s16,s17,s18,i19,i20,i21,i22,s23)).bind fun(x70,s71,s72,s73,s74,i75,i76,i77,i78,s79)=>
 some (.inl (wr .i64 (i13+1),x70,s71,s72,s73,s74,i75,i76,i77,i78,s79)))else
 (some (.inr (x14,s15,s16,s17,s18,i19,i20,i21,i22,s23)))
theorem qj(x_0_now:Sl (Sl Int)):∀s,cT (jZ x_0_now s) (eR x_0_now s):=by
 intro s;unfold jZ eR
 repeat' first
  |with_reducible apply qk
  |with_reducible refine cT.loop (fun _=>?_) _ _
  |with_reducible refine cT.cond ?_ ?_
  |with_reducible refine cT.bind ?_ (fun _=>?_)
  |(split<;>try dsimp only)
  |with_reducible exact cT.refl _
def jY(s83:Sl ae):(Int×ah×Sl (Sl Int)×Sl (Sl Int)×Sl ae×Sl aj×Int×Int×Int×Int×Sl am)->Option ((Int×ah×Sl (Sl Int)×Sl (Sl Int)×Sl ae×Sl aj×Int×Int×Int×Int×Sl am)⊕(ah×Sl (Sl Int)×Sl (Sl Int)×Sl ae×Sl aj×Int×Int×Int×Int×Sl am)):=fun(i102,x103,s104,s105,s106,s107,i108,i109,i110,i111,s112)=>
 bif decide (i102<(s83.l.length:Int))then((eX i102 s83.l.length).bind fun n113=>
 ((fx (⟨x103,s104,s105,(⟨s106,s107,i108,i109,i110,i111⟩:dh),s112⟩:bv) (gt s83.l n113)).bind fun r114=>
 bif(!r114)then((bF x103 s104 s105 s106 s107 i108 i109 i110 i111 s112 true 3 i102 (ae.mL (gt s83.l n113))).bind fun(q115,q116,q117,q118,q119,q120,q121,q122,q123,s124)=>
 some (q115,q116,q117,q118,q119,q120,q121,q122,q123,s124))else
 ((eX (ae.Sw (gt s83.l n113)) s105.l.length).bind fun n125=>
 (eX (ae.mL (gt s83.l n113)) ((gt s105.l n125).l).length).bind fun n126=>
 bif((gt ((gt s105.l n125).l) n126) !=(ae.oA (gt s83.l n113)))then((bF x103 s104 s105 s106 s107 i108 i109 i110 i111 s112 true 3 i102 (ae.mL (gt s83.l n113))).bind fun(q127,q128,q129,q130,q131,q132,q133,q134,q135,s136)=>
 some (q127,q128,q129,q130,q131,q132,q133,q134,q135,s136))else
 ((eX (ae.Sw (gt s83.l n113)) s104.l.length).bind fun n137=>
 (eX (ae.mL (gt s83.l n113)) ((gt s104.l n137).l).length).bind fun n138=>
 bif((gt ((gt s104.l n137).l) n138)==(ae.oA (gt s83.l n113)))then((bF x103 s104 s105 s106 s107 i108 i109 i110 i111 s112 true 3 i102 (ae.mL (gt s83.l n113))).bind fun(q139,q140,q141,q142,q143,q144,q145,q146,q147,s148)=>
 some (q139,q140,q141,q142,q143,q144,q145,q146,q147,s148))else
 ((jL (⟨x103,s104,s105,(⟨s106,s107,i108,i109,i110,i111⟩:dh),s112⟩:bv) (gt s83.l n113)).bind fun r149=>
 (bF x103 s104 s105 s106 s107 i108 i109 i110 i111 s112 (!r149) 3 i102 (ae.mL (gt s83.l n113))).bind fun(q150,q151,q152,q153,q154,q155,q156,q157,q158,s159)=>
 some (q150,q151,q152,q153,q154,q155,q156,q157,q158,s159)))):Option (ah×Sl (Sl Int)×Sl (Sl Int)×Sl ae×Sl aj×Int×Int×Int×Int×Sl am)).bind fun(x160,s161,s162,s163,s164,i165,i166,i167,i168,s169)=>
 some (.inl (wr .i64 (i102+1),x160,s161,s162,s163,s164,i165,i166,i167,i168,s169)))else
 (some (.inr (x103,s104,s105,s106,s107,i108,i109,i110,i111,s112)))
theorem qi(s83:Sl ae):∀s,cT (jY s83 s) (eQ s83 s):=by
 intro s;unfold jY eQ
 repeat' first
  |with_reducible apply oo
  |with_reducible refine cT.cond ?_ ?_
  |with_reducible refine cT.bind ?_ (fun _=>?_)
  |(split<;>try dsimp only)
  |with_reducible exact cT.refl _
def lc(x_0_t:ah)(x_0_old:Sl (Sl Int))(x_0_now:Sl (Sl Int))(x_0_p_Moves:Sl ae)(x_0_p_Rounds:Sl aj)(x_0_p_Miss:Int)(x_0_p_Life:Int)(x_0_p_From:Int)(x_0_p_To:Int)(x_0_out:Sl am):Option (ah×Sl (Sl Int)×Sl (Sl Int)×Sl ae×Sl aj×Int×Int×Int×Int×Sl am):=
 (h_ 100000 (jZ x_0_now) (0,x_0_t,x_0_old,x_0_now,x_0_p_Moves,x_0_p_Rounds,x_0_p_Miss,x_0_p_Life,x_0_p_From,x_0_p_To,x_0_out)).bind fun(x80,s81,s82,s83,s84,i85,i86,i87,i88,s89)=>
 (h_ 100000 (jY s83) (0,x80,s81,s82,s83,s84,i85,i86,i87,i88,s89)).bind fun(x170,s171,s172,s173,s174,i175,i176,i177,i178,s179)=>
 some (x170,s171,s172,s173,s174,i175,i176,i177,i178,s179)
theorem rW(x_0_t:ah)(x_0_old:Sl (Sl Int))(x_0_now:Sl (Sl Int))(x_0_p_Moves:Sl ae)(x_0_p_Rounds:Sl aj)(x_0_p_Miss:Int)(x_0_p_Life:Int)(x_0_p_From:Int)(x_0_p_To:Int)(x_0_out:Sl am):cT (lc x_0_t x_0_old x_0_now x_0_p_Moves x_0_p_Rounds x_0_p_Miss x_0_p_Life x_0_p_From x_0_p_To x_0_out) (fZ x_0_t x_0_old x_0_now x_0_p_Moves x_0_p_Rounds x_0_p_Miss x_0_p_Life x_0_p_From x_0_p_To x_0_out):=by
 unfold lc fZ
 repeat' first
  |with_reducible apply qj
  |with_reducible apply qi
  |with_reducible refine cT.loop (fun _=>?_) _ _
  |with_reducible refine cT.bind ?_ (fun _=>?_)
  |(split<;>try dsimp only)
  |with_reducible exact cT.refl _
def pk(t_0:ah):Option Int:=
 (h_ 100000 (jl t_0) (0,0)).bind fun i6=>
 some i6
theorem xa(t_0:ah):cT (pk t_0) (lu t_0):=by
 unfold pk lu
 repeat' first
  |with_reducible refine cT.loop (fun _=>?_) _ _
  |with_reducible refine cT.bind ?_ (fun _=>?_)
  |(split<;>try dsimp only)
  |with_reducible exact cT.refl _
def sx(t_0:ah):Option Int:=
 (pk t_0).bind fun r1=>
 some (wr .i64 ((ah.bq t_0)*r1))
theorem BH(t_0:ah):cT (sx t_0) (nI t_0):=by
 unfold sx nI
 repeat' first
  |with_reducible apply xa
  |with_reducible refine cT.bind ?_ (fun _=>?_)
  |(split<;>try dsimp only)
  |with_reducible exact cT.refl _
def uw(t_0:ah)(miss_1:Int):Option Int:=
 (sx t_0).bind fun r1=>
 some (wr .i64 ((wr .i64 ((wr .i64 (2*miss_1))+r1))+1))
theorem C7(t_0:ah)(miss_1:Int):cT (uw t_0 miss_1) (od t_0 miss_1):=by
 unfold uw od
 repeat' first
  |with_reducible apply BH
  |with_reducible refine cT.bind ?_ (fun _=>?_)
  |(split<;>try dsimp only)
  |with_reducible exact cT.refl _
def k_(x_0_t:ah)(x_0_old:Sl (Sl Int))(x_0_now:Sl (Sl Int))(x_0_p_Moves:Sl ae)(x_0_p_Rounds:Sl aj)(x_0_p_Miss:Int)(x_0_p_Life:Int)(x_0_p_From:Int)(x_0_p_To:Int)(x_0_out:Sl am):Option (ah×Sl (Sl Int)×Sl (Sl Int)×Sl ae×Sl aj×Int×Int×Int×Int×Sl am):=
 (uw x_0_t (if 1048576<(if 0>x_0_p_Miss then 0 else x_0_p_Miss)then 1048576 else(if 0>x_0_p_Miss then 0 else x_0_p_Miss))).bind fun r1=>
 (h_ 100000 (dQ r1) (1,x_0_t,x_0_old,x_0_now,x_0_p_Moves,x_0_p_Rounds,x_0_p_Miss,x_0_p_Life,x_0_p_From,x_0_p_To,x_0_out)).bind fun(x39,s40,s41,s42,s43,i44,i45,i46,i47,s48)=>
 some (x39,s40,s41,s42,s43,i44,i45,i46,i47,s48)
theorem rV(x_0_t:ah)(x_0_old:Sl (Sl Int))(x_0_now:Sl (Sl Int))(x_0_p_Moves:Sl ae)(x_0_p_Rounds:Sl aj)(x_0_p_Miss:Int)(x_0_p_Life:Int)(x_0_p_From:Int)(x_0_p_To:Int)(x_0_out:Sl am):cT (k_ x_0_t x_0_old x_0_now x_0_p_Moves x_0_p_Rounds x_0_p_Miss x_0_p_Life x_0_p_From x_0_p_To x_0_out) (fY x_0_t x_0_old x_0_now x_0_p_Moves x_0_p_Rounds x_0_p_Miss x_0_p_Life x_0_p_From x_0_p_To x_0_out):=by
 unfold k_ fY
 repeat' first
  |with_reducible apply C7
  |with_reducible refine cT.loop (fun _=>?_) _ _
  |with_reducible refine cT.bind ?_ (fun _=>?_)
  |(split<;>try dsimp only)
  |with_reducible exact cT.refl _
def qn(n_0:Int)(l_1:Sl aQ):Option Bool:=
 bif((decide (n_0<0))||(decide (n_0>16)))then(some false)else
 ((h_ 100000 (j6 n_0 l_1) 0).bind fun
 |.inl b4=>(some b4)
 |.inr _=>(some true))
theorem yT(n_0:Int)(l_1:Sl aQ):cT (qn n_0 l_1) (ld n_0 l_1):=by
 unfold qn ld
 repeat' first
  |with_reducible refine cT.loop (fun _=>?_) _ _
  |with_reducible refine cT.cond ?_ ?_
  |with_reducible refine cT.bind ?_ (fun _=>?_)
  |(split<;>try dsimp only)
  |with_reducible exact cT.refl _
def oH(l_1:Sl aQ):(Int×Sl Int)->Option ((Int×Sl Int)⊕(Sl Int)):=fun(i5,s6)=>
 bif decide (i5<(l_1.l.length:Int))then((eX i5 l_1.l.length).bind fun n7=>
 (eX (aQ.pT (gt l_1.l n7)) s6.l.length).bind fun n8=>
 (x7 .u16 1 (aQ.To (gt l_1.l n7))).bind fun i9=>
 (eX (aQ.pT (gt l_1.l n7)) s6.l.length).bind fun n10=>
 some (.inl (wr .i64 (i5+1),(Sl.mk (s6.l.set n10 (OO .u16 (gt s6.l n8) i9))))))else
 (some (.inr s6))
theorem wl(l_1:Sl aQ):∀s,cT (oH l_1 s) (kD l_1 s):=by
 intro s;unfold oH kD;rw[Cc]
 repeat' first
  |with_reducible refine cT.cond ?_ ?_
  |with_reducible refine cT.bind ?_ (fun _=>?_)
  |(split<;>try dsimp only)
  |with_reducible exact cT.refl _
def rx(n_0:Int)(l_1:Sl aQ):Option (Sl Int):=
 (zD 0 n_0 n_0).bind fun l1=>
 (h_ 100000 (oH l_1) (0,(Sl.mk l1))).bind fun s11=>
 some s11
theorem z8(n_0:Int)(l_1:Sl aQ):cT (rx n_0 l_1) (nN n_0 l_1):=by
 unfold rx nN
 repeat' first
  |with_reducible apply wl
  |with_reducible refine cT.loop (fun _=>?_) _ _
  |with_reducible refine cT.bind ?_ (fun _=>?_)
  |(split<;>try dsimp only)
  |with_reducible exact cT.refl _
def gk(x_0:Int):Option Int:=
 bif(x_0==0)then(some 16)else
 ((eX (JK .u32 (wr .u32 ((wr .u32 (HI .u16 x_0 (wr .u16 (0-x_0))))*125613361)) 27) 32).bind fun n1=>
 some (wr .i64 (gt HZ.1 n1)))
theorem kx(x_0:Int):cT (gk x_0) (dD x_0):=by
 unfold gk dD;rw[xH]
 repeat' first
  |with_reducible refine cT.cond ?_ ?_
  |with_reducible refine cT.bind ?_ (fun _=>?_)
  |(split<;>try dsimp only)
  |with_reducible exact cT.refl _
def oI:(Int×Sl Int)->Option ((Int×Sl Int)⊕(Sl Int)):=fun(i4,s5)=>
 bif(i4 !=0)then((gk i4).bind fun r6=>
 (iF (s5.l++[r6])).bind fun l7=>
 some (.inl (HI .u16 i4 (wr .u16 (i4-1)),(Sl.mk l7))))else
 (some (.inr s5))
theorem wm:∀s,cT (oI s) (kE s):=by
 intro s;unfold oI kE;rw[xH]
 repeat' first
  |with_reducible apply kx
  |with_reducible refine cT.cond ?_ ?_
  |with_reducible refine cT.bind ?_ (fun _=>?_)
  |(split<;>try dsimp only)
  |with_reducible exact cT.refl _
def ry(set_0:Int):Option (Sl Int):=
 (h_ 100000 (oI) (set_0,Sl.nil)).bind fun s8=>
 some s8
theorem z_(set_0:Int):cT (ry set_0) (nO set_0):=by
 unfold ry nO
 repeat' first
  |with_reducible apply wm
  |with_reducible refine cT.loop (fun _=>?_) _ _
  |with_reducible refine cT.bind ?_ (fun _=>?_)
  |(split<;>try dsimp only)
  |with_reducible exact cT.refl _
def oG(to_0:Sl Int)(r1:Sl Int):(Int×Int)->Option ((Int×Int)⊕Int):=fun(i4,i5)=>
 bif decide (i5<(r1.l.length:Int))then((eX i5 r1.l.length).bind fun n6=>
 (eX (gt r1.l n6) to_0.l.length).bind fun n7=>
 some (.inl (OO .u16 i4 (gt to_0.l n7),wr .i64 (i5+1))))else
 (some (.inr i4))
theorem wj(to_0:Sl Int)(r1:Sl Int):∀s,cT (oG to_0 r1 s) (kC to_0 r1 s):=by
 intro s;unfold oG kC;rw[Cc]
 repeat' first
  |with_reducible refine cT.cond ?_ ?_
  |with_reducible refine cT.bind ?_ (fun _=>?_)
  |(split<;>try dsimp only)
  |with_reducible exact cT.refl _
def ru(to_0:Sl Int)(set_1:Int):Option Int:=
 (ry set_1).bind fun r1=>
 (h_ 100000 (oG to_0 r1) (0,0)).bind fun i8=>
 some i8
theorem z7(to_0:Sl Int)(set_1:Int):cT (ru to_0 set_1) (nM to_0 set_1):=by
 unfold ru nM
 repeat' first
  |with_reducible apply z_
  |with_reducible apply wj
  |with_reducible refine cT.loop (fun _=>?_) _ _
  |with_reducible refine cT.bind ?_ (fun _=>?_)
  |(split<;>try dsimp only)
  |with_reducible exact cT.refl _
def nP(r2:Sl Int):(Int×Sl Int)->Option ((Int×Sl Int)⊕(Bool⊕(Sl Int))):=fun(i7,s8)=>
 bif(i7 !=0)then((ru r2 i7).bind fun r9=>
 bif((sV .u16 i7 r9)==0)then(some (.inr (.inl false)))else
 ((gk (sV .u16 i7 r9)).bind fun r10=>
 (iF (s8.l++[r10])).bind fun l11=>
 (x7 .u16 1 r10).bind fun i12=>
 some (.inl (sV .u16 i7 i12,(Sl.mk l11)))))else
 (some (.inr (.inr s8)))
theorem vo(r2:Sl Int):∀s,cT (nP r2 s) (iV r2 s):=by
 intro s;unfold nP iV;rw[uI]
 repeat' first
  |with_reducible apply z7
  |with_reducible apply kx
  |with_reducible refine cT.cond ?_ ?_
  |with_reducible refine cT.bind ?_ (fun _=>?_)
  |(split<;>try dsimp only)
  |with_reducible exact cT.refl _
def qo(n_0:Int)(l_1:Sl aQ):Option (Sl Int×Bool):=
 (qn n_0 l_1).bind fun r1=>
 bif(!r1)then(some (Sl.nil,false))else
 ((rx n_0 l_1).bind fun r2=>
 (x7 .u16 1 n_0).bind fun i3=>
 (h_ 100000 (nP r2) (wr .u16 (i3-1),Sl.nil)).bind fun
 |.inl b13=>(some (Sl.nil,b13))
 |.inr s14=>(some (s14,true)))
theorem yU(n_0:Int)(l_1:Sl aQ):cT (qo n_0 l_1) (iI n_0 l_1):=by
 unfold qo iI
 repeat' first
  |with_reducible apply yT
  |with_reducible apply z8
  |with_reducible apply vo
  |with_reducible refine cT.loop (fun _=>?_) _ _
  |with_reducible refine cT.cond ?_ ?_
  |with_reducible refine cT.bind ?_ (fun _=>?_)
  |(split<;>try dsimp only)
  |with_reducible exact cT.refl _
def kh(x_0_t:ah)(ports_1:Sl (Sl Int))(h_3:Int)(i7:Int)(n9:Nat):(Bool×Int×Sl aQ)->Option ((Bool×Int×Sl aQ)⊕(Bool×Sl aQ)):=fun(b13,i14,s15)=>
 bif decide (i14<(((gt ports_1.l n9).l).length:Int))then(((eX i14 ((gt ports_1.l n9).l).length).bind fun n16=>
 (pW x_0_t i7 (gt ((gt ports_1.l n9).l) n16)).bind fun(r17,r18,r19,r20)=>
 bif r20 then((iF (s15.l++[(⟨i7,r17⟩:aQ)])).bind fun l21=>
 some (b13,(Sl.mk l21)))else
 ((eX h_3 ((ah.bd x_0_t).l).length).bind fun n22=>
 bif(!(decide ((gt ((ah.bd x_0_t).l) n22)=(⟨i7,gt ((gt ports_1.l n9).l) n16⟩:fQ))))then(some (true,s15))else
 (some (b13,s15))):Option (Bool×Sl aQ)).bind fun(b23,s24)=>
 some (.inl (b23,wr .i64 (i14+1),s24)))else
 (some (.inr (b13,s15)))
theorem qF(x_0_t:ah)(ports_1:Sl (Sl Int))(h_3:Int)(i7:Int)(n9:Nat):∀s,cT (kh x_0_t ports_1 h_3 i7 n9 s) (er x_0_t ports_1 h_3 i7 n9 s):=by
 intro s;unfold kh er
 repeat' first
  |with_reducible apply uQ
  |with_reducible refine cT.cond ?_ ?_
  |with_reducible refine cT.bind ?_ (fun _=>?_)
  |(split<;>try dsimp only)
  |with_reducible exact cT.refl _
def kg(x_0_t:ah)(ports_1:Sl (Sl Int))(h_3:Int):(Bool×Int×Sl aQ)->Option ((Bool×Int×Sl aQ)⊕(Bool×Sl aQ)):=fun(b6,i7,s8)=>
 bif decide (i7<(ports_1.l.length:Int))then((eX i7 ports_1.l.length).bind fun n9=>
 (h_ 100000 (kh x_0_t ports_1 h_3 i7 n9) (b6,0,s8)).bind fun(b25,s26)=>
 some (.inl (b25,wr .i64 (i7+1),s26)))else
 (some (.inr (b6,s8)))
theorem qE(x_0_t:ah)(ports_1:Sl (Sl Int))(h_3:Int):∀s,cT (kg x_0_t ports_1 h_3 s) (fm x_0_t ports_1 h_3 s):=by
 intro s;unfold kg fm
 repeat' first
  |with_reducible apply qF
  |with_reducible refine cT.loop (fun _=>?_) _ _
  |with_reducible refine cT.cond ?_ ?_
  |with_reducible refine cT.bind ?_ (fun _=>?_)
  |(split<;>try dsimp only)
  |with_reducible exact cT.refl _
def lM(x_0_t:ah)(x_0_old:Sl (Sl Int))(x_0_now:Sl (Sl Int))(x_0_p_Moves:Sl ae)(x_0_p_Rounds:Sl aj)(x_0_p_Miss:Int)(x_0_p_Life:Int)(x_0_p_From:Int)(x_0_p_To:Int)(x_0_out:Sl am)(ports_1:Sl (Sl Int))(k_2:Int)(h_3:Int):Option (ah×Sl (Sl Int)×Sl (Sl Int)×Sl ae×Sl aj×Int×Int×Int×Int×Sl am):=
 (h_ 100000 (kg x_0_t ports_1 h_3) (false,0,Sl.nil)).bind fun(b27,s28)=>
 (qo (ah.bq x_0_t) s28).bind fun(r29,r30)=>
 (bF x_0_t x_0_old x_0_now x_0_p_Moves x_0_p_Rounds x_0_p_Miss x_0_p_Life x_0_p_From x_0_p_To x_0_out b27 5 k_2 h_3).bind fun(q31,q32,q33,q34,q35,q36,q37,q38,q39,s40)=>
 (bF q31 q32 q33 q34 q35 q36 q37 q38 q39 s40 (!r30) 6 k_2 h_3).bind fun(q41,q42,q43,q44,q45,q46,q47,q48,q49,s50)=>
 some (q41,q42,q43,q44,q45,q46,q47,q48,q49,s50)
theorem sL(x_0_t:ah)(x_0_old:Sl (Sl Int))(x_0_now:Sl (Sl Int))(x_0_p_Moves:Sl ae)(x_0_p_Rounds:Sl aj)(x_0_p_Miss:Int)(x_0_p_Life:Int)(x_0_p_From:Int)(x_0_p_To:Int)(x_0_out:Sl am)(ports_1:Sl (Sl Int))(k_2:Int)(h_3:Int):cT (lM x_0_t x_0_old x_0_now x_0_p_Moves x_0_p_Rounds x_0_p_Miss x_0_p_Life x_0_p_From x_0_p_To x_0_out ports_1 k_2 h_3) (ig x_0_t x_0_old x_0_now x_0_p_Moves x_0_p_Rounds x_0_p_Miss x_0_p_Life x_0_p_From x_0_p_To x_0_out ports_1 k_2 h_3):=by
 unfold lM ig
 repeat' first
  |with_reducible apply qE
  |with_reducible apply yU
  |with_reducible refine cT.loop (fun _=>?_) _ _
  |with_reducible refine cT.bind ?_ (fun _=>?_)
  |(split<;>try dsimp only)
  |with_reducible exact cT.refl _
def jE(x_0_p_Rounds:Sl aj)(n36:Nat)(s52:Sl (Sl Int))(s53:Sl (Sl Int))(s61:Sl am)(s55:Sl aj)(s54:Sl ae)(i50:Int)(x51:ah)(i56:Int)(i57:Int)(i58:Int)(i59:Int):(Int×Sl (Sl Int))->Option ((Int×Sl (Sl Int))⊕(Sl (Sl Int))):=fun(i78,s79)=>
 bif decide (i78<(s54.l.length:Int))then(((eX i78 s54.l.length).bind fun n80=>
 (bif((ae.mL (gt s54.l n80))==i50)then((fx (⟨x51,s52,s53,(⟨s54,s55,i56,i57,i58,i59⟩:dh),s61⟩:bv) (gt s54.l n80)).bind fun r81=>
 bif r81 then((mX (gt x_0_p_Rounds.l n36) (gt s54.l n80)).bind fun r82=>
 some r82)else
 (some false))else
 (some false):Option Bool).bind fun b83=>
 bif b83 then((eX (ae.Sw (gt s54.l n80)) s79.l.length).bind fun n84=>
 (iF (((gt s79.l n84).l)++[ae.oA (gt s54.l n80)])).bind fun l85=>
 (eX (ae.Sw (gt s54.l n80)) s79.l.length).bind fun n86=>
 bif Nat.beq n84 n86 then(some (Sl.mk (s79.l.set n86 (Sl.mk l85))))else(none))else
 (some s79):Option (Sl (Sl Int))).bind fun s87=>
 some (.inl (wr .i64 (i78+1),s87)))else
 (some (.inr s79))
theorem pN(x_0_p_Rounds:Sl aj)(n36:Nat)(s52:Sl (Sl Int))(s53:Sl (Sl Int))(s61:Sl am)(s55:Sl aj)(s54:Sl ae)(i50:Int)(x51:ah)(i56:Int)(i57:Int)(i58:Int)(i59:Int):∀s,cT (jE x_0_p_Rounds n36 s52 s53 s61 s55 s54 i50 x51 i56 i57 i58 i59 s) (eB x_0_p_Rounds n36 s52 s53 s61 s55 s54 i50 x51 i56 i57 i58 i59 s):=by
 intro s;unfold jE eB
 repeat' first
  |with_reducible apply qm
  |with_reducible refine cT.cond ?_ ?_
  |with_reducible refine cT.bind ?_ (fun _=>?_)
  |(split<;>try dsimp only)
  |with_reducible exact cT.refl _
def jD(x_0_p_Rounds:Sl aj)(n36:Nat)(i24:Int)(x25:ah):(Int×ah×Sl (Sl Int)×Sl (Sl Int)×Sl ae×Sl aj×Int×Int×Int×Int×Sl (Sl Int)×Sl am)->Option ((Int×ah×Sl (Sl Int)×Sl (Sl Int)×Sl ae×Sl aj×Int×Int×Int×Int×Sl (Sl Int)×Sl am)⊕(ah×Sl (Sl Int)×Sl (Sl Int)×Sl ae×Sl aj×Int×Int×Int×Int×Sl (Sl Int)×Sl am)):=fun(i50,x51,s52,s53,s54,s55,i56,i57,i58,i59,s60,s61)=>
 bif decide (i50<(((ah.bd x25).l).length:Int))then((zD (Sl.nil:Sl Int) (s60.l.length:Int) (s60.l.length:Int)).bind fun l62=>
 (h_ 100000 (fA i50 s60) (0,s60,(Sl.mk l62))).bind fun(s73,s74)=>
 (h_ 100000 (jE x_0_p_Rounds n36 s52 s53 s61 s55 s54 i50 x51 i56 i57 i58 i59) (0,s74)).bind fun s88=>
 (lM x51 s52 s53 s54 s55 i56 i57 i58 i59 s61 s88 i24 i50).bind fun(q89,q90,q91,q92,q93,q94,q95,q96,q97,s98)=>
 some (.inl (wr .i64 (i50+1),q89,q90,q91,q92,q93,q94,q95,q96,q97,s73,s98)))else
 (some (.inr (x51,s52,s53,s54,s55,i56,i57,i58,i59,s60,s61)))
theorem pM(x_0_p_Rounds:Sl aj)(n36:Nat)(i24:Int)(x25:ah):∀s,cT (jD x_0_p_Rounds n36 i24 x25 s) (eA x_0_p_Rounds n36 i24 x25 s):=by
 intro s;unfold jD eA
 repeat' first
  |with_reducible apply pN
  |with_reducible apply sL
  |with_reducible refine cT.loop (fun _=>?_) _ _
  |with_reducible refine cT.cond ?_ ?_
  |with_reducible refine cT.bind ?_ (fun _=>?_)
  |(split<;>try dsimp only)
  |with_reducible exact cT.refl _
def jC(x_0_p_Rounds:Sl aj)(n36:Nat)(s100:Sl (Sl Int))(s102:Sl ae)(s109:Sl am)(x99:ah)(s101:Sl (Sl Int))(s103:Sl aj)(i104:Int)(i105:Int)(i106:Int)(i107:Int):(Int×Sl (Sl Int))->Option ((Int×Sl (Sl Int))⊕(Sl (Sl Int))):=fun(i113,s114)=>
 bif decide (i113<(s102.l.length:Int))then(((eX i113 s102.l.length).bind fun n115=>
 ((fx (⟨x99,s100,s101,(⟨s102,s103,i104,i105,i106,i107⟩:dh),s109⟩:bv) (gt s102.l n115)).bind fun r116=>
 bif r116 then((mX (gt x_0_p_Rounds.l n36) (gt s102.l n115)).bind fun r117=>
 some r117)else
 (some false):Option Bool).bind fun b118=>
 bif b118 then((eX (ae.Sw (gt s102.l n115)) s114.l.length).bind fun n119=>
 (eX (ae.mL (gt s102.l n115)) ((gt s114.l n119).l).length).bind fun n120=>
 some (Sl.mk (s114.l.set n119 (Sl.mk (((gt s114.l n119).l).set n120 (ae.oA (gt s102.l n115)))))))else
 (some s114):Option (Sl (Sl Int))).bind fun s121=>
 some (.inl (wr .i64 (i113+1),s121)))else
 (some (.inr s114))
theorem pL(x_0_p_Rounds:Sl aj)(n36:Nat)(s100:Sl (Sl Int))(s102:Sl ae)(s109:Sl am)(x99:ah)(s101:Sl (Sl Int))(s103:Sl aj)(i104:Int)(i105:Int)(i106:Int)(i107:Int):∀s,cT (jC x_0_p_Rounds n36 s100 s102 s109 x99 s101 s103 i104 i105 i106 i107 s) (ez x_0_p_Rounds n36 s100 s102 s109 x99 s101 s103 i104 i105 i106 i107 s):=by
 intro s;unfold jC ez
 repeat' first
  |with_reducible apply qm
  |with_reducible refine cT.cond ?_ ?_
  |with_reducible refine cT.bind ?_ (fun _=>?_)
  |(split<;>try dsimp only)
  |with_reducible exact cT.refl _
def jB(x_0_p_Rounds:Sl aj):(Int×ah×Sl (Sl Int)×Sl (Sl Int)×Sl ae×Sl aj×Int×Int×Int×Int×Sl (Sl Int)×Sl am)->Option ((Int×ah×Sl (Sl Int)×Sl (Sl Int)×Sl ae×Sl aj×Int×Int×Int×Int×Sl (Sl Int)×Sl am)⊕(ah×Sl (Sl Int)×Sl (Sl Int)×Sl ae×Sl aj×Int×Int×Int×Int×Sl am)):=fun(i24,x25,s26,s27,s28,s29,i30,i31,i32,i33,s34,s35)=>
 bif decide (i24<(x_0_p_Rounds.l.length:Int))then((eX i24 x_0_p_Rounds.l.length).bind fun n36=>
 (h_ 100000 (jD x_0_p_Rounds n36 i24 x25) (0,x25,s26,s27,s28,s29,i30,i31,i32,i33,s34,s35)).bind fun(x99,s100,s101,s102,s103,i104,i105,i106,i107,s108,s109)=>
 (h_ 100000 (jC x_0_p_Rounds n36 s100 s102 s109 x99 s101 s103 i104 i105 i106 i107) (0,s108)).bind fun s122=>
 some (.inl (wr .i64 (i24+1),x99,s100,s101,s102,s103,i104,i105,i106,i107,s122,s109)))else
 (some (.inr (x25,s26,s27,s28,s29,i30,i31,i32,i33,s35)))
theorem pK(x_0_p_Rounds:Sl aj):∀s,cT (jB x_0_p_Rounds s) (ew x_0_p_Rounds s):=by
 intro s;unfold jB ew
 repeat' first
  |with_reducible apply pM
  |with_reducible apply pL
  |with_reducible refine cT.loop (fun _=>?_) _ _
  |with_reducible refine cT.cond ?_ ?_
  |with_reducible refine cT.bind ?_ (fun _=>?_)
  |(split<;>try dsimp only)
  |with_reducible exact cT.refl _
def kI(x_0_t:ah)(x_0_old:Sl (Sl Int))(x_0_now:Sl (Sl Int))(x_0_p_Moves:Sl ae)(x_0_p_Rounds:Sl aj)(x_0_p_Miss:Int)(x_0_p_Life:Int)(x_0_p_From:Int)(x_0_p_To:Int)(x_0_out:Sl am):Option (ah×Sl (Sl Int)×Sl (Sl Int)×Sl ae×Sl aj×Int×Int×Int×Int×Sl am):=
 (zD (Sl.nil:Sl Int) (x_0_old.l.length:Int) (x_0_old.l.length:Int)).bind fun l1=>
 (h_ 100000 (fB x_0_old) (0,(Sl.mk l1))).bind fun s10=>
 (h_ 100000 (jB x_0_p_Rounds) (0,x_0_t,x_0_old,x_0_now,x_0_p_Moves,x_0_p_Rounds,x_0_p_Miss,x_0_p_Life,x_0_p_From,x_0_p_To,s10,x_0_out)).bind fun(x123,s124,s125,s126,s127,i128,i129,i130,i131,s132)=>
 some (x123,s124,s125,s126,s127,i128,i129,i130,i131,s132)
theorem rp(x_0_t:ah)(x_0_old:Sl (Sl Int))(x_0_now:Sl (Sl Int))(x_0_p_Moves:Sl ae)(x_0_p_Rounds:Sl aj)(x_0_p_Miss:Int)(x_0_p_Life:Int)(x_0_p_From:Int)(x_0_p_To:Int)(x_0_out:Sl am):cT (kI x_0_t x_0_old x_0_now x_0_p_Moves x_0_p_Rounds x_0_p_Miss x_0_p_Life x_0_p_From x_0_p_To x_0_out) (gH x_0_t x_0_old x_0_now x_0_p_Moves x_0_p_Rounds x_0_p_Miss x_0_p_Life x_0_p_From x_0_p_To x_0_out):=by
 unfold kI gH
 repeat' first
  |with_reducible apply pK
  |with_reducible refine cT.loop (fun _=>?_) _ _
  |with_reducible refine cT.bind ?_ (fun _=>?_)
  |(split<;>try dsimp only)
  |with_reducible exact cT.refl _
def nW(t_0:ah)(old_1:Sl (Sl Int))(now_2:Sl (Sl Int))(p_3:aJ):Option (Sl am):=
 ((oX t_0 old_1).bind fun r1=>
 bif(!r1)then(some true)else
 ((oX t_0 now_2).bind fun r2=>
 some (!r2)):Option Bool).bind fun b3=>
 bif b3 then(some (Sl.mk [(⟨1,0,0⟩:am)]))else
 ((lc t_0 old_1 now_2 (aJ.jf p_3) (aJ.fo p_3) (aJ.Co p_3) (aJ.JR p_3) (aJ.pT p_3) (aJ.To p_3) Sl.nil).bind fun(q4,q5,q6,q7,q8,q9,q10,q11,q12,s13)=>
 (k_ q4 q5 q6 q7 q8 q9 q10 q11 q12 s13).bind fun(q14,q15,q16,q17,q18,q19,q20,q21,q22,s23)=>
 (kI q14 q15 q16 q17 q18 q19 q20 q21 q22 s23).bind fun(q24,q25,q26,q27,q28,q29,q30,q31,q32,s33)=>
 some s33)
theorem yO(t_0:ah)(old_1:Sl (Sl Int))(now_2:Sl (Sl Int))(p_3:aJ):cT (nW t_0 old_1 now_2 p_3) (fS t_0 old_1 now_2 p_3):=by
 unfold nW fS
 repeat' first
  |with_reducible apply zS
  |with_reducible apply rW
  |with_reducible apply rV
  |with_reducible apply rp
  |with_reducible refine cT.cond ?_ ?_
  |with_reducible refine cT.bind ?_ (fun _=>?_)
  |(split<;>try dsimp only)
  |with_reducible exact cT.refl _
def t7:Option Bool:=
 (nW (⟨3,(Sl.mk [(⟨0,0,1,0,1,1⟩:bz),(⟨1,1,2,0,1,1⟩:bz),(⟨0,1,2,1,1,1⟩:bz)]),(Sl.mk [(⟨2,7⟩:fQ)])⟩:ah) (Sl.mk [(Sl.mk [0]),(Sl.mk [1]),(Sl.mk [7])]) (Sl.mk [(Sl.mk [1]),(Sl.mk [1]),(Sl.mk [7])]) (⟨Sl.nil,Sl.nil,0,0,0,0⟩:aJ)).bind fun r1=>
 (bif((r1.l.length:Int)==1)then((eX 0 r1.l.length).bind fun n2=>
 bif decide ((gt r1.l n2)=(⟨2,0,0⟩:am))then((uB 6).bind fun r3=>
 bif(r3.toList==(⟨#[108,111,111,112]⟩:ByteArray).toList)then((nW (⟨0,Sl.nil,Sl.nil⟩:ah) Sl.nil Sl.nil (⟨Sl.nil,Sl.nil,0,0,0,0⟩:aJ)).bind fun r4=>
 some ((r4.l.length:Int)==1))else
 (some false))else
 (some false))else
 (some false):Option Bool).bind fun b5=>
 some b5
theorem yL:cT (t7) (jt):=by
 unfold t7 jt
 repeat' first
  |with_reducible apply yO
  |with_reducible refine cT.cond ?_ ?_
  |with_reducible refine cT.bind ?_ (fun _=>?_)
  |(split<;>try dsimp only)
  |with_reducible exact cT.refl _
theorem ga:jt=some true:=yL _ (by decide+kernel)
end Go.Proofs.YthcplpfiidlinaaDoor.J
