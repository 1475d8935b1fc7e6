/- j9 answers true: by running its twin. Conditions: none. -/
import Derived.Test.YthcplpfiidlinaaDoorJ
import Derived.Test.YthcplpfiidlinaaDoorTwin
open Go.Ev Go
noncomputable section
namespace Go.Proofs.YthcplpfiidlinaaDoor.J
def qb(t_0:ah):Option (Sl bm):=
 (hC 100000 (kW t_0) (0,Sl.nil)).bind fun s8=>
 (hC 100000 (kV t_0) (0,s8)).bind fun s15=>
 some s15
theorem xU(t_0:ah):cQ (qb t_0) (mw t_0):=by
 unfold qb mw
 repeat' first
  |with_reducible refine cQ.loop (fun _=>?_) _ _
  |with_reducible refine cQ.bind ?_ (fun _=>?_)
  |(split<;>try dsimp only)
  |with_reducible exact cQ.refl _
def q_(t_0:ah):Option Bool:=
 bif((((decide ((ah.bo t_0)<1))||(decide ((ah.bo t_0)>8)))||(decide ((((ah.bS t_0).l).length:Int)>24)))||(decide ((((ah.bf t_0).l).length:Int)>8)))then(some false)else
 ((hC 100000 (lP t_0) 0).bind fun
 |.inl b4=>(some b4)
 |.inr _=>((qb t_0).bind fun r5=>
 (hC 100000 (iD t_0 r5) (0,(Mp.none:Mp bm Int))).bind fun
 |.inl b13=>(some b13)
 |.inr _=>(some true)))
theorem zJ(t_0:ah):cQ (q_ t_0) (nu t_0):=by
 unfold q_ nu
 repeat' first
  |with_reducible apply xU
  |with_reducible refine cQ.loop (fun _=>?_) _ _
  |with_reducible refine cQ.cond ?_ ?_
  |with_reducible refine cQ.bind ?_ (fun _=>?_)
  |(split<;>try dsimp only)
  |with_reducible exact cQ.refl _
def eR(s_0:Sl Int):Option Int:=
 (hC 100000 (cI s_0) 0).bind fun
 |.inl i5=>(some i5)
 |.inr _=>(some (-1))
theorem kr(s_0:Sl Int):cQ (eR s_0) (cW s_0):=by
 unfold eR cW
 repeat' first
  |with_reducible refine cQ.loop (fun _=>?_) _ _
  |with_reducible refine cQ.bind ?_ (fun _=>?_)
  |(split<;>try dsimp only)
  |with_reducible exact cQ.refl _
def eg(s_0:Sl Int):Option Bool:=
 (eR s_0).bind fun r1=>
 some (decide (r1>=0))
theorem jR(s_0:Sl Int):cQ (eg s_0) (bR s_0):=by
 unfold eg bR
 repeat' first
  |with_reducible apply kr
  |with_reducible refine cQ.bind ?_ (fun _=>?_)
  |(split<;>try dsimp only)
  |with_reducible exact cQ.refl _
def nA(t_0:ah)(r_1:Sl (Sl Int)):Int->Option (Int⊕(Bool⊕Unit)):=fun i3=>
 bif decide (i3<(r_1.l.length:Int))then((fw i3 r_1.l.length).bind fun n4=>
 (bif((((gt r_1.l n4).l).length:Int) !=(((ah.bf t_0).l).length:Int))then(some true)else
 ((eg (gt r_1.l n4)).bind fun r5=>
 some r5):Option Bool).bind fun b6=>
 bif b6 then(some (.inr (.inl false)))else
 (some (.inl (wr .i64 (i3+1)))))else
 (some (.inr (.inr ())))
theorem uW(t_0:ah)(r_1:Sl (Sl Int)):∀s,cQ (nA t_0 r_1 s) (jT t_0 r_1 s):=by
 intro s;unfold nA jT
 repeat' first
  |with_reducible apply jR
  |with_reducible refine cQ.cond ?_ ?_
  |with_reducible refine cQ.bind ?_ (fun _=>?_)
  |(split<;>try dsimp only)
  |with_reducible exact cQ.refl _
def lR(t_0:ah)(r_1:Sl (Sl Int)):Option Bool:=
 (q_ t_0).bind fun r1=>
 bif((!r1)||((r_1.l.length:Int) !=(ah.bo t_0)))then(some false)else
 ((hC 100000 (nA t_0 r_1) 0).bind fun
 |.inl b7=>(some b7)
 |.inr _=>(some true))
theorem pk(t_0:ah)(r_1:Sl (Sl Int)):cQ (lR t_0 r_1) (jm t_0 r_1):=by
 unfold lR jm
 repeat' first
  |with_reducible apply zJ
  |with_reducible apply uW
  |with_reducible refine cQ.loop (fun _=>?_) _ _
  |with_reducible refine cQ.cond ?_ ?_
  |with_reducible refine cQ.bind ?_ (fun _=>?_)
  |(split<;>try dsimp only)
  |with_reducible exact cQ.refl _
def kc(s_0:Sl Int)(v_1:Int):Option Int:=
 (hC 100000 (fW s_0 v_1) 0).bind fun
 |.inl i4=>(some i4)
 |.inr _=>(some (-1))
theorem qy(s_0:Sl Int)(v_1:Int):cQ (kc s_0 v_1) (gY s_0 v_1):=by
 unfold kc gY
 repeat' first
  |with_reducible refine cQ.loop (fun _=>?_) _ _
  |with_reducible refine cQ.bind ?_ (fun _=>?_)
  |(split<;>try dsimp only)
  |with_reducible exact cQ.refl _
def fH(s_0:Sl Int)(v_1:Int):Option Bool:=
 (kc s_0 v_1).bind fun r1=>
 some (decide (r1>=0))
theorem iO(s_0:Sl Int)(v_1:Int):cQ (fH s_0 v_1) (cL s_0 v_1):=by
 unfold fH cL
 repeat' first
  |with_reducible apply qy
  |with_reducible refine cQ.bind ?_ (fun _=>?_)
  |(split<;>try dsimp only)
  |with_reducible exact cQ.refl _
def mL(l_0:Sl Int):Option Bool:=
 (bif decide ((l_0.l.length:Int)>0)then((tY l_0.l 0 (wr .i64 ((l_0.l.length:Int)-1))).bind fun l1=>
 (fw (wr .i64 ((l_0.l.length:Int)-1)) l_0.l.length).bind fun n2=>
 (fH (l_0.to l1) (gt l_0.l n2)).bind fun r3=>
 some r3)else
 (some false):Option Bool).bind fun b4=>
 some b4
theorem ux(l_0:Sl Int):cQ (mL l_0) (ik l_0):=by
 unfold mL ik
 repeat' first
  |with_reducible apply iO
  |with_reducible refine cQ.cond ?_ ?_
  |with_reducible refine cQ.bind ?_ (fun _=>?_)
  |(split<;>try dsimp only)
  |with_reducible exact cQ.refl _
def pT(t_0:ah)(sw_1:Int)(port_2:Int):Option (Int×Int×Int×Bool):=
 (hC 100000 (mJ t_0 sw_1 port_2) 0).bind fun
 |.inl (i4,i5,i6,b7)=>(some (i4,i5,i6,b7))
 |.inr _=>(some (0,0,0,false))
theorem uR(t_0:ah)(sw_1:Int)(port_2:Int):cQ (pT t_0 sw_1 port_2) (nv t_0 sw_1 port_2):=by
 unfold pT nv
 repeat' first
  |with_reducible refine cQ.loop (fun _=>?_) _ _
  |with_reducible refine cQ.bind ?_ (fun _=>?_)
  |(split<;>try dsimp only)
  |with_reducible exact cQ.refl _
def rh(t_0:ah)(r_1:Sl (Sl Int))(sw_2:Int)(h_3:Int):Option (Int×Bool):=
 (mm r_1 sw_2 h_3).bind fun(r1,r2)=>
 bif(!r2)then(some (0,false))else
 ((pT t_0 sw_2 r1).bind fun(r3,r4,r5,r6)=>
 some (r3,r6))
theorem zP(t_0:ah)(r_1:Sl (Sl Int))(sw_2:Int)(h_3:Int):cQ (rh t_0 r_1 sw_2 h_3) (nB t_0 r_1 sw_2 h_3):=by
 unfold rh nB
 repeat' first
  |with_reducible apply uR
  |with_reducible refine cQ.cond ?_ ?_
  |with_reducible refine cQ.bind ?_ (fun _=>?_)
  |(split<;>try dsimp only)
  |with_reducible exact cQ.refl _
def ow(t_0:ah)(r_1:Sl (Sl Int))(h_3:Int):(Sl Int)->Option (Sl Int⊕((Int×Sl Int)⊕Unit)):=fun s6=>
 (mL s6).bind fun r7=>
 bif(!r7)then((fw (wr .i64 ((s6.l.length:Int)-1)) s6.l.length).bind fun n8=>
 (fw h_3 ((ah.bf t_0).l).length).bind fun n9=>
 (fw (gt s6.l n8) r_1.l.length).bind fun n10=>
 (fw h_3 ((gt r_1.l n10).l).length).bind fun n11=>
 bif decide ((gt ((ah.bf t_0).l) n9)=(⟨gt s6.l n8,gt ((gt r_1.l n10).l) n11⟩:fK))then(some (.inr (.inl (0,s6))))else
 ((rh t_0 r_1 (gt s6.l n8) h_3).bind fun(r12,r13)=>
 bif(!r13)then(some (.inr (.inl (13,Sl.nil))))else
 ((jF (s6.l++[r12])).bind fun l14=>
 some (.inl (Sl.mk l14)))))else
 (some (.inr (.inr ())))
theorem vW(t_0:ah)(r_1:Sl (Sl Int))(h_3:Int):∀s,cQ (ow t_0 r_1 h_3 s) (dZ t_0 r_1 h_3 s):=by
 intro s;unfold ow dZ
 repeat' first
  |with_reducible apply ux
  |with_reducible apply zP
  |with_reducible refine cQ.cond ?_ ?_
  |with_reducible refine cQ.bind ?_ (fun _=>?_)
  |(split<;>try dsimp only)
  |with_reducible exact cQ.refl _
def rg(t_0:ah)(r_1:Sl (Sl Int))(sw_2:Int)(h_3:Int):Option (Sl Int×Int):=
 (mm r_1 sw_2 h_3).bind fun(r1,r2)=>
 (bif(!r2)then(some true)else
 ((lR t_0 r_1).bind fun r3=>
 some (!r3)):Option Bool).bind fun b4=>
 bif b4 then(some (Sl.nil,2))else
 ((hC 100000 (ow t_0 r_1 h_3) (Sl.mk [sw_2])).bind fun
 |.inl (i15,s16)=>(some (s16,i15))
 |.inr _=>(some (Sl.nil,12)))
theorem zO(t_0:ah)(r_1:Sl (Sl Int))(sw_2:Int)(h_3:Int):cQ (rg t_0 r_1 sw_2 h_3) (jy t_0 r_1 sw_2 h_3):=by
 unfold rg jy
 repeat' first
  |with_reducible apply pk
  |with_reducible apply vW
  |with_reducible refine cQ.loop (fun _=>?_) _ _
  |with_reducible refine cQ.cond ?_ ?_
  |with_reducible refine cQ.bind ?_ (fun _=>?_)
  |(split<;>try dsimp only)
  |with_reducible exact cQ.refl _
def pm(t_0:ah)(r_1:Sl (Sl Int))(h_2:Int):(Int×Sl Int)->Option ((Int×Sl Int)⊕(Sl Int)):=fun(i5,s6)=>
 bif decide (i5<(r_1.l.length:Int))then((rg t_0 r_1 i5 h_2).bind fun(r7,r8)=>
 (jF (s6.l++[wr .i64 ((r7.l.length:Int)-1)])).bind fun l9=>
 some (.inl (wr .i64 (i5+1),(Sl.mk l9))))else
 (some (.inr s6))
theorem xe(t_0:ah)(r_1:Sl (Sl Int))(h_2:Int):∀s,cQ (pm t_0 r_1 h_2 s) (gp t_0 r_1 h_2 s):=by
 intro s;unfold pm gp
 repeat' first
  |with_reducible apply zO
  |with_reducible refine cQ.cond ?_ ?_
  |with_reducible refine cQ.bind ?_ (fun _=>?_)
  |(split<;>try dsimp only)
  |with_reducible exact cQ.refl _
def sx(t_0:ah)(r_1:Sl (Sl Int))(h_2:Int):Option (Sl Int):=
 (lR t_0 r_1).bind fun r1=>
 bif(((!r1)||(decide (h_2<0)))||(decide (h_2>=(((ah.bf t_0).l).length:Int))))then(some Sl.nil)else
 ((hC 100000 (pm t_0 r_1 h_2) (0,Sl.nil)).bind fun s10=>
 some s10)
theorem BA(t_0:ah)(r_1:Sl (Sl Int))(h_2:Int):cQ (sx t_0 r_1 h_2) (lr t_0 r_1 h_2):=by
 unfold sx lr
 repeat' first
  |with_reducible apply pk
  |with_reducible apply xe
  |with_reducible refine cQ.loop (fun _=>?_) _ _
  |with_reducible refine cQ.cond ?_ ?_
  |with_reducible refine cQ.bind ?_ (fun _=>?_)
  |(split<;>try dsimp only)
  |with_reducible exact cQ.refl _
def oz(t_0:ah)(r_1:Sl (Sl Int)):Int->Option (Int⊕(Bool⊕Unit)):=fun i3=>
 bif decide (i3<(((ah.bf t_0).l).length:Int))then((sx t_0 r_1 i3).bind fun r4=>
 (fH r4 (-1)).bind fun r5=>
 bif r5 then(some (.inr (.inl false)))else
 (some (.inl (wr .i64 (i3+1)))))else
 (some (.inr (.inr ())))
theorem vX(t_0:ah)(r_1:Sl (Sl Int)):∀s,cQ (oz t_0 r_1 s) (gT t_0 r_1 s):=by
 intro s;unfold oz gT
 repeat' first
  |with_reducible apply BA
  |with_reducible apply iO
  |with_reducible refine cQ.cond ?_ ?_
  |with_reducible refine cQ.bind ?_ (fun _=>?_)
  |(split<;>try dsimp only)
  |with_reducible exact cQ.refl _
def oU(t_0:ah)(r_1:Sl (Sl Int)):Option Bool:=
 (lR t_0 r_1).bind fun r1=>
 bif(!r1)then(some false)else
 ((hC 100000 (oz t_0 r_1) 0).bind fun
 |.inl b6=>(some b6)
 |.inr _=>(some true))
theorem zQ(t_0:ah)(r_1:Sl (Sl Int)):cQ (oU t_0 r_1) (il t_0 r_1):=by
 unfold oU il
 repeat' first
  |with_reducible apply pk
  |with_reducible apply vX
  |with_reducible refine cQ.loop (fun _=>?_) _ _
  |with_reducible refine cQ.cond ?_ ?_
  |with_reducible refine cQ.bind ?_ (fun _=>?_)
  |(split<;>try dsimp only)
  |with_reducible exact cQ.refl _
def mR(r_0:aj)(m_1:ae):Option Bool:=
 (bif((ae.vD m_1)==(aj.No r_0))then((fH (aj.UI r_0) (ae.Sw m_1)).bind fun r1=>
 some r1)else
 (some false):Option Bool).bind fun b2=>
 some b2
theorem qk(r_0:aj)(m_1:ae):cQ (mR r_0 m_1) (kh r_0 m_1):=by
 unfold mR kh
 repeat' first
  |with_reducible apply iO
  |with_reducible refine cQ.cond ?_ ?_
  |with_reducible refine cQ.bind ?_ (fun _=>?_)
  |(split<;>try dsimp only)
  |with_reducible exact cQ.refl _
def kI(r_0:aj)(c_1:ae):Option Bool:=
 (mR r_0 c_1).bind fun r1=>
 some r1
theorem rq(r_0:aj)(c_1:ae):cQ (kI r_0 c_1) (iu r_0 c_1):=by
 unfold kI iu
 repeat' first
  |with_reducible apply qk
  |with_reducible refine cQ.bind ?_ (fun _=>?_)
  |(split<;>try dsimp only)
  |with_reducible exact cQ.refl _
def cu(s_0:Sl aj)(f_1_c0:ae):Int->Option (Int⊕(Int⊕Unit)):=fun i2=>
 bif decide (i2<(s_0.l.length:Int))then((fw i2 s_0.l.length).bind fun n3=>
 (kI (gt s_0.l n3) f_1_c0).bind fun r4=>
 bif r4 then(some (.inr (.inl i2)))else
 (some (.inl (wr .i64 (i2+1)))))else
 (some (.inr (.inr ())))
theorem gg(s_0:Sl aj)(f_1_c0:ae):∀s,cQ (cu s_0 f_1_c0 s) (bd s_0 f_1_c0 s):=by
 intro s;unfold cu bd
 repeat' first
  |with_reducible apply rq
  |with_reducible refine cQ.cond ?_ ?_
  |with_reducible refine cQ.bind ?_ (fun _=>?_)
  |(split<;>try dsimp only)
  |with_reducible exact cQ.refl _
def cK(s_0:Sl aj)(f_1_c0:ae):Option Int:=
 (hC 100000 (cu s_0 f_1_c0) 0).bind fun
 |.inl i5=>(some i5)
 |.inr _=>(some (-1))
theorem gA(s_0:Sl aj)(f_1_c0:ae):cQ (cK s_0 f_1_c0) (bD s_0 f_1_c0):=by
 unfold cK bD
 repeat' first
  |with_reducible apply gg
  |with_reducible refine cQ.loop (fun _=>?_) _ _
  |with_reducible refine cQ.bind ?_ (fun _=>?_)
  |(split<;>try dsimp only)
  |with_reducible exact cQ.refl _
def cz(s_0:Sl aj)(f_1_c0:ae):Option Bool:=
 (cK s_0 f_1_c0).bind fun r1=>
 some (decide (r1>=0))
theorem gi(s_0:Sl aj)(f_1_c0:ae):cQ (cz s_0 f_1_c0) (bp s_0 f_1_c0):=by
 unfold cz bp
 repeat' first
  |with_reducible apply gA
  |with_reducible refine cQ.bind ?_ (fun _=>?_)
  |(split<;>try dsimp only)
  |with_reducible exact cQ.refl _
def jL(x_0:bt)(m_1:ae):Option Bool:=
 (cz (bh.gO (bt.p x_0)) m_1).bind fun r1=>
 some r1
theorem oc(x_0:bt)(m_1:ae):cQ (jL x_0 m_1) (eY x_0 m_1):=by
 unfold jL eY
 repeat' first
  |with_reducible apply gi
  |with_reducible refine cQ.bind ?_ (fun _=>?_)
  |(split<;>try dsimp only)
  |with_reducible exact cQ.refl _
def j3(i13:Int)(s47:Sl aq)(i43:Int)(i45:Int)(i46:Int)(n48:Nat)(s16:Sl (Sl Int))(n24:Nat)(i37:Int)(x38:ah)(s39:Sl (Sl Int))(s40:Sl (Sl Int))(s41:Sl ae)(s42:Sl aj)(i44:Int):(Int×Int)->Option ((Int×Int)⊕Int):=fun(i51,i52)=>
 bif decide (i52<(s41.l.length:Int))then(((fw i52 s41.l.length).bind fun n53=>
 (bif((((ae.Sw (gt s41.l n53))==i13)&&((ae.nh (gt s41.l n53))==i37))&&((ae.ot (gt s41.l n53))==(gt ((gt s16.l n24).l) n48)))then((jL (⟨x38,s39,s40,(⟨s41,s42,i43,i44,i45,i46⟩:dq),s47⟩:bt) (gt s41.l n53)).bind fun r54=>
 some r54)else
 (some false):Option Bool).bind fun b55=>
 bif b55 then(some (wr .i64 (i51+1)))else
 (some i51):Option Int).bind fun i56=>
 some (.inl (i56,wr .i64 (i52+1))))else
 (some (.inr i51))
theorem qj(i13:Int)(s47:Sl aq)(i43:Int)(i45:Int)(i46:Int)(n48:Nat)(s16:Sl (Sl Int))(n24:Nat)(i37:Int)(x38:ah)(s39:Sl (Sl Int))(s40:Sl (Sl Int))(s41:Sl ae)(s42:Sl aj)(i44:Int):∀s,cQ (j3 i13 s47 i43 i45 i46 n48 s16 n24 i37 x38 s39 s40 s41 s42 i44 s) (dU i13 s47 i43 i45 i46 n48 s16 n24 i37 x38 s39 s40 s41 s42 i44 s):=by
 intro s;unfold j3 dU
 repeat' first
  |with_reducible apply oc
  |with_reducible refine cQ.cond ?_ ?_
  |with_reducible refine cQ.bind ?_ (fun _=>?_)
  |(split<;>try dsimp only)
  |with_reducible exact cQ.refl _
def jZ(i13:Int)(s16:Sl (Sl Int))(n24:Nat):(Int×ah×Sl (Sl Int)×Sl (Sl Int)×Sl ae×Sl aj×Int×Int×Int×Int×Sl aq)->Option ((Int×ah×Sl (Sl Int)×Sl (Sl Int)×Sl ae×Sl aj×Int×Int×Int×Int×Sl aq)⊕(ah×Sl (Sl Int)×Sl (Sl Int)×Sl ae×Sl aj×Int×Int×Int×Int×Sl aq)):=fun(i37,x38,s39,s40,s41,s42,i43,i44,i45,i46,s47)=>
 bif decide (i37<(((gt s16.l n24).l).length:Int))then((fw i37 ((gt s16.l n24).l).length).bind fun n48=>
 (hC 100000 (j3 i13 s47 i43 i45 i46 n48 s16 n24 i37 x38 s39 s40 s41 s42 i44) (0,0)).bind fun i57=>
 (fw i13 s39.l.length).bind fun n58=>
 (fw i37 ((gt s39.l n58).l).length).bind fun n59=>
 (bG x38 s39 s40 s41 s42 i43 i44 i45 i46 s47 (((gt ((gt s16.l n24).l) n48) !=(gt ((gt s39.l n58).l) n59))&&(i57 !=1)) 2 i13 i37).bind fun(q60,q61,q62,q63,q64,q65,q66,q67,q68,s69)=>
 some (.inl (wr .i64 (i37+1),q60,q61,q62,q63,q64,q65,q66,q67,q68,s69)))else
 (some (.inr (x38,s39,s40,s41,s42,i43,i44,i45,i46,s47)))
theorem qi(i13:Int)(s16:Sl (Sl Int))(n24:Nat):∀s,cQ (jZ i13 s16 n24 s) (eU i13 s16 n24 s):=by
 intro s;unfold jZ eU
 repeat' first
  |with_reducible apply qj
  |with_reducible refine cQ.loop (fun _=>?_) _ _
  |with_reducible refine cQ.cond ?_ ?_
  |with_reducible refine cQ.bind ?_ (fun _=>?_)
  |(split<;>try dsimp only)
  |with_reducible exact cQ.refl _
def jY(x_0_now:Sl (Sl Int)):(Int×ah×Sl (Sl Int)×Sl (Sl Int)×Sl ae×Sl aj×Int×Int×Int×Int×Sl aq)->Option ((Int×ah×Sl (Sl Int)×Sl (Sl Int)×Sl ae×Sl aj×Int×Int×Int×Int×Sl aq)⊕(ah×Sl (Sl Int)×Sl (Sl Int)×Sl ae×Sl aj×Int×Int×Int×Int×Sl aq)):=fun(i13,x14,s15,s16,s17,s18,i19,i20,i21,i22,s23)=>
 bif decide (i13<(x_0_now.l.length:Int))then((fw i13 s16.l.length).bind fun n24=>
 (hC 100000 (jZ i13 s16 n24) (0,x14,s15,s16,s17,s18,i19,i20,i21,i22,s23)).bind fun(x70,s71,s72,s73,s74,i75,i76,i77,i78,s79)=>
 some (.inl (wr .i64 (i13+1),x70,s71,s72,s73,s74,i75,i76,i77,i78,s79)))else
 (some (.inr (x14,s15,s16,s17,s18,i19,i20,i21,i22,s23)))
theorem qh(x_0_now:Sl (Sl Int)):∀s,cQ (jY x_0_now s) (eT x_0_now s):=by
 intro s;unfold jY eT
 repeat' first
  |with_reducible apply qi
  |with_reducible refine cQ.loop (fun _=>?_) _ _
  |with_reducible refine cQ.cond ?_ ?_
  |with_reducible refine cQ.bind ?_ (fun _=>?_)
  |(split<;>try dsimp only)
  |with_reducible exact cQ.refl _
def jX(s83:Sl ae):(Int×ah×Sl (Sl Int)×Sl (Sl Int)×Sl ae×Sl aj×Int×Int×Int×Int×Sl aq)->Option ((Int×ah×Sl (Sl Int)×Sl (Sl Int)×Sl ae×Sl aj×Int×Int×Int×Int×Sl aq)⊕(ah×Sl (Sl Int)×Sl (Sl Int)×Sl ae×Sl aj×Int×Int×Int×Int×Sl aq)):=fun(i102,x103,s104,s105,s106,s107,i108,i109,i110,i111,s112)=>
 bif decide (i102<(s83.l.length:Int))then((fw i102 s83.l.length).bind fun n113=>
 ((fr (⟨x103,s104,s105,(⟨s106,s107,i108,i109,i110,i111⟩:dq),s112⟩:bt) (gt s83.l n113)).bind fun r114=>
 bif(!r114)then((bG x103 s104 s105 s106 s107 i108 i109 i110 i111 s112 true 3 i102 (ae.nh (gt s83.l n113))).bind fun(q115,q116,q117,q118,q119,q120,q121,q122,q123,s124)=>
 some (q115,q116,q117,q118,q119,q120,q121,q122,q123,s124))else
 ((fw (ae.Sw (gt s83.l n113)) s105.l.length).bind fun n125=>
 (fw (ae.nh (gt s83.l n113)) ((gt s105.l n125).l).length).bind fun n126=>
 bif((gt ((gt s105.l n125).l) n126) !=(ae.ot (gt s83.l n113)))then((bG x103 s104 s105 s106 s107 i108 i109 i110 i111 s112 true 3 i102 (ae.nh (gt s83.l n113))).bind fun(q127,q128,q129,q130,q131,q132,q133,q134,q135,s136)=>
 some (q127,q128,q129,q130,q131,q132,q133,q134,q135,s136))else
 ((fw (ae.Sw (gt s83.l n113)) s104.l.length).bind fun n137=>
 (fw (ae.nh (gt s83.l n113)) ((gt s104.l n137).l).length).bind fun n138=>
 bif((gt ((gt s104.l n137).l) n138)==(ae.ot (gt s83.l n113)))then((bG x103 s104 s105 s106 s107 i108 i109 i110 i111 s112 true 3 i102 (ae.nh (gt s83.l n113))).bind fun(q139,q140,q141,q142,q143,q144,q145,q146,q147,s148)=>
 some (q139,q140,q141,q142,q143,q144,q145,q146,q147,s148))else
 ((jL (⟨x103,s104,s105,(⟨s106,s107,i108,i109,i110,i111⟩:dq),s112⟩:bt) (gt s83.l n113)).bind fun r149=>
 (bG x103 s104 s105 s106 s107 i108 i109 i110 i111 s112 (!r149) 3 i102 (ae.nh (gt s83.l n113))).bind fun(q150,q151,q152,q153,q154,q155,q156,q157,q158,s159)=>
 some (q150,q151,q152,q153,q154,q155,q156,q157,q158,s159)))):Option (ah×Sl (Sl Int)×Sl (Sl Int)×Sl ae×Sl aj×Int×Int×Int×Int×Sl aq)).bind fun(x160,s161,s162,s163,s164,i165,i166,i167,i168,s169)=>
 some (.inl (wr .i64 (i102+1),x160,s161,s162,s163,s164,i165,i166,i167,i168,s169)))else
 (some (.inr (x103,s104,s105,s106,s107,i108,i109,i110,i111,s112)))
theorem qg(s83:Sl ae):∀s,cQ (jX s83 s) (eS s83 s):=by
 intro s;unfold jX eS
 repeat' first
  |with_reducible apply oc
  |with_reducible refine cQ.cond ?_ ?_
  |with_reducible refine cQ.bind ?_ (fun _=>?_)
  |(split<;>try dsimp only)
  |with_reducible exact cQ.refl _
def k7(x_0_t:ah)(x_0_old:Sl (Sl Int))(x_0_now:Sl (Sl Int))(x_0_p_Moves:Sl ae)(x_0_p_Rounds:Sl aj)(x_0_p_Miss:Int)(x_0_p_Life:Int)(x_0_p_From:Int)(x_0_p_To:Int)(x_0_out:Sl aq):Option (ah×Sl (Sl Int)×Sl (Sl Int)×Sl ae×Sl aj×Int×Int×Int×Int×Sl aq):=
 (hC 100000 (jY x_0_now) (0,x_0_t,x_0_old,x_0_now,x_0_p_Moves,x_0_p_Rounds,x_0_p_Miss,x_0_p_Life,x_0_p_From,x_0_p_To,x_0_out)).bind fun(x80,s81,s82,s83,s84,i85,i86,i87,i88,s89)=>
 (hC 100000 (jX s83) (0,x80,s81,s82,s83,s84,i85,i86,i87,i88,s89)).bind fun(x170,s171,s172,s173,s174,i175,i176,i177,i178,s179)=>
 some (x170,s171,s172,s173,s174,i175,i176,i177,i178,s179)
theorem rX(x_0_t:ah)(x_0_old:Sl (Sl Int))(x_0_now:Sl (Sl Int))(x_0_p_Moves:Sl ae)(x_0_p_Rounds:Sl aj)(x_0_p_Miss:Int)(x_0_p_Life:Int)(x_0_p_From:Int)(x_0_p_To:Int)(x_0_out:Sl aq):cQ (k7 x_0_t x_0_old x_0_now x_0_p_Moves x_0_p_Rounds x_0_p_Miss x_0_p_Life x_0_p_From x_0_p_To x_0_out) (fU x_0_t x_0_old x_0_now x_0_p_Moves x_0_p_Rounds x_0_p_Miss x_0_p_Life x_0_p_From x_0_p_To x_0_out):=by
 unfold k7 fU
 repeat' first
  |with_reducible apply qh
  |with_reducible apply qg
  |with_reducible refine cQ.loop (fun _=>?_) _ _
  |with_reducible refine cQ.bind ?_ (fun _=>?_)
  |(split<;>try dsimp only)
  |with_reducible exact cQ.refl _
def ph(t_0:ah):Option Int:=
 (hC 100000 (jh t_0) (0,0)).bind fun i6=>
 some i6
theorem xa(t_0:ah):cQ (ph t_0) (lq t_0):=by
 unfold ph lq
 repeat' first
  |with_reducible refine cQ.loop (fun _=>?_) _ _
  |with_reducible refine cQ.bind ?_ (fun _=>?_)
  |(split<;>try dsimp only)
  |with_reducible exact cQ.refl _
def sy(t_0:ah):Option Int:=
 (ph t_0).bind fun r1=>
 some (wr .i64 ((ah.bo t_0)*r1))
theorem BE(t_0:ah):cQ (sy t_0) (nD t_0):=by
 unfold sy nD
 repeat' first
  |with_reducible apply xa
  |with_reducible refine cQ.bind ?_ (fun _=>?_)
  |(split<;>try dsimp only)
  |with_reducible exact cQ.refl _
def uz(t_0:ah)(miss_1:Int):Option Int:=
 (sy t_0).bind fun r1=>
 some (wr .i64 ((wr .i64 ((wr .i64 (2*miss_1))+r1))+1))
theorem C7(t_0:ah)(miss_1:Int):cQ (uz t_0 miss_1) (nV t_0 miss_1):=by
 unfold uz nV
 repeat' first
  |with_reducible apply BE
  |with_reducible refine cQ.bind ?_ (fun _=>?_)
  |(split<;>try dsimp only)
  |with_reducible exact cQ.refl _
def kZ(x_0_t:ah)(x_0_old:Sl (Sl Int))(x_0_now:Sl (Sl Int))(x_0_p_Moves:Sl ae)(x_0_p_Rounds:Sl aj)(x_0_p_Miss:Int)(x_0_p_Life:Int)(x_0_p_From:Int)(x_0_p_To:Int)(x_0_out:Sl aq):Option (ah×Sl (Sl Int)×Sl (Sl Int)×Sl ae×Sl aj×Int×Int×Int×Int×Sl aq):=
 (uz x_0_t (if 1048576<(if 0>x_0_p_Miss then 0 else x_0_p_Miss)then 1048576 else(if 0>x_0_p_Miss then 0 else x_0_p_Miss))).bind fun r1=>
 (hC 100000 (dT r1) (1,x_0_t,x_0_old,x_0_now,x_0_p_Moves,x_0_p_Rounds,x_0_p_Miss,x_0_p_Life,x_0_p_From,x_0_p_To,x_0_out)).bind fun(x39,s40,s41,s42,s43,i44,i45,i46,i47,s48)=>
 some (x39,s40,s41,s42,s43,i44,i45,i46,i47,s48)
theorem rW(x_0_t:ah)(x_0_old:Sl (Sl Int))(x_0_now:Sl (Sl Int))(x_0_p_Moves:Sl ae)(x_0_p_Rounds:Sl aj)(x_0_p_Miss:Int)(x_0_p_Life:Int)(x_0_p_From:Int)(x_0_p_To:Int)(x_0_out:Sl aq):cQ (kZ x_0_t x_0_old x_0_now x_0_p_Moves x_0_p_Rounds x_0_p_Miss x_0_p_Life x_0_p_From x_0_p_To x_0_out) (fT x_0_t x_0_old x_0_now x_0_p_Moves x_0_p_Rounds x_0_p_Miss x_0_p_Life x_0_p_From x_0_p_To x_0_out):=by
 unfold kZ fT
 repeat' first
  |with_reducible apply C7
  |with_reducible refine cQ.loop (fun _=>?_) _ _
  |with_reducible refine cQ.bind ?_ (fun _=>?_)
  |(split<;>try dsimp only)
  |with_reducible exact cQ.refl _
def ql(n_0:Int)(l_1:Sl aP):Option Bool:=
 bif((decide (n_0<0))||(decide (n_0>16)))then(some false)else
 ((hC 100000 (j4 n_0 l_1) 0).bind fun
 |.inl b4=>(some b4)
 |.inr _=>(some true))
theorem yW(n_0:Int)(l_1:Sl aP):cQ (ql n_0 l_1) (k8 n_0 l_1):=by
 unfold ql k8
 repeat' first
  |with_reducible refine cQ.loop (fun _=>?_) _ _
  |with_reducible refine cQ.cond ?_ ?_
  |with_reducible refine cQ.bind ?_ (fun _=>?_)
  |(split<;>try dsimp only)
  |with_reducible exact cQ.refl _
def oD(l_1:Sl aP):(Int×Sl Int)->Option ((Int×Sl Int)⊕(Sl Int)):=fun(i5,s6)=>
 bif decide (i5<(l_1.l.length:Int))then((fw i5 l_1.l.length).bind fun n7=>
 (fw (aP.rJ (gt l_1.l n7)) s6.l.length).bind fun n8=>
 (x9 .u16 1 (aP.To (gt l_1.l n7))).bind fun i9=>
 (fw (aP.rJ (gt l_1.l n7)) s6.l.length).bind fun n10=>
 some (.inl (wr .i64 (i5+1),(Sl.mk (s6.l.set n10 (OG .u16 (gt s6.l n8) i9))))))else
 (some (.inr s6))
theorem wi(l_1:Sl aP):∀s,cQ (oD l_1 s) (kA l_1 s):=by
 intro s;unfold oD kA;rw[Cb]
 repeat' first
  |with_reducible refine cQ.cond ?_ ?_
  |with_reducible refine cQ.bind ?_ (fun _=>?_)
  |(split<;>try dsimp only)
  |with_reducible exact cQ.refl _
def rx(n_0:Int)(l_1:Sl aP):Option (Sl Int):=
 (zE 0 n_0 n_0).bind fun l1=>
 (hC 100000 (oD l_1) (0,(Sl.mk l1))).bind fun s11=>
 some s11
theorem z6(n_0:Int)(l_1:Sl aP):cQ (rx n_0 l_1) (nH n_0 l_1):=by
 unfold rx nH
 repeat' first
  |with_reducible apply wi
  |with_reducible refine cQ.loop (fun _=>?_) _ _
  |with_reducible refine cQ.bind ?_ (fun _=>?_)
  |(split<;>try dsimp only)
  |with_reducible exact cQ.refl _
def ge(x_0:Int):Option Int:=
 bif(x_0==0)then(some 16)else
 ((fw (Jz .u32 (wr .u32 ((wr .u32 (Hx .u16 x_0 (wr .u16 (0-x_0))))*125613361)) 27) 32).bind fun n1=>
 some (wr .i64 (gt HM.1 n1)))
theorem ku(x_0:Int):cQ (ge x_0) (dE x_0):=by
 unfold ge dE;rw[xI]
 repeat' first
  |with_reducible refine cQ.cond ?_ ?_
  |with_reducible refine cQ.bind ?_ (fun _=>?_)
  |(split<;>try dsimp only)
  |with_reducible exact cQ.refl _
def oE:(Int×Sl Int)->Option ((Int×Sl Int)⊕(Sl Int)):=fun(i4,s5)=>
 bif(i4 !=0)then((ge i4).bind fun r6=>
 (jF (s5.l++[r6])).bind fun l7=>
 some (.inl (Hx .u16 i4 (wr .u16 (i4-1)),(Sl.mk l7))))else
 (some (.inr s5))
theorem wj:∀s,cQ (oE s) (kC s):=by
 intro s;unfold oE kC;rw[xI]
 repeat' first
  |with_reducible apply ku
  |with_reducible refine cQ.cond ?_ ?_
  |with_reducible refine cQ.bind ?_ (fun _=>?_)
  |(split<;>try dsimp only)
  |with_reducible exact cQ.refl _
def ry(set_0:Int):Option (Sl Int):=
 (hC 100000 (oE) (set_0,Sl.nil)).bind fun s8=>
 some s8
theorem z7(set_0:Int):cQ (ry set_0) (nI set_0):=by
 unfold ry nI
 repeat' first
  |with_reducible apply wj
  |with_reducible refine cQ.loop (fun _=>?_) _ _
  |with_reducible refine cQ.bind ?_ (fun _=>?_)
  |(split<;>try dsimp only)
  |with_reducible exact cQ.refl _
def oC(to_0:Sl Int)(r1:Sl Int):(Int×Int)->Option ((Int×Int)⊕Int):=fun(i4,i5)=>
 bif decide (i5<(r1.l.length:Int))then((fw i5 r1.l.length).bind fun n6=>
 (fw (gt r1.l n6) to_0.l.length).bind fun n7=>
 some (.inl (OG .u16 i4 (gt to_0.l n7),wr .i64 (i5+1))))else
 (some (.inr i4))
theorem wh(to_0:Sl Int)(r1:Sl Int):∀s,cQ (oC to_0 r1 s) (kz to_0 r1 s):=by
 intro s;unfold oC kz;rw[Cb]
 repeat' first
  |with_reducible refine cQ.cond ?_ ?_
  |with_reducible refine cQ.bind ?_ (fun _=>?_)
  |(split<;>try dsimp only)
  |with_reducible exact cQ.refl _
def ru(to_0:Sl Int)(set_1:Int):Option Int:=
 (ry set_1).bind fun r1=>
 (hC 100000 (oC to_0 r1) (0,0)).bind fun i8=>
 some i8
theorem zZ(to_0:Sl Int)(set_1:Int):cQ (ru to_0 set_1) (nG to_0 set_1):=by
 unfold ru nG
 repeat' first
  |with_reducible apply z7
  |with_reducible apply wh
  |with_reducible refine cQ.loop (fun _=>?_) _ _
  |with_reducible refine cQ.bind ?_ (fun _=>?_)
  |(split<;>try dsimp only)
  |with_reducible exact cQ.refl _
def nJ(r2:Sl Int):(Int×Sl Int)->Option ((Int×Sl Int)⊕(Bool⊕(Sl Int))):=fun(i7,s8)=>
 bif(i7 !=0)then((ru r2 i7).bind fun r9=>
 bif((sV .u16 i7 r9)==0)then(some (.inr (.inl false)))else
 ((ge (sV .u16 i7 r9)).bind fun r10=>
 (jF (s8.l++[r10])).bind fun l11=>
 (x9 .u16 1 r10).bind fun i12=>
 some (.inl (sV .u16 i7 i12,(Sl.mk l11)))))else
 (some (.inr (.inr s8)))
theorem vr(r2:Sl Int):∀s,cQ (nJ r2 s) (iR r2 s):=by
 intro s;unfold nJ iR;rw[uK]
 repeat' first
  |with_reducible apply zZ
  |with_reducible apply ku
  |with_reducible refine cQ.cond ?_ ?_
  |with_reducible refine cQ.bind ?_ (fun _=>?_)
  |(split<;>try dsimp only)
  |with_reducible exact cQ.refl _
def qm(n_0:Int)(l_1:Sl aP):Option (Sl Int×Bool):=
 (ql n_0 l_1).bind fun r1=>
 bif(!r1)then(some (Sl.nil,false))else
 ((rx n_0 l_1).bind fun r2=>
 (x9 .u16 1 n_0).bind fun i3=>
 (hC 100000 (nJ r2) (wr .u16 (i3-1),Sl.nil)).bind fun
 |.inl b13=>(some (Sl.nil,b13))
 |.inr s14=>(some (s14,true)))
theorem yX(n_0:Int)(l_1:Sl aP):cQ (qm n_0 l_1) (iG n_0 l_1):=by
 unfold qm iG
 repeat' first
  |with_reducible apply yW
  |with_reducible apply z6
  |with_reducible apply vr
  |with_reducible refine cQ.loop (fun _=>?_) _ _
  |with_reducible refine cQ.cond ?_ ?_
  |with_reducible refine cQ.bind ?_ (fun _=>?_)
  |(split<;>try dsimp only)
  |with_reducible exact cQ.refl _
def kg(x_0_t:ah)(ports_1:Sl (Sl Int))(h_3:Int)(i7:Int)(n9:Nat):(Bool×Int×Sl aP)->Option ((Bool×Int×Sl aP)⊕(Bool×Sl aP)):=fun(b13,i14,s15)=>
 bif decide (i14<(((gt ports_1.l n9).l).length:Int))then(((fw i14 ((gt ports_1.l n9).l).length).bind fun n16=>
 (pT x_0_t i7 (gt ((gt ports_1.l n9).l) n16)).bind fun(r17,r18,r19,r20)=>
 bif r20 then((jF (s15.l++[(⟨i7,r17⟩:aP)])).bind fun l21=>
 some (b13,(Sl.mk l21)))else
 ((fw h_3 ((ah.bf x_0_t).l).length).bind fun n22=>
 bif(!(decide ((gt ((ah.bf x_0_t).l) n22)=(⟨i7,gt ((gt ports_1.l n9).l) n16⟩:fK))))then(some (true,s15))else
 (some (b13,s15))):Option (Bool×Sl aP)).bind fun(b23,s24)=>
 some (.inl (b23,wr .i64 (i14+1),s24)))else
 (some (.inr (b13,s15)))
theorem qF(x_0_t:ah)(ports_1:Sl (Sl Int))(h_3:Int)(i7:Int)(n9:Nat):∀s,cQ (kg x_0_t ports_1 h_3 i7 n9 s) (er x_0_t ports_1 h_3 i7 n9 s):=by
 intro s;unfold kg er
 repeat' first
  |with_reducible apply uR
  |with_reducible refine cQ.cond ?_ ?_
  |with_reducible refine cQ.bind ?_ (fun _=>?_)
  |(split<;>try dsimp only)
  |with_reducible exact cQ.refl _
def kf(x_0_t:ah)(ports_1:Sl (Sl Int))(h_3:Int):(Bool×Int×Sl aP)->Option ((Bool×Int×Sl aP)⊕(Bool×Sl aP)):=fun(b6,i7,s8)=>
 bif decide (i7<(ports_1.l.length:Int))then((fw i7 ports_1.l.length).bind fun n9=>
 (hC 100000 (kg x_0_t ports_1 h_3 i7 n9) (b6,0,s8)).bind fun(b25,s26)=>
 some (.inl (b25,wr .i64 (i7+1),s26)))else
 (some (.inr (b6,s8)))
theorem qE(x_0_t:ah)(ports_1:Sl (Sl Int))(h_3:Int):∀s,cQ (kf x_0_t ports_1 h_3 s) (fm x_0_t ports_1 h_3 s):=by
 intro s;unfold kf fm
 repeat' first
  |with_reducible apply qF
  |with_reducible refine cQ.loop (fun _=>?_) _ _
  |with_reducible refine cQ.cond ?_ ?_
  |with_reducible refine cQ.bind ?_ (fun _=>?_)
  |(split<;>try dsimp only)
  |with_reducible exact cQ.refl _
def lK(x_0_t:ah)(x_0_old:Sl (Sl Int))(x_0_now:Sl (Sl Int))(x_0_p_Moves:Sl ae)(x_0_p_Rounds:Sl aj)(x_0_p_Miss:Int)(x_0_p_Life:Int)(x_0_p_From:Int)(x_0_p_To:Int)(x_0_out:Sl aq)(ports_1:Sl (Sl Int))(k_2:Int)(h_3:Int):Option (ah×Sl (Sl Int)×Sl (Sl Int)×Sl ae×Sl aj×Int×Int×Int×Int×Sl aq):=
 (hC 100000 (kf x_0_t ports_1 h_3) (false,0,Sl.nil)).bind fun(b27,s28)=>
 (qm (ah.bo x_0_t) s28).bind fun(r29,r30)=>
 (bG x_0_t x_0_old x_0_now x_0_p_Moves x_0_p_Rounds x_0_p_Miss x_0_p_Life x_0_p_From x_0_p_To x_0_out b27 5 k_2 h_3).bind fun(q31,q32,q33,q34,q35,q36,q37,q38,q39,s40)=>
 (bG q31 q32 q33 q34 q35 q36 q37 q38 q39 s40 (!r30) 6 k_2 h_3).bind fun(q41,q42,q43,q44,q45,q46,q47,q48,q49,s50)=>
 some (q41,q42,q43,q44,q45,q46,q47,q48,q49,s50)
theorem sK(x_0_t:ah)(x_0_old:Sl (Sl Int))(x_0_now:Sl (Sl Int))(x_0_p_Moves:Sl ae)(x_0_p_Rounds:Sl aj)(x_0_p_Miss:Int)(x_0_p_Life:Int)(x_0_p_From:Int)(x_0_p_To:Int)(x_0_out:Sl aq)(ports_1:Sl (Sl Int))(k_2:Int)(h_3:Int):cQ (lK x_0_t x_0_old x_0_now x_0_p_Moves x_0_p_Rounds x_0_p_Miss x_0_p_Life x_0_p_From x_0_p_To x_0_out ports_1 k_2 h_3) (ia x_0_t x_0_old x_0_now x_0_p_Moves x_0_p_Rounds x_0_p_Miss x_0_p_Life x_0_p_From x_0_p_To x_0_out ports_1 k_2 h_3):=by
 unfold lK ia
 repeat' first
  |with_reducible apply qE
  |with_reducible apply yX
  |with_reducible refine cQ.loop (fun _=>?_) _ _
  |with_reducible refine cQ.bind ?_ (fun _=>?_)
  |(split<;>try dsimp only)
  |with_reducible exact cQ.refl _
def jD(x_0_p_Rounds:Sl aj)(n36:Nat)(s52:Sl (Sl Int))(s53:Sl (Sl Int))(s61:Sl aq)(s55:Sl aj)(s54:Sl ae)(i50:Int)(x51:ah)(i56:Int)(i57:Int)(i58:Int)(i59:Int):(Int×Sl (Sl Int))->Option ((Int×Sl (Sl Int))⊕(Sl (Sl Int))):=fun(i78,s79)=>
 bif decide (i78<(s54.l.length:Int))then(((fw i78 s54.l.length).bind fun n80=>
 (bif((ae.nh (gt s54.l n80))==i50)then((fr (⟨x51,s52,s53,(⟨s54,s55,i56,i57,i58,i59⟩:dq),s61⟩:bt) (gt s54.l n80)).bind fun r81=>
 bif r81 then((mR (gt x_0_p_Rounds.l n36) (gt s54.l n80)).bind fun r82=>
 some r82)else
 (some false))else
 (some false):Option Bool).bind fun b83=>
 bif b83 then((fw (ae.Sw (gt s54.l n80)) s79.l.length).bind fun n84=>
 (jF (((gt s79.l n84).l)++[ae.ot (gt s54.l n80)])).bind fun l85=>
 (fw (ae.Sw (gt s54.l n80)) s79.l.length).bind fun n86=>
 bif Nat.beq n84 n86 then(some (Sl.mk (s79.l.set n86 (Sl.mk l85))))else(none))else
 (some s79):Option (Sl (Sl Int))).bind fun s87=>
 some (.inl (wr .i64 (i78+1),s87)))else
 (some (.inr s79))
theorem pK(x_0_p_Rounds:Sl aj)(n36:Nat)(s52:Sl (Sl Int))(s53:Sl (Sl Int))(s61:Sl aq)(s55:Sl aj)(s54:Sl ae)(i50:Int)(x51:ah)(i56:Int)(i57:Int)(i58:Int)(i59:Int):∀s,cQ (jD x_0_p_Rounds n36 s52 s53 s61 s55 s54 i50 x51 i56 i57 i58 i59 s) (eD x_0_p_Rounds n36 s52 s53 s61 s55 s54 i50 x51 i56 i57 i58 i59 s):=by
 intro s;unfold jD eD
 repeat' first
  |with_reducible apply qk
  |with_reducible refine cQ.cond ?_ ?_
  |with_reducible refine cQ.bind ?_ (fun _=>?_)
  |(split<;>try dsimp only)
  |with_reducible exact cQ.refl _
def jC(x_0_p_Rounds:Sl aj)(n36:Nat)(i24:Int)(x25:ah):(Int×ah×Sl (Sl Int)×Sl (Sl Int)×Sl ae×Sl aj×Int×Int×Int×Int×Sl (Sl Int)×Sl aq)->Option ((Int×ah×Sl (Sl Int)×Sl (Sl Int)×Sl ae×Sl aj×Int×Int×Int×Int×Sl (Sl Int)×Sl aq)⊕(ah×Sl (Sl Int)×Sl (Sl Int)×Sl ae×Sl aj×Int×Int×Int×Int×Sl (Sl Int)×Sl aq)):=fun(i50,x51,s52,s53,s54,s55,i56,i57,i58,i59,s60,s61)=>
 bif decide (i50<(((ah.bf x25).l).length:Int))then((zE (Sl.nil:Sl Int) (s60.l.length:Int) (s60.l.length:Int)).bind fun l62=>
 (hC 100000 (fy i50 s60) (0,s60,(Sl.mk l62))).bind fun(s73,s74)=>
 (hC 100000 (jD x_0_p_Rounds n36 s52 s53 s61 s55 s54 i50 x51 i56 i57 i58 i59) (0,s74)).bind fun s88=>
 (lK x51 s52 s53 s54 s55 i56 i57 i58 i59 s61 s88 i24 i50).bind fun(q89,q90,q91,q92,q93,q94,q95,q96,q97,s98)=>
 some (.inl (wr .i64 (i50+1),q89,q90,q91,q92,q93,q94,q95,q96,q97,s73,s98)))else
 (some (.inr (x51,s52,s53,s54,s55,i56,i57,i58,i59,s60,s61)))
theorem pJ(x_0_p_Rounds:Sl aj)(n36:Nat)(i24:Int)(x25:ah):∀s,cQ (jC x_0_p_Rounds n36 i24 x25 s) (eC x_0_p_Rounds n36 i24 x25 s):=by
 intro s;unfold jC eC
 repeat' first
  |with_reducible apply pK
  |with_reducible apply sK
  |with_reducible refine cQ.loop (fun _=>?_) _ _
  |with_reducible refine cQ.cond ?_ ?_
  |with_reducible refine cQ.bind ?_ (fun _=>?_)
  |(split<;>try dsimp only)
  |with_reducible exact cQ.refl _
def jB(x_0_p_Rounds:Sl aj)(n36:Nat)(s100:Sl (Sl Int))(s102:Sl ae)(s109:Sl aq)(x99:ah)(s101:Sl (Sl Int))(s103:Sl aj)(i104:Int)(i105:Int)(i106:Int)(i107:Int):(Int×Sl (Sl Int))->Option ((Int×Sl (Sl Int))⊕(Sl (Sl Int))):=fun(i113,s114)=>
 bif decide (i113<(s102.l.length:Int))then(((fw i113 s102.l.length).bind fun n115=>
 ((fr (⟨x99,s100,s101,(⟨s102,s103,i104,i105,i106,i107⟩:dq),s109⟩:bt) (gt s102.l n115)).bind fun r116=>
 bif r116 then((mR (gt x_0_p_Rounds.l n36) (gt s102.l n115)).bind fun r117=>
 some r117)else
 (some false):Option Bool).bind fun b118=>
 bif b118 then((fw (ae.Sw (gt s102.l n115)) s114.l.length).bind fun n119=>
 (fw (ae.nh (gt s102.l n115)) ((gt s114.l n119).l).length).bind fun n120=>
 some (Sl.mk (s114.l.set n119 (Sl.mk (((gt s114.l n119).l).set n120 (ae.ot (gt s102.l n115)))))))else
 (some s114):Option (Sl (Sl Int))).bind fun s121=>
 some (.inl (wr .i64 (i113+1),s121)))else
 (some (.inr s114))
theorem pI(x_0_p_Rounds:Sl aj)(n36:Nat)(s100:Sl (Sl Int))(s102:Sl ae)(s109:Sl aq)(x99:ah)(s101:Sl (Sl Int))(s103:Sl aj)(i104:Int)(i105:Int)(i106:Int)(i107:Int):∀s,cQ (jB x_0_p_Rounds n36 s100 s102 s109 x99 s101 s103 i104 i105 i106 i107 s) (eB x_0_p_Rounds n36 s100 s102 s109 x99 s101 s103 i104 i105 i106 i107 s):=by
 intro s;unfold jB eB
 repeat' first
  |with_reducible apply qk
  |with_reducible refine cQ.cond ?_ ?_
  |with_reducible refine cQ.bind ?_ (fun _=>?_)
  |(split<;>try dsimp only)
  |with_reducible exact cQ.refl _
def jA(x_0_p_Rounds:Sl aj):(Int×ah×Sl (Sl Int)×Sl (Sl Int)×Sl ae×Sl aj×Int×Int×Int×Int×Sl (Sl Int)×Sl aq)->Option ((Int×ah×Sl (Sl Int)×Sl (Sl Int)×Sl ae×Sl aj×Int×Int×Int×Int×Sl (Sl Int)×Sl aq)⊕(ah×Sl (Sl Int)×Sl (Sl Int)×Sl ae×Sl aj×Int×Int×Int×Int×Sl aq)):=fun(i24,x25,s26,s27,s28,s29,i30,i31,i32,i33,s34,s35)=>
 bif decide (i24<(x_0_p_Rounds.l.length:Int))then((fw i24 x_0_p_Rounds.l.length).bind fun n36=>
 (hC 100000 (jC x_0_p_Rounds n36 i24 x25) (0,x25,s26,s27,s28,s29,i30,i31,i32,i33,s34,s35)).bind fun(x99,s100,s101,s102,s103,i104,i105,i106,i107,s108,s109)=>
 (hC 100000 (jB x_0_p_Rounds n36 s100 s102 s109 x99 s101 s103 i104 i105 i106 i107) (0,s108)).bind fun s122=>
 some (.inl (wr .i64 (i24+1),x99,s100,s101,s102,s103,i104,i105,i106,i107,s122,s109)))else
 (some (.inr (x25,s26,s27,s28,s29,i30,i31,i32,i33,s35)))
theorem pH(x_0_p_Rounds:Sl aj):∀s,cQ (jA x_0_p_Rounds s) (eA x_0_p_Rounds s):=by
 intro s;unfold jA eA
 repeat' first
  |with_reducible apply pJ
  |with_reducible apply pI
  |with_reducible refine cQ.loop (fun _=>?_) _ _
  |with_reducible refine cQ.cond ?_ ?_
  |with_reducible refine cQ.bind ?_ (fun _=>?_)
  |(split<;>try dsimp only)
  |with_reducible exact cQ.refl _
def kH(x_0_t:ah)(x_0_old:Sl (Sl Int))(x_0_now:Sl (Sl Int))(x_0_p_Moves:Sl ae)(x_0_p_Rounds:Sl aj)(x_0_p_Miss:Int)(x_0_p_Life:Int)(x_0_p_From:Int)(x_0_p_To:Int)(x_0_out:Sl aq):Option (ah×Sl (Sl Int)×Sl (Sl Int)×Sl ae×Sl aj×Int×Int×Int×Int×Sl aq):=
 (zE (Sl.nil:Sl Int) (x_0_old.l.length:Int) (x_0_old.l.length:Int)).bind fun l1=>
 (hC 100000 (fz x_0_old) (0,(Sl.mk l1))).bind fun s10=>
 (hC 100000 (jA x_0_p_Rounds) (0,x_0_t,x_0_old,x_0_now,x_0_p_Moves,x_0_p_Rounds,x_0_p_Miss,x_0_p_Life,x_0_p_From,x_0_p_To,s10,x_0_out)).bind fun(x123,s124,s125,s126,s127,i128,i129,i130,i131,s132)=>
 some (x123,s124,s125,s126,s127,i128,i129,i130,i131,s132)
theorem rp(x_0_t:ah)(x_0_old:Sl (Sl Int))(x_0_now:Sl (Sl Int))(x_0_p_Moves:Sl ae)(x_0_p_Rounds:Sl aj)(x_0_p_Miss:Int)(x_0_p_Life:Int)(x_0_p_From:Int)(x_0_p_To:Int)(x_0_out:Sl aq):cQ (kH x_0_t x_0_old x_0_now x_0_p_Moves x_0_p_Rounds x_0_p_Miss x_0_p_Life x_0_p_From x_0_p_To x_0_out) (gz x_0_t x_0_old x_0_now x_0_p_Moves x_0_p_Rounds x_0_p_Miss x_0_p_Life x_0_p_From x_0_p_To x_0_out):=by
 unfold kH gz
 repeat' first
  |with_reducible apply pH
  |with_reducible refine cQ.loop (fun _=>?_) _ _
  |with_reducible refine cQ.bind ?_ (fun _=>?_)
  |(split<;>try dsimp only)
  |with_reducible exact cQ.refl _
def nN(t_0:ah)(old_1:Sl (Sl Int))(now_2:Sl (Sl Int))(p_3:bh):Option (Sl aq):=
 ((oU t_0 old_1).bind fun r1=>
 bif(!r1)then(some true)else
 ((oU t_0 now_2).bind fun r2=>
 some (!r2)):Option Bool).bind fun b3=>
 bif b3 then(some (Sl.mk [(⟨1,0,0⟩:aq)]))else
 ((k7 t_0 old_1 now_2 (bh.qR p_3) (bh.gO p_3) (bh.MT p_3) (bh.Rf p_3) (bh.rJ p_3) (bh.To p_3) Sl.nil).bind fun(q4,q5,q6,q7,q8,q9,q10,q11,q12,s13)=>
 (kZ q4 q5 q6 q7 q8 q9 q10 q11 q12 s13).bind fun(q14,q15,q16,q17,q18,q19,q20,q21,q22,s23)=>
 (kH q14 q15 q16 q17 q18 q19 q20 q21 q22 s23).bind fun(q24,q25,q26,q27,q28,q29,q30,q31,q32,s33)=>
 some s33)
theorem yR(t_0:ah)(old_1:Sl (Sl Int))(now_2:Sl (Sl Int))(p_3:bh):cQ (nN t_0 old_1 now_2 p_3) (hZ t_0 old_1 now_2 p_3):=by
 unfold nN hZ
 repeat' first
  |with_reducible apply zQ
  |with_reducible apply rX
  |with_reducible apply rW
  |with_reducible apply rp
  |with_reducible refine cQ.cond ?_ ?_
  |with_reducible refine cQ.bind ?_ (fun _=>?_)
  |(split<;>try dsimp only)
  |with_reducible exact cQ.refl _
def t8:Option Bool:=
 (nN (⟨3,(Sl.mk [(⟨0,0,1,0,1,1⟩:bw),(⟨1,1,2,0,1,1⟩:bw),(⟨0,1,2,1,1,1⟩:bw)]),(Sl.mk [(⟨2,7⟩:fK)])⟩:ah) (Sl.mk [(Sl.mk [0]),(Sl.mk [1]),(Sl.mk [7])]) (Sl.mk [(Sl.mk [1]),(Sl.mk [1]),(Sl.mk [7])]) (⟨Sl.nil,Sl.nil,0,0,0,0⟩:bh)).bind fun r1=>
 (bif((r1.l.length:Int)==1)then((fw 0 r1.l.length).bind fun n2=>
 bif decide ((gt r1.l n2)=(⟨2,0,0⟩:aq))then((uD 6).bind fun r3=>
 bif(r3.toList==(⟨#[108,111,111,112]⟩:ByteArray).toList)then((nN (⟨0,Sl.nil,Sl.nil⟩:ah) Sl.nil Sl.nil (⟨Sl.nil,Sl.nil,0,0,0,0⟩:bh)).bind fun r4=>
 some ((r4.l.length:Int)==1))else
 (some false))else
 (some false))else
 (some false):Option Bool).bind fun b5=>
 some b5
theorem yO:cQ (t8) (j9):=by
 unfold t8 j9
 repeat' first
  |with_reducible apply yR
  |with_reducible refine cQ.cond ?_ ?_
  |with_reducible refine cQ.bind ?_ (fun _=>?_)
  |(split<;>try dsimp only)
  |with_reducible exact cQ.refl _
theorem lx:j9=some true:=yO _ (by decide+kernel)
end Go.Proofs.YthcplpfiidlinaaDoor.J
