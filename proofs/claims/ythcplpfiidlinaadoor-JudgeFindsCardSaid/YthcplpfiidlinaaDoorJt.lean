/- law25_awake answers true: by running its twin. Conditions: none. -/
import Derived.Test.YthcplpfiidlinaaDoorJ
import Derived.Test.YthcplpfiidlinaaDoorTwin
open Go.Ev Go
noncomputable section
namespace Go.Proofs.YthcplpfiidlinaaDoor.J
def qp(t_0:ah):Option (Sl bo):=
 (ie 100000 (ld t_0) (0,Sl.nil)).bind fun s8=>
 (ie 100000 (lc t_0) (0,s8)).bind fun s15=>
 some s15
theorem yg(t_0:ah):cU (qp t_0) (mK t_0):=by
 unfold qp mK
 repeat' first
  |with_reducible refine cU.loop (fun _=>?_) _ _
  |with_reducible refine cU.bind ?_ (fun _=>?_)
  |(split<;>try dsimp only)
  |with_reducible exact cU.refl _
def rp(t_0:ah):Option Bool:=
 bif((((decide ((ah.br t_0)<1))||(decide ((ah.br t_0)>8)))||(decide ((((ah.bW t_0).l).length:Int)>24)))||(decide ((((ah.bf t_0).l).length:Int)>8)))then(some false)else
 ((ie 100000 (lY t_0) 0).bind fun
 |.inl b4=>(some b4)
 |.inr _=>((qp t_0).bind fun r5=>
 (ie 100000 (iJ t_0 r5) (0,(Mp.none:Mp bo Int))).bind fun
 |.inl b13=>(some b13)
 |.inr _=>(some true)))
theorem z6(t_0:ah):cU (rp t_0) (nH t_0):=by
 unfold rp nH
 repeat' first
  |with_reducible apply yg
  |with_reducible refine cU.loop (fun _=>?_) _ _
  |with_reducible refine cU.cond ?_ ?_
  |with_reducible refine cU.bind ?_ (fun _=>?_)
  |(split<;>try dsimp only)
  |with_reducible exact cU.refl _
def eY(s_0:Sl Int):Option Int:=
 (ie 100000 (cL s_0) 0).bind fun
 |.inl i5=>(some i5)
 |.inr _=>(some (-1))
theorem kC(s_0:Sl Int):cU (eY s_0) (c9 s_0):=by
 unfold eY c9
 repeat' first
  |with_reducible refine cU.loop (fun _=>?_) _ _
  |with_reducible refine cU.bind ?_ (fun _=>?_)
  |(split<;>try dsimp only)
  |with_reducible exact cU.refl _
def eB(s_0:Sl Int):Option Bool:=
 (eY s_0).bind fun r1=>
 some (decide (r1>=0))
theorem jY(s_0:Sl Int):cU (eB s_0) (bV s_0):=by
 unfold eB bV
 repeat' first
  |with_reducible apply kC
  |with_reducible refine cU.bind ?_ (fun _=>?_)
  |(split<;>try dsimp only)
  |with_reducible exact cU.refl _
def nN(t_0:ah)(r_1:Sl (Sl Int)):Int->Option (Int⊕(Bool⊕Unit)):=fun i3=>
 bif decide (i3<(r_1.l.length:Int))then((fk i3 r_1.l.length).bind fun n4=>
 (bif((((gt r_1.l n4).l).length:Int) !=(((ah.bf t_0).l).length:Int))then(some true)else
 ((eB (gt r_1.l n4)).bind fun r5=>
 some r5):Option Bool).bind fun b6=>
 bif b6 then(some (.inr (.inl false)))else
 (some (.inl (wr .i64 (i3+1)))))else
 (some (.inr (.inr ())))
theorem vf(t_0:ah)(r_1:Sl (Sl Int)):∀s,cU (nN t_0 r_1 s) (j3 t_0 r_1 s):=by
 intro s;unfold nN j3
 repeat' first
  |with_reducible apply jY
  |with_reducible refine cU.cond ?_ ?_
  |with_reducible refine cU.bind ?_ (fun _=>?_)
  |(split<;>try dsimp only)
  |with_reducible exact cU.refl _
def l5(t_0:ah)(r_1:Sl (Sl Int)):Option Bool:=
 (rp t_0).bind fun r1=>
 bif((!r1)||((r_1.l.length:Int) !=(ah.br t_0)))then(some false)else
 ((ie 100000 (nN t_0 r_1) 0).bind fun
 |.inl b7=>(some b7)
 |.inr _=>(some true))
theorem pA(t_0:ah)(r_1:Sl (Sl Int)):cU (l5 t_0 r_1) (ju t_0 r_1):=by
 unfold l5 ju
 repeat' first
  |with_reducible apply z6
  |with_reducible apply vf
  |with_reducible refine cU.loop (fun _=>?_) _ _
  |with_reducible refine cU.cond ?_ ?_
  |with_reducible refine cU.bind ?_ (fun _=>?_)
  |(split<;>try dsimp only)
  |with_reducible exact cU.refl _
def km(s_0:Sl Int)(v_1:Int):Option Int:=
 (ie 100000 (gf s_0 v_1) 0).bind fun
 |.inl i4=>(some i4)
 |.inr _=>(some (-1))
theorem qL(s_0:Sl Int)(v_1:Int):cU (km s_0 v_1) (ia s_0 v_1):=by
 unfold km ia
 repeat' first
  |with_reducible refine cU.loop (fun _=>?_) _ _
  |with_reducible refine cU.bind ?_ (fun _=>?_)
  |(split<;>try dsimp only)
  |with_reducible exact cU.refl _
def fR(s_0:Sl Int)(v_1:Int):Option Bool:=
 (km s_0 v_1).bind fun r1=>
 some (decide (r1>=0))
theorem iU(s_0:Sl Int)(v_1:Int):cU (fR s_0 v_1) (cO s_0 v_1):=by
 unfold fR cO
 repeat' first
  |with_reducible apply qL
  |with_reducible refine cU.bind ?_ (fun _=>?_)
  |(split<;>try dsimp only)
  |with_reducible exact cU.refl _
def m6(l_0:Sl Int):Option Bool:=
 (bif decide ((l_0.l.length:Int)>0)then((qE l_0.l 0 (wr .i64 ((l_0.l.length:Int)-1))).bind fun l1=>
 (fk (wr .i64 ((l_0.l.length:Int)-1)) l_0.l.length).bind fun n2=>
 (fR (l_0.to l1) (gt l_0.l n2)).bind fun r3=>
 some r3)else
 (some false):Option Bool).bind fun b4=>
 some b4
theorem uK(l_0:Sl Int):cU (m6 l_0) (iu l_0):=by
 unfold m6 iu
 repeat' first
  |with_reducible apply iU
  |with_reducible refine cU.cond ?_ ?_
  |with_reducible refine cU.bind ?_ (fun _=>?_)
  |(split<;>try dsimp only)
  |with_reducible exact cU.refl _
def qc(t_0:ah)(sw_1:Int)(port_2:Int):Option (Int×Int×Int×Bool):=
 (ie 100000 (mY t_0 sw_1 port_2) 0).bind fun
 |.inl (i4,i5,i6,b7)=>(some (i4,i5,i6,b7))
 |.inr _=>(some (0,0,0,false))
theorem u_(t_0:ah)(sw_1:Int)(port_2:Int):cU (qc t_0 sw_1 port_2) (nI t_0 sw_1 port_2):=by
 unfold qc nI
 repeat' first
  |with_reducible refine cU.loop (fun _=>?_) _ _
  |with_reducible refine cU.bind ?_ (fun _=>?_)
  |(split<;>try dsimp only)
  |with_reducible exact cU.refl _
def rz(t_0:ah)(r_1:Sl (Sl Int))(sw_2:Int)(h_3:Int):Option (Int×Bool):=
 (mD r_1 sw_2 h_3).bind fun(r1,r2)=>
 bif(!r2)then(some (0,false))else
 ((qc t_0 sw_2 r1).bind fun(r3,r4,r5,r6)=>
 some (r3,r6))
theorem Ad(t_0:ah)(r_1:Sl (Sl Int))(sw_2:Int)(h_3:Int):cU (rz t_0 r_1 sw_2 h_3) (nO t_0 r_1 sw_2 h_3):=by
 unfold rz nO
 repeat' first
  |with_reducible apply u_
  |with_reducible refine cU.cond ?_ ?_
  |with_reducible refine cU.bind ?_ (fun _=>?_)
  |(split<;>try dsimp only)
  |with_reducible exact cU.refl _
def oL(t_0:ah)(r_1:Sl (Sl Int))(h_3:Int):(Sl Int)->Option (Sl Int⊕((Int×Sl Int)⊕Unit)):=fun s6=>
 (m6 s6).bind fun r7=>
 bif(!r7)then((fk (wr .i64 ((s6.l.length:Int)-1)) s6.l.length).bind fun n8=>
 (fk h_3 ((ah.bf t_0).l).length).bind fun n9=>
 (fk (gt s6.l n8) r_1.l.length).bind fun n10=>
 (fk h_3 ((gt r_1.l n10).l).length).bind fun n11=>
 bif decide ((gt ((ah.bf t_0).l) n9)=(⟨gt s6.l n8,gt ((gt r_1.l n10).l) n11⟩:fU))then(some (.inr (.inl (0,s6))))else
 ((rz t_0 r_1 (gt s6.l n8) h_3).bind fun(r12,r13)=>
 bif(!r13)then(some (.inr (.inl (13,Sl.nil))))else
 ((iI (s6.l++[r12])).bind fun l14=>
 some (.inl (Sl.mk l14)))))else
 (some (.inr (.inr ())))
theorem wj(t_0:ah)(r_1:Sl (Sl Int))(h_3:Int):∀s,cU (oL t_0 r_1 h_3 s) (er t_0 r_1 h_3 s):=by
 intro s;unfold oL er
 repeat' first
  |with_reducible apply uK
  |with_reducible apply Ad
  |with_reducible refine cU.cond ?_ ?_
  |with_reducible refine cU.bind ?_ (fun _=>?_)
  |(split<;>try dsimp only)
  |with_reducible exact cU.refl _
def ry(t_0:ah)(r_1:Sl (Sl Int))(sw_2:Int)(h_3:Int):Option (Sl Int×Int):=
 (mD r_1 sw_2 h_3).bind fun(r1,r2)=>
 (bif(!r2)then(some true)else
 ((l5 t_0 r_1).bind fun r3=>
 some (!r3)):Option Bool).bind fun b4=>
 bif b4 then(some (Sl.nil,2))else
 ((ie 100000 (oL t_0 r_1 h_3) (Sl.mk [sw_2])).bind fun
 |.inl (i15,s16)=>(some (s16,i15))
 |.inr _=>(some (Sl.nil,12)))
theorem Ac(t_0:ah)(r_1:Sl (Sl Int))(sw_2:Int)(h_3:Int):cU (ry t_0 r_1 sw_2 h_3) (jE t_0 r_1 sw_2 h_3):=by
 unfold ry jE
 repeat' first
  |with_reducible apply pA
  |with_reducible apply wj
  |with_reducible refine cU.loop (fun _=>?_) _ _
  |with_reducible refine cU.cond ?_ ?_
  |with_reducible refine cU.bind ?_ (fun _=>?_)
  |(split<;>try dsimp only)
  |with_reducible exact cU.refl _
def pB(t_0:ah)(r_1:Sl (Sl Int))(h_2:Int):(Int×Sl Int)->Option ((Int×Sl Int)⊕(Sl Int)):=fun(i5,s6)=>
 bif decide (i5<(r_1.l.length:Int))then((ry t_0 r_1 i5 h_2).bind fun(r7,r8)=>
 (iI (s6.l++[wr .i64 ((r7.l.length:Int)-1)])).bind fun l9=>
 some (.inl (wr .i64 (i5+1),(Sl.mk l9))))else
 (some (.inr s6))
theorem xy(t_0:ah)(r_1:Sl (Sl Int))(h_2:Int):∀s,cU (pB t_0 r_1 h_2 s) (gA t_0 r_1 h_2 s):=by
 intro s;unfold pB gA
 repeat' first
  |with_reducible apply Ac
  |with_reducible refine cU.cond ?_ ?_
  |with_reducible refine cU.bind ?_ (fun _=>?_)
  |(split<;>try dsimp only)
  |with_reducible exact cU.refl _
def sN(t_0:ah)(r_1:Sl (Sl Int))(h_2:Int):Option (Sl Int):=
 (l5 t_0 r_1).bind fun r1=>
 bif(((!r1)||(decide (h_2<0)))||(decide (h_2>=(((ah.bf t_0).l).length:Int))))then(some Sl.nil)else
 ((ie 100000 (pB t_0 r_1 h_2) (0,Sl.nil)).bind fun s10=>
 some s10)
theorem BV(t_0:ah)(r_1:Sl (Sl Int))(h_2:Int):cU (sN t_0 r_1 h_2) (lF t_0 r_1 h_2):=by
 unfold sN lF
 repeat' first
  |with_reducible apply pA
  |with_reducible apply xy
  |with_reducible refine cU.loop (fun _=>?_) _ _
  |with_reducible refine cU.cond ?_ ?_
  |with_reducible refine cU.bind ?_ (fun _=>?_)
  |(split<;>try dsimp only)
  |with_reducible exact cU.refl _
def oM(t_0:ah)(r_1:Sl (Sl Int)):Int->Option (Int⊕(Bool⊕Unit)):=fun i3=>
 bif decide (i3<(((ah.bf t_0).l).length:Int))then((sN t_0 r_1 i3).bind fun r4=>
 (fR r4 (-1)).bind fun r5=>
 bif r5 then(some (.inr (.inl false)))else
 (some (.inl (wr .i64 (i3+1)))))else
 (some (.inr (.inr ())))
theorem wl(t_0:ah)(r_1:Sl (Sl Int)):∀s,cU (oM t_0 r_1 s) (gZ t_0 r_1 s):=by
 intro s;unfold oM gZ
 repeat' first
  |with_reducible apply BV
  |with_reducible apply iU
  |with_reducible refine cU.cond ?_ ?_
  |with_reducible refine cU.bind ?_ (fun _=>?_)
  |(split<;>try dsimp only)
  |with_reducible exact cU.refl _
def pd(t_0:ah)(r_1:Sl (Sl Int)):Option Bool:=
 (l5 t_0 r_1).bind fun r1=>
 bif(!r1)then(some false)else
 ((ie 100000 (oM t_0 r_1) 0).bind fun
 |.inl b6=>(some b6)
 |.inr _=>(some true))
theorem Ae(t_0:ah)(r_1:Sl (Sl Int)):cU (pd t_0 r_1) (iv t_0 r_1):=by
 unfold pd iv
 repeat' first
  |with_reducible apply pA
  |with_reducible apply wl
  |with_reducible refine cU.loop (fun _=>?_) _ _
  |with_reducible refine cU.cond ?_ ?_
  |with_reducible refine cU.bind ?_ (fun _=>?_)
  |(split<;>try dsimp only)
  |with_reducible exact cU.refl _
def nf(r_0:aj)(m_1:ae):Option Bool:=
 (bif((ae.uv m_1)==(aj.No r_0))then((fR (aj.RW r_0) (ae.Sw m_1)).bind fun r1=>
 some r1)else
 (some false):Option Bool).bind fun b2=>
 some b2
theorem qy(r_0:aj)(m_1:ae):cU (nf r_0 m_1) (kr r_0 m_1):=by
 unfold nf kr
 repeat' first
  |with_reducible apply iU
  |with_reducible refine cU.cond ?_ ?_
  |with_reducible refine cU.bind ?_ (fun _=>?_)
  |(split<;>try dsimp only)
  |with_reducible exact cU.refl _
def kQ(r_0:aj)(c_1:ae):Option Bool:=
 (nf r_0 c_1).bind fun r1=>
 some r1
theorem rH(r_0:aj)(c_1:ae):cU (kQ r_0 c_1) (iB r_0 c_1):=by
 unfold kQ iB
 repeat' first
  |with_reducible apply qy
  |with_reducible refine cU.bind ?_ (fun _=>?_)
  |(split<;>try dsimp only)
  |with_reducible exact cU.refl _
def cC(s_0:Sl aj)(f_1_c0:ae):Int->Option (Int⊕(Int⊕Unit)):=fun i2=>
 bif decide (i2<(s_0.l.length:Int))then((fk i2 s_0.l.length).bind fun n3=>
 (kQ (gt s_0.l n3) f_1_c0).bind fun r4=>
 bif r4 then(some (.inr (.inl i2)))else
 (some (.inl (wr .i64 (i2+1)))))else
 (some (.inr (.inr ())))
theorem gu(s_0:Sl aj)(f_1_c0:ae):∀s,cU (cC s_0 f_1_c0 s) (bg s_0 f_1_c0 s):=by
 intro s;unfold cC bg
 repeat' first
  |with_reducible apply rH
  |with_reducible refine cU.cond ?_ ?_
  |with_reducible refine cU.bind ?_ (fun _=>?_)
  |(split<;>try dsimp only)
  |with_reducible exact cU.refl _
def cN(s_0:Sl aj)(f_1_c0:ae):Option Int:=
 (ie 100000 (cC s_0 f_1_c0) 0).bind fun
 |.inl i5=>(some i5)
 |.inr _=>(some (-1))
theorem gI(s_0:Sl aj)(f_1_c0:ae):cU (cN s_0 f_1_c0) (bD s_0 f_1_c0):=by
 unfold cN bD
 repeat' first
  |with_reducible apply gu
  |with_reducible refine cU.loop (fun _=>?_) _ _
  |with_reducible refine cU.bind ?_ (fun _=>?_)
  |(split<;>try dsimp only)
  |with_reducible exact cU.refl _
def cD(s_0:Sl aj)(f_1_c0:ae):Option Bool:=
 (cN s_0 f_1_c0).bind fun r1=>
 some (decide (r1>=0))
theorem gw(s_0:Sl aj)(f_1_c0:ae):cU (cD s_0 f_1_c0) (bt s_0 f_1_c0):=by
 unfold cD bt
 repeat' first
  |with_reducible apply gI
  |with_reducible refine cU.bind ?_ (fun _=>?_)
  |(split<;>try dsimp only)
  |with_reducible exact cU.refl _
def jR(x_0:bh)(m_1:ae):Option Bool:=
 (cD (aK.eN (bh.p x_0)) m_1).bind fun r1=>
 some r1
theorem oD(x_0:bh)(m_1:ae):cU (jR x_0 m_1) (fh x_0 m_1):=by
 unfold jR fh
 repeat' first
  |with_reducible apply gw
  |with_reducible refine cU.bind ?_ (fun _=>?_)
  |(split<;>try dsimp only)
  |with_reducible exact cU.refl _
def j_(i13:Int)(s47:Sl am)(i43:Int)(i45:Int)(i46:Int)(n48:Nat)(s16:Sl (Sl Int))(n24:Nat)(i37:Int)(x38:ah)(s39:Sl (Sl Int))(s40:Sl (Sl Int))(s41:Sl ae)(s42:Sl aj)(i44:Int):(Int×Int)->Option ((Int×Int)⊕Int):=fun(i51,i52)=>
 bif decide (i52<(s41.l.length:Int))then(((fk i52 s41.l.length).bind fun n53=>
 (bif((((ae.Sw (gt s41.l n53))==i13)&&((ae.mI (gt s41.l n53))==i37))&&((ae.oe (gt s41.l n53))==(gt ((gt s16.l n24).l) n48)))then((jR (⟨x38,s39,s40,(⟨s41,s42,i43,i44,i45,i46⟩:bK),s47⟩:bh) (gt s41.l n53)).bind fun r54=>
 some r54)else
 (some false):Option Bool).bind fun b55=>
 bif b55 then(some (wr .i64 (i51+1)))else
 (some i51):Option Int).bind fun i56=>
 some (.inl (i56,wr .i64 (i52+1))))else
 (some (.inr i51))
theorem qx(i13:Int)(s47:Sl am)(i43:Int)(i45:Int)(i46:Int)(n48:Nat)(s16:Sl (Sl Int))(n24:Nat)(i37:Int)(x38:ah)(s39:Sl (Sl Int))(s40:Sl (Sl Int))(s41:Sl ae)(s42:Sl aj)(i44:Int):∀s,cU (j_ i13 s47 i43 i45 i46 n48 s16 n24 i37 x38 s39 s40 s41 s42 i44 s) (d_ i13 s47 i43 i45 i46 n48 s16 n24 i37 x38 s39 s40 s41 s42 i44 s):=by
 intro s;unfold j_ d_
 repeat' first
  |with_reducible apply oD
  |with_reducible refine cU.cond ?_ ?_
  |with_reducible refine cU.bind ?_ (fun _=>?_)
  |(split<;>try dsimp only)
  |with_reducible exact cU.refl _
def j9(i13:Int)(s16:Sl (Sl Int))(n24:Nat):(Int×ah×Sl (Sl Int)×Sl (Sl Int)×Sl ae×Sl aj×Int×Int×Int×Int×Sl am)->Option ((Int×ah×Sl (Sl Int)×Sl (Sl Int)×Sl ae×Sl aj×Int×Int×Int×Int×Sl am)⊕(ah×Sl (Sl Int)×Sl (Sl Int)×Sl ae×Sl aj×Int×Int×Int×Int×Sl am)):=fun(i37,x38,s39,s40,s41,s42,i43,i44,i45,i46,s47)=>
 bif decide (i37<(((gt s16.l n24).l).length:Int))then((fk i37 ((gt s16.l n24).l).length).bind fun n48=>
 (ie 100000 (j_ i13 s47 i43 i45 i46 n48 s16 n24 i37 x38 s39 s40 s41 s42 i44) (0,0)).bind fun i57=>
 (fk i13 s39.l.length).bind fun n58=>
 (fk i37 ((gt s39.l n58).l).length).bind fun n59=>
 (bG x38 s39 s40 s41 s42 i43 i44 i45 i46 s47 (((gt ((gt s16.l n24).l) n48) !=(gt ((gt s39.l n58).l) n59))&&(i57 !=1)) 2 i13 i37).bind fun(q60,q61,q62,q63,q64,q65,q66,q67,q68,s69)=>
 some (.inl (wr .i64 (i37+1),q60,q61,q62,q63,q64,q65,q66,q67,q68,s69)))else
 (some (.inr (x38,s39,s40,s41,s42,i43,i44,i45,i46,s47)))
theorem qw(i13:Int)(s16:Sl (Sl Int))(n24:Nat):∀s,cU (j9 i13 s16 n24 s) (e_ i13 s16 n24 s):=by
 intro s;unfold j9 e_
 repeat' first
  |with_reducible apply qx
  |with_reducible refine cU.loop (fun _=>?_) _ _
  |with_reducible refine cU.cond ?_ ?_
  |with_reducible refine cU.bind ?_ (fun _=>?_)
  |(split<;>try dsimp only)
  |with_reducible exact cU.refl _
def j8(x_0_now:Sl (Sl Int)):(Int×ah×Sl (Sl Int)×Sl (Sl Int)×Sl ae×Sl aj×Int×Int×Int×Int×Sl am)->Option ((Int×ah×Sl (Sl Int)×Sl (Sl Int)×Sl ae×Sl aj×Int×Int×Int×Int×Sl am)⊕(ah×Sl (Sl Int)×Sl (Sl Int)×Sl ae×Sl aj×Int×Int×Int×Int×Sl am)):=fun(i13,x14,s15,s16,s17,s18,i19,i20,i21,i22,s23)=>
 bif decide (i13<(x_0_now.l.length:Int))then((fk i13 s16.l.length).bind fun n24=>
 (ie 100000 (j9 i13 s16 n24) (0,x14,s15,s16,s17,s18,i19,i20,i21,i22,s23)).bind fun(x70,s71,s72,s73,s74,i75,i76,i77,i78,s79)=>
 some (.inl (wr .i64 (i13+1),x70,s71,s72,s73,s74,i75,i76,i77,i78,s79)))else
 (some (.inr (x14,s15,s16,s17,s18,i19,i20,i21,i22,s23)))
theorem qv(x_0_now:Sl (Sl Int)):∀s,cU (j8 x_0_now s) (e9 x_0_now s):=by
 intro s;unfold j8 e9
 repeat' first
  |with_reducible apply qw
  |with_reducible refine cU.loop (fun _=>?_) _ _
  |with_reducible refine cU.cond ?_ ?_
  |with_reducible refine cU.bind ?_ (fun _=>?_)
  |(split<;>try dsimp only)
  |with_reducible exact cU.refl _
def j7(s83:Sl ae):(Int×ah×Sl (Sl Int)×Sl (Sl Int)×Sl ae×Sl aj×Int×Int×Int×Int×Sl am)->Option ((Int×ah×Sl (Sl Int)×Sl (Sl Int)×Sl ae×Sl aj×Int×Int×Int×Int×Sl am)⊕(ah×Sl (Sl Int)×Sl (Sl Int)×Sl ae×Sl aj×Int×Int×Int×Int×Sl am)):=fun(i102,x103,s104,s105,s106,s107,i108,i109,i110,i111,s112)=>
 bif decide (i102<(s83.l.length:Int))then((fk i102 s83.l.length).bind fun n113=>
 ((fE (⟨x103,s104,s105,(⟨s106,s107,i108,i109,i110,i111⟩:bK),s112⟩:bh) (gt s83.l n113)).bind fun r114=>
 bif(!r114)then((bG x103 s104 s105 s106 s107 i108 i109 i110 i111 s112 true 3 i102 (ae.mI (gt s83.l n113))).bind fun(q115,q116,q117,q118,q119,q120,q121,q122,q123,s124)=>
 some (q115,q116,q117,q118,q119,q120,q121,q122,q123,s124))else
 ((fk (ae.Sw (gt s83.l n113)) s105.l.length).bind fun n125=>
 (fk (ae.mI (gt s83.l n113)) ((gt s105.l n125).l).length).bind fun n126=>
 bif((gt ((gt s105.l n125).l) n126) !=(ae.oe (gt s83.l n113)))then((bG x103 s104 s105 s106 s107 i108 i109 i110 i111 s112 true 3 i102 (ae.mI (gt s83.l n113))).bind fun(q127,q128,q129,q130,q131,q132,q133,q134,q135,s136)=>
 some (q127,q128,q129,q130,q131,q132,q133,q134,q135,s136))else
 ((fk (ae.Sw (gt s83.l n113)) s104.l.length).bind fun n137=>
 (fk (ae.mI (gt s83.l n113)) ((gt s104.l n137).l).length).bind fun n138=>
 bif((gt ((gt s104.l n137).l) n138)==(ae.oe (gt s83.l n113)))then((bG x103 s104 s105 s106 s107 i108 i109 i110 i111 s112 true 3 i102 (ae.mI (gt s83.l n113))).bind fun(q139,q140,q141,q142,q143,q144,q145,q146,q147,s148)=>
 some (q139,q140,q141,q142,q143,q144,q145,q146,q147,s148))else
 ((jR (⟨x103,s104,s105,(⟨s106,s107,i108,i109,i110,i111⟩:bK),s112⟩:bh) (gt s83.l n113)).bind fun r149=>
 (bG x103 s104 s105 s106 s107 i108 i109 i110 i111 s112 (!r149) 3 i102 (ae.mI (gt s83.l n113))).bind fun(q150,q151,q152,q153,q154,q155,q156,q157,q158,s159)=>
 some (q150,q151,q152,q153,q154,q155,q156,q157,q158,s159)))):Option (ah×Sl (Sl Int)×Sl (Sl Int)×Sl ae×Sl aj×Int×Int×Int×Int×Sl am)).bind fun(x160,s161,s162,s163,s164,i165,i166,i167,i168,s169)=>
 some (.inl (wr .i64 (i102+1),x160,s161,s162,s163,s164,i165,i166,i167,i168,s169)))else
 (some (.inr (x103,s104,s105,s106,s107,i108,i109,i110,i111,s112)))
theorem qu(s83:Sl ae):∀s,cU (j7 s83 s) (eZ s83 s):=by
 intro s;unfold j7 eZ
 repeat' first
  |with_reducible apply oD
  |with_reducible refine cU.cond ?_ ?_
  |with_reducible refine cU.bind ?_ (fun _=>?_)
  |(split<;>try dsimp only)
  |with_reducible exact cU.refl _
def lj(x_0_t:ah)(x_0_old:Sl (Sl Int))(x_0_now:Sl (Sl Int))(x_0_p_Moves:Sl ae)(x_0_p_Rounds:Sl aj)(x_0_p_Miss:Int)(x_0_p_Life:Int)(x_0_p_From:Int)(x_0_p_To:Int)(x_0_out:Sl am):Option (ah×Sl (Sl Int)×Sl (Sl Int)×Sl ae×Sl aj×Int×Int×Int×Int×Sl am):=
 (ie 100000 (j8 x_0_now) (0,x_0_t,x_0_old,x_0_now,x_0_p_Moves,x_0_p_Rounds,x_0_p_Miss,x_0_p_Life,x_0_p_From,x_0_p_To,x_0_out)).bind fun(x80,s81,s82,s83,s84,i85,i86,i87,i88,s89)=>
 (ie 100000 (j7 s83) (0,x80,s81,s82,s83,s84,i85,i86,i87,i88,s89)).bind fun(x170,s171,s172,s173,s174,i175,i176,i177,i178,s179)=>
 some (x170,s171,s172,s173,s174,i175,i176,i177,i178,s179)
theorem su(x_0_t:ah)(x_0_old:Sl (Sl Int))(x_0_now:Sl (Sl Int))(x_0_p_Moves:Sl ae)(x_0_p_Rounds:Sl aj)(x_0_p_Miss:Int)(x_0_p_Life:Int)(x_0_p_From:Int)(x_0_p_To:Int)(x_0_out:Sl am):cU (lj x_0_t x_0_old x_0_now x_0_p_Moves x_0_p_Rounds x_0_p_Miss x_0_p_Life x_0_p_From x_0_p_To x_0_out) (gb x_0_t x_0_old x_0_now x_0_p_Moves x_0_p_Rounds x_0_p_Miss x_0_p_Life x_0_p_From x_0_p_To x_0_out):=by
 unfold lj gb
 repeat' first
  |with_reducible apply qv
  |with_reducible apply qu
  |with_reducible refine cU.loop (fun _=>?_) _ _
  |with_reducible refine cU.bind ?_ (fun _=>?_)
  |(split<;>try dsimp only)
  |with_reducible exact cU.refl _
def px(t_0:ah):Option Int:=
 (ie 100000 (jp t_0) (0,0)).bind fun i6=>
 some i6
theorem xw(t_0:ah):cU (px t_0) (lE t_0):=by
 unfold px lE
 repeat' first
  |with_reducible refine cU.loop (fun _=>?_) _ _
  |with_reducible refine cU.bind ?_ (fun _=>?_)
  |(split<;>try dsimp only)
  |with_reducible exact cU.refl _
def sO(t_0:ah):Option Int:=
 (px t_0).bind fun r1=>
 some (wr .i64 ((ah.br t_0)*r1))
theorem BZ(t_0:ah):cU (sO t_0) (nQ t_0):=by
 unfold sO nQ
 repeat' first
  |with_reducible apply xw
  |with_reducible refine cU.bind ?_ (fun _=>?_)
  |(split<;>try dsimp only)
  |with_reducible exact cU.refl _
def uM(t_0:ah)(miss_1:Int):Option Int:=
 (sO t_0).bind fun r1=>
 some (wr .i64 ((wr .i64 ((wr .i64 (2*miss_1))+r1))+1))
theorem Dq(t_0:ah)(miss_1:Int):cU (uM t_0 miss_1) (ow t_0 miss_1):=by
 unfold uM ow
 repeat' first
  |with_reducible apply BZ
  |with_reducible refine cU.bind ?_ (fun _=>?_)
  |(split<;>try dsimp only)
  |with_reducible exact cU.refl _
def li(x_0_t:ah)(x_0_old:Sl (Sl Int))(x_0_now:Sl (Sl Int))(x_0_p_Moves:Sl ae)(x_0_p_Rounds:Sl aj)(x_0_p_Miss:Int)(x_0_p_Life:Int)(x_0_p_From:Int)(x_0_p_To:Int)(x_0_out:Sl am):Option (ah×Sl (Sl Int)×Sl (Sl Int)×Sl ae×Sl aj×Int×Int×Int×Int×Sl am):=
 (uM x_0_t (if 1048576<(if 0>x_0_p_Miss then 0 else x_0_p_Miss)then 1048576 else(if 0>x_0_p_Miss then 0 else x_0_p_Miss))).bind fun r1=>
 (ie 100000 (dZ r1) (1,x_0_t,x_0_old,x_0_now,x_0_p_Moves,x_0_p_Rounds,x_0_p_Miss,x_0_p_Life,x_0_p_From,x_0_p_To,x_0_out)).bind fun(x39,s40,s41,s42,s43,i44,i45,i46,i47,s48)=>
 some (x39,s40,s41,s42,s43,i44,i45,i46,i47,s48)
theorem ss(x_0_t:ah)(x_0_old:Sl (Sl Int))(x_0_now:Sl (Sl Int))(x_0_p_Moves:Sl ae)(x_0_p_Rounds:Sl aj)(x_0_p_Miss:Int)(x_0_p_Life:Int)(x_0_p_From:Int)(x_0_p_To:Int)(x_0_out:Sl am):cU (li x_0_t x_0_old x_0_now x_0_p_Moves x_0_p_Rounds x_0_p_Miss x_0_p_Life x_0_p_From x_0_p_To x_0_out) (ga x_0_t x_0_old x_0_now x_0_p_Moves x_0_p_Rounds x_0_p_Miss x_0_p_Life x_0_p_From x_0_p_To x_0_out):=by
 unfold li ga
 repeat' first
  |with_reducible apply Dq
  |with_reducible refine cU.loop (fun _=>?_) _ _
  |with_reducible refine cU.bind ?_ (fun _=>?_)
  |(split<;>try dsimp only)
  |with_reducible exact cU.refl _
def qz(n_0:Int)(l_1:Sl aQ):Option Bool:=
 bif((decide (n_0<0))||(decide (n_0>16)))then(some false)else
 ((ie 100000 (kc n_0 l_1) 0).bind fun
 |.inl b4=>(some b4)
 |.inr _=>(some true))
theorem zi(n_0:Int)(l_1:Sl aQ):cU (qz n_0 l_1) (lk n_0 l_1):=by
 unfold qz lk
 repeat' first
  |with_reducible refine cU.loop (fun _=>?_) _ _
  |with_reducible refine cU.cond ?_ ?_
  |with_reducible refine cU.bind ?_ (fun _=>?_)
  |(split<;>try dsimp only)
  |with_reducible exact cU.refl _
def oQ(l_1:Sl aQ):(Int×Sl Int)->Option ((Int×Sl Int)⊕(Sl Int)):=fun(i5,s6)=>
 bif decide (i5<(l_1.l.length:Int))then((fk i5 l_1.l.length).bind fun n7=>
 (fk (aQ.pT (gt l_1.l n7)) s6.l.length).bind fun n8=>
 (yp .u16 1 (aQ.To (gt l_1.l n7))).bind fun i9=>
 (fk (aQ.pT (gt l_1.l n7)) s6.l.length).bind fun n10=>
 some (.inl (wr .i64 (i5+1),(Sl.mk (s6.l.set n10 (O3 .u16 (gt s6.l n8) i9))))))else
 (some (.inr s6))
theorem wC(l_1:Sl aQ):∀s,cU (oQ l_1 s) (kJ l_1 s):=by
 intro s;unfold oQ kJ;rw[Cw]
 repeat' first
  |with_reducible refine cU.cond ?_ ?_
  |with_reducible refine cU.bind ?_ (fun _=>?_)
  |(split<;>try dsimp only)
  |with_reducible exact cU.refl _
def rK(n_0:Int)(l_1:Sl aQ):Option (Sl Int):=
 (zV 0 n_0 n_0).bind fun l1=>
 (ie 100000 (oQ l_1) (0,(Sl.mk l1))).bind fun s11=>
 some s11
theorem Ap(n_0:Int)(l_1:Sl aQ):cU (rK n_0 l_1) (nW n_0 l_1):=by
 unfold rK nW
 repeat' first
  |with_reducible apply wC
  |with_reducible refine cU.loop (fun _=>?_) _ _
  |with_reducible refine cU.bind ?_ (fun _=>?_)
  |(split<;>try dsimp only)
  |with_reducible exact cU.refl _
def gq(x_0:Int):Option Int:=
 bif(x_0==0)then(some 16)else
 ((fk (J2 .u32 (wr .u32 ((wr .u32 (HZ .u16 x_0 (wr .u16 (0-x_0))))*125613361)) 27) 32).bind fun n1=>
 some (wr .i64 (gt Ii.1 n1)))
theorem kD(x_0:Int):cU (gq x_0) (dJ x_0):=by
 unfold gq dJ;rw[xX]
 repeat' first
  |with_reducible refine cU.cond ?_ ?_
  |with_reducible refine cU.bind ?_ (fun _=>?_)
  |(split<;>try dsimp only)
  |with_reducible exact cU.refl _
def oR:(Int×Sl Int)->Option ((Int×Sl Int)⊕(Sl Int)):=fun(i4,s5)=>
 bif(i4 !=0)then((gq i4).bind fun r6=>
 (iI (s5.l++[r6])).bind fun l7=>
 some (.inl (HZ .u16 i4 (wr .u16 (i4-1)),(Sl.mk l7))))else
 (some (.inr s5))
theorem wD:∀s,cU (oR s) (kK s):=by
 intro s;unfold oR kK;rw[xX]
 repeat' first
  |with_reducible apply kD
  |with_reducible refine cU.cond ?_ ?_
  |with_reducible refine cU.bind ?_ (fun _=>?_)
  |(split<;>try dsimp only)
  |with_reducible exact cU.refl _
def rL(set_0:Int):Option (Sl Int):=
 (ie 100000 (oR) (set_0,Sl.nil)).bind fun s8=>
 some s8
theorem Aq(set_0:Int):cU (rL set_0) (nX set_0):=by
 unfold rL nX
 repeat' first
  |with_reducible apply wD
  |with_reducible refine cU.loop (fun _=>?_) _ _
  |with_reducible refine cU.bind ?_ (fun _=>?_)
  |(split<;>try dsimp only)
  |with_reducible exact cU.refl _
def oP(to_0:Sl Int)(r1:Sl Int):(Int×Int)->Option ((Int×Int)⊕Int):=fun(i4,i5)=>
 bif decide (i5<(r1.l.length:Int))then((fk i5 r1.l.length).bind fun n6=>
 (fk (gt r1.l n6) to_0.l.length).bind fun n7=>
 some (.inl (O3 .u16 i4 (gt to_0.l n7),wr .i64 (i5+1))))else
 (some (.inr i4))
theorem wB(to_0:Sl Int)(r1:Sl Int):∀s,cU (oP to_0 r1 s) (kI to_0 r1 s):=by
 intro s;unfold oP kI;rw[Cw]
 repeat' first
  |with_reducible refine cU.cond ?_ ?_
  |with_reducible refine cU.bind ?_ (fun _=>?_)
  |(split<;>try dsimp only)
  |with_reducible exact cU.refl _
def rJ(to_0:Sl Int)(set_1:Int):Option Int:=
 (rL set_1).bind fun r1=>
 (ie 100000 (oP to_0 r1) (0,0)).bind fun i8=>
 some i8
theorem Ao(to_0:Sl Int)(set_1:Int):cU (rJ to_0 set_1) (nV to_0 set_1):=by
 unfold rJ nV
 repeat' first
  |with_reducible apply Aq
  |with_reducible apply wB
  |with_reducible refine cU.loop (fun _=>?_) _ _
  |with_reducible refine cU.bind ?_ (fun _=>?_)
  |(split<;>try dsimp only)
  |with_reducible exact cU.refl _
def nY(r2:Sl Int):(Int×Sl Int)->Option ((Int×Sl Int)⊕(Bool⊕(Sl Int))):=fun(i7,s8)=>
 bif(i7 !=0)then((rJ r2 i7).bind fun r9=>
 bif((tw .u16 i7 r9)==0)then(some (.inr (.inl false)))else
 ((gq (tw .u16 i7 r9)).bind fun r10=>
 (iI (s8.l++[r10])).bind fun l11=>
 (yp .u16 1 r10).bind fun i12=>
 some (.inl (tw .u16 i7 i12,(Sl.mk l11)))))else
 (some (.inr (.inr s8)))
theorem vG(r2:Sl Int):∀s,cU (nY r2 s) (iX r2 s):=by
 intro s;unfold nY iX;rw[uY]
 repeat' first
  |with_reducible apply Ao
  |with_reducible apply kD
  |with_reducible refine cU.cond ?_ ?_
  |with_reducible refine cU.bind ?_ (fun _=>?_)
  |(split<;>try dsimp only)
  |with_reducible exact cU.refl _
def qA(n_0:Int)(l_1:Sl aQ):Option (Sl Int×Bool):=
 (qz n_0 l_1).bind fun r1=>
 bif(!r1)then(some (Sl.nil,false))else
 ((rK n_0 l_1).bind fun r2=>
 (yp .u16 1 n_0).bind fun i3=>
 (ie 100000 (nY r2) (wr .u16 (i3-1),Sl.nil)).bind fun
 |.inl b13=>(some (Sl.nil,b13))
 |.inr s14=>(some (s14,true)))
theorem zj(n_0:Int)(l_1:Sl aQ):cU (qA n_0 l_1) (iL n_0 l_1):=by
 unfold qA iL
 repeat' first
  |with_reducible apply zi
  |with_reducible apply Ap
  |with_reducible apply vG
  |with_reducible refine cU.loop (fun _=>?_) _ _
  |with_reducible refine cU.cond ?_ ?_
  |with_reducible refine cU.bind ?_ (fun _=>?_)
  |(split<;>try dsimp only)
  |with_reducible exact cU.refl _
def kq(x_0_t:ah)(ports_1:Sl (Sl Int))(h_3:Int)(i7:Int)(n9:Nat):(Bool×Int×Sl aQ)->Option ((Bool×Int×Sl aQ)⊕(Bool×Sl aQ)):=fun(b13,i14,s15)=>
 bif decide (i14<(((gt ports_1.l n9).l).length:Int))then(((fk i14 ((gt ports_1.l n9).l).length).bind fun n16=>
 (qc x_0_t i7 (gt ((gt ports_1.l n9).l) n16)).bind fun(r17,r18,r19,r20)=>
 bif r20 then((iI (s15.l++[(⟨i7,r17⟩:aQ)])).bind fun l21=>
 some (b13,(Sl.mk l21)))else
 ((fk h_3 ((ah.bf x_0_t).l).length).bind fun n22=>
 bif(!(decide ((gt ((ah.bf x_0_t).l) n22)=(⟨i7,gt ((gt ports_1.l n9).l) n16⟩:fU))))then(some (true,s15))else
 (some (b13,s15))):Option (Bool×Sl aQ)).bind fun(b23,s24)=>
 some (.inl (b23,wr .i64 (i14+1),s24)))else
 (some (.inr (b13,s15)))
theorem qS(x_0_t:ah)(ports_1:Sl (Sl Int))(h_3:Int)(i7:Int)(n9:Nat):∀s,cU (kq x_0_t ports_1 h_3 i7 n9 s) (eE x_0_t ports_1 h_3 i7 n9 s):=by
 intro s;unfold kq eE
 repeat' first
  |with_reducible apply u_
  |with_reducible refine cU.cond ?_ ?_
  |with_reducible refine cU.bind ?_ (fun _=>?_)
  |(split<;>try dsimp only)
  |with_reducible exact cU.refl _
def kp(x_0_t:ah)(ports_1:Sl (Sl Int))(h_3:Int):(Bool×Int×Sl aQ)->Option ((Bool×Int×Sl aQ)⊕(Bool×Sl aQ)):=fun(b6,i7,s8)=>
 bif decide (i7<(ports_1.l.length:Int))then((fk i7 ports_1.l.length).bind fun n9=>
 (ie 100000 (kq x_0_t ports_1 h_3 i7 n9) (b6,0,s8)).bind fun(b25,s26)=>
 some (.inl (b25,wr .i64 (i7+1),s26)))else
 (some (.inr (b6,s8)))
theorem qR(x_0_t:ah)(ports_1:Sl (Sl Int))(h_3:Int):∀s,cU (kp x_0_t ports_1 h_3 s) (fA x_0_t ports_1 h_3 s):=by
 intro s;unfold kp fA
 repeat' first
  |with_reducible apply qS
  |with_reducible refine cU.loop (fun _=>?_) _ _
  |with_reducible refine cU.cond ?_ ?_
  |with_reducible refine cU.bind ?_ (fun _=>?_)
  |(split<;>try dsimp only)
  |with_reducible exact cU.refl _
def lT(x_0_t:ah)(x_0_old:Sl (Sl Int))(x_0_now:Sl (Sl Int))(x_0_p_Moves:Sl ae)(x_0_p_Rounds:Sl aj)(x_0_p_Miss:Int)(x_0_p_Life:Int)(x_0_p_From:Int)(x_0_p_To:Int)(x_0_out:Sl am)(ports_1:Sl (Sl Int))(k_2:Int)(h_3:Int):Option (ah×Sl (Sl Int)×Sl (Sl Int)×Sl ae×Sl aj×Int×Int×Int×Int×Sl am):=
 (ie 100000 (kp x_0_t ports_1 h_3) (false,0,Sl.nil)).bind fun(b27,s28)=>
 (qA (ah.br x_0_t) s28).bind fun(r29,r30)=>
 (bG x_0_t x_0_old x_0_now x_0_p_Moves x_0_p_Rounds x_0_p_Miss x_0_p_Life x_0_p_From x_0_p_To x_0_out b27 5 k_2 h_3).bind fun(q31,q32,q33,q34,q35,q36,q37,q38,q39,s40)=>
 (bG q31 q32 q33 q34 q35 q36 q37 q38 q39 s40 (!r30) 6 k_2 h_3).bind fun(q41,q42,q43,q44,q45,q46,q47,q48,q49,s50)=>
 some (q41,q42,q43,q44,q45,q46,q47,q48,q49,s50)
theorem sZ(x_0_t:ah)(x_0_old:Sl (Sl Int))(x_0_now:Sl (Sl Int))(x_0_p_Moves:Sl ae)(x_0_p_Rounds:Sl aj)(x_0_p_Miss:Int)(x_0_p_Life:Int)(x_0_p_From:Int)(x_0_p_To:Int)(x_0_out:Sl am)(ports_1:Sl (Sl Int))(k_2:Int)(h_3:Int):cU (lT x_0_t x_0_old x_0_now x_0_p_Moves x_0_p_Rounds x_0_p_Miss x_0_p_Life x_0_p_From x_0_p_To x_0_out ports_1 k_2 h_3) (ij x_0_t x_0_old x_0_now x_0_p_Moves x_0_p_Rounds x_0_p_Miss x_0_p_Life x_0_p_From x_0_p_To x_0_out ports_1 k_2 h_3):=by
 unfold lT ij
 repeat' first
  |with_reducible apply qR
  |with_reducible apply zj
  |with_reducible refine cU.loop (fun _=>?_) _ _
  |with_reducible refine cU.bind ?_ (fun _=>?_)
  |(split<;>try dsimp only)
  |with_reducible exact cU.refl _
def jK(x_0_p_Rounds:Sl aj)(n36:Nat)(s52:Sl (Sl Int))(s53:Sl (Sl Int))(s61:Sl am)(s55:Sl aj)(s54:Sl ae)(i50:Int)(x51:ah)(i56:Int)(i57:Int)(i58:Int)(i59:Int):(Int×Sl (Sl Int))->Option ((Int×Sl (Sl Int))⊕(Sl (Sl Int))):=fun(i78,s79)=>
 bif decide (i78<(s54.l.length:Int))then(((fk i78 s54.l.length).bind fun n80=>
 (bif((ae.mI (gt s54.l n80))==i50)then((fE (⟨x51,s52,s53,(⟨s54,s55,i56,i57,i58,i59⟩:bK),s61⟩:bh) (gt s54.l n80)).bind fun r81=>
 bif r81 then((nf (gt x_0_p_Rounds.l n36) (gt s54.l n80)).bind fun r82=>
 some r82)else
 (some false))else
 (some false):Option Bool).bind fun b83=>
 bif b83 then((fk (ae.Sw (gt s54.l n80)) s79.l.length).bind fun n84=>
 (iI (((gt s79.l n84).l)++[ae.oe (gt s54.l n80)])).bind fun l85=>
 (fk (ae.Sw (gt s54.l n80)) s79.l.length).bind fun n86=>
 bif Nat.beq n84 n86 then(some (Sl.mk (s79.l.set n86 (Sl.mk l85))))else(none))else
 (some s79):Option (Sl (Sl Int))).bind fun s87=>
 some (.inl (wr .i64 (i78+1),s87)))else
 (some (.inr s79))
theorem pX(x_0_p_Rounds:Sl aj)(n36:Nat)(s52:Sl (Sl Int))(s53:Sl (Sl Int))(s61:Sl am)(s55:Sl aj)(s54:Sl ae)(i50:Int)(x51:ah)(i56:Int)(i57:Int)(i58:Int)(i59:Int):∀s,cU (jK x_0_p_Rounds n36 s52 s53 s61 s55 s54 i50 x51 i56 i57 i58 i59 s) (eK x_0_p_Rounds n36 s52 s53 s61 s55 s54 i50 x51 i56 i57 i58 i59 s):=by
 intro s;unfold jK eK
 repeat' first
  |with_reducible apply qy
  |with_reducible refine cU.cond ?_ ?_
  |with_reducible refine cU.bind ?_ (fun _=>?_)
  |(split<;>try dsimp only)
  |with_reducible exact cU.refl _
def jJ(x_0_p_Rounds:Sl aj)(n36:Nat)(i24:Int)(x25:ah):(Int×ah×Sl (Sl Int)×Sl (Sl Int)×Sl ae×Sl aj×Int×Int×Int×Int×Sl (Sl Int)×Sl am)->Option ((Int×ah×Sl (Sl Int)×Sl (Sl Int)×Sl ae×Sl aj×Int×Int×Int×Int×Sl (Sl Int)×Sl am)⊕(ah×Sl (Sl Int)×Sl (Sl Int)×Sl ae×Sl aj×Int×Int×Int×Int×Sl (Sl Int)×Sl am)):=fun(i50,x51,s52,s53,s54,s55,i56,i57,i58,i59,s60,s61)=>
 bif decide (i50<(((ah.bf x25).l).length:Int))then((zV (Sl.nil:Sl Int) (s60.l.length:Int) (s60.l.length:Int)).bind fun l62=>
 (ie 100000 (fG i50 s60) (0,s60,(Sl.mk l62))).bind fun(s73,s74)=>
 (ie 100000 (jK x_0_p_Rounds n36 s52 s53 s61 s55 s54 i50 x51 i56 i57 i58 i59) (0,s74)).bind fun s88=>
 (lT x51 s52 s53 s54 s55 i56 i57 i58 i59 s61 s88 i24 i50).bind fun(q89,q90,q91,q92,q93,q94,q95,q96,q97,s98)=>
 some (.inl (wr .i64 (i50+1),q89,q90,q91,q92,q93,q94,q95,q96,q97,s73,s98)))else
 (some (.inr (x51,s52,s53,s54,s55,i56,i57,i58,i59,s60,s61)))
theorem pW(x_0_p_Rounds:Sl aj)(n36:Nat)(i24:Int)(x25:ah):∀s,cU (jJ x_0_p_Rounds n36 i24 x25 s) (eJ x_0_p_Rounds n36 i24 x25 s):=by
 intro s;unfold jJ eJ
 repeat' first
  |with_reducible apply pX
  |with_reducible apply sZ
  |with_reducible refine cU.loop (fun _=>?_) _ _
  |with_reducible refine cU.cond ?_ ?_
  |with_reducible refine cU.bind ?_ (fun _=>?_)
  |(split<;>try dsimp only)
  |with_reducible exact cU.refl _
def jI(x_0_p_Rounds:Sl aj)(n36:Nat)(s100:Sl (Sl Int))(s102:Sl ae)(s109:Sl am)(x99:ah)(s101:Sl (Sl Int))(s103:Sl aj)(i104:Int)(i105:Int)(i106:Int)(i107:Int):(Int×Sl (Sl Int))->Option ((Int×Sl (Sl Int))⊕(Sl (Sl Int))):=fun(i113,s114)=>
 bif decide (i113<(s102.l.length:Int))then(((fk i113 s102.l.length).bind fun n115=>
 ((fE (⟨x99,s100,s101,(⟨s102,s103,i104,i105,i106,i107⟩:bK),s109⟩:bh) (gt s102.l n115)).bind fun r116=>
 bif r116 then((nf (gt x_0_p_Rounds.l n36) (gt s102.l n115)).bind fun r117=>
 some r117)else
 (some false):Option Bool).bind fun b118=>
 bif b118 then((fk (ae.Sw (gt s102.l n115)) s114.l.length).bind fun n119=>
 (fk (ae.mI (gt s102.l n115)) ((gt s114.l n119).l).length).bind fun n120=>
 some (Sl.mk (s114.l.set n119 (Sl.mk (((gt s114.l n119).l).set n120 (ae.oe (gt s102.l n115)))))))else
 (some s114):Option (Sl (Sl Int))).bind fun s121=>
 some (.inl (wr .i64 (i113+1),s121)))else
 (some (.inr s114))
theorem pV(x_0_p_Rounds:Sl aj)(n36:Nat)(s100:Sl (Sl Int))(s102:Sl ae)(s109:Sl am)(x99:ah)(s101:Sl (Sl Int))(s103:Sl aj)(i104:Int)(i105:Int)(i106:Int)(i107:Int):∀s,cU (jI x_0_p_Rounds n36 s100 s102 s109 x99 s101 s103 i104 i105 i106 i107 s) (eI x_0_p_Rounds n36 s100 s102 s109 x99 s101 s103 i104 i105 i106 i107 s):=by
 intro s;unfold jI eI
 repeat' first
  |with_reducible apply qy
  |with_reducible refine cU.cond ?_ ?_
  |with_reducible refine cU.bind ?_ (fun _=>?_)
  |(split<;>try dsimp only)
  |with_reducible exact cU.refl _
def jH(x_0_p_Rounds:Sl aj):(Int×ah×Sl (Sl Int)×Sl (Sl Int)×Sl ae×Sl aj×Int×Int×Int×Int×Sl (Sl Int)×Sl am)->Option ((Int×ah×Sl (Sl Int)×Sl (Sl Int)×Sl ae×Sl aj×Int×Int×Int×Int×Sl (Sl Int)×Sl am)⊕(ah×Sl (Sl Int)×Sl (Sl Int)×Sl ae×Sl aj×Int×Int×Int×Int×Sl am)):=fun(i24,x25,s26,s27,s28,s29,i30,i31,i32,i33,s34,s35)=>
 bif decide (i24<(x_0_p_Rounds.l.length:Int))then((fk i24 x_0_p_Rounds.l.length).bind fun n36=>
 (ie 100000 (jJ x_0_p_Rounds n36 i24 x25) (0,x25,s26,s27,s28,s29,i30,i31,i32,i33,s34,s35)).bind fun(x99,s100,s101,s102,s103,i104,i105,i106,i107,s108,s109)=>
 (ie 100000 (jI x_0_p_Rounds n36 s100 s102 s109 x99 s101 s103 i104 i105 i106 i107) (0,s108)).bind fun s122=>
 some (.inl (wr .i64 (i24+1),x99,s100,s101,s102,s103,i104,i105,i106,i107,s122,s109)))else
 (some (.inr (x25,s26,s27,s28,s29,i30,i31,i32,i33,s35)))
theorem pU(x_0_p_Rounds:Sl aj):∀s,cU (jH x_0_p_Rounds s) (eH x_0_p_Rounds s):=by
 intro s;unfold jH eH
 repeat' first
  |with_reducible apply pW
  |with_reducible apply pV
  |with_reducible refine cU.loop (fun _=>?_) _ _
  |with_reducible refine cU.cond ?_ ?_
  |with_reducible refine cU.bind ?_ (fun _=>?_)
  |(split<;>try dsimp only)
  |with_reducible exact cU.refl _
def kP(x_0_t:ah)(x_0_old:Sl (Sl Int))(x_0_now:Sl (Sl Int))(x_0_p_Moves:Sl ae)(x_0_p_Rounds:Sl aj)(x_0_p_Miss:Int)(x_0_p_Life:Int)(x_0_p_From:Int)(x_0_p_To:Int)(x_0_out:Sl am):Option (ah×Sl (Sl Int)×Sl (Sl Int)×Sl ae×Sl aj×Int×Int×Int×Int×Sl am):=
 (zV (Sl.nil:Sl Int) (x_0_old.l.length:Int) (x_0_old.l.length:Int)).bind fun l1=>
 (ie 100000 (fH x_0_old) (0,(Sl.mk l1))).bind fun s10=>
 (ie 100000 (jH x_0_p_Rounds) (0,x_0_t,x_0_old,x_0_now,x_0_p_Moves,x_0_p_Rounds,x_0_p_Miss,x_0_p_Life,x_0_p_From,x_0_p_To,s10,x_0_out)).bind fun(x123,s124,s125,s126,s127,i128,i129,i130,i131,s132)=>
 some (x123,s124,s125,s126,s127,i128,i129,i130,i131,s132)
theorem rG(x_0_t:ah)(x_0_old:Sl (Sl Int))(x_0_now:Sl (Sl Int))(x_0_p_Moves:Sl ae)(x_0_p_Rounds:Sl aj)(x_0_p_Miss:Int)(x_0_p_Life:Int)(x_0_p_From:Int)(x_0_p_To:Int)(x_0_out:Sl am):cU (kP x_0_t x_0_old x_0_now x_0_p_Moves x_0_p_Rounds x_0_p_Miss x_0_p_Life x_0_p_From x_0_p_To x_0_out) (gH x_0_t x_0_old x_0_now x_0_p_Moves x_0_p_Rounds x_0_p_Miss x_0_p_Life x_0_p_From x_0_p_To x_0_out):=by
 unfold kP gH
 repeat' first
  |with_reducible apply pU
  |with_reducible refine cU.loop (fun _=>?_) _ _
  |with_reducible refine cU.bind ?_ (fun _=>?_)
  |(split<;>try dsimp only)
  |with_reducible exact cU.refl _
def og(t_0:ah)(old_1:Sl (Sl Int))(now_2:Sl (Sl Int))(p_3:aK):Option (Sl am):=
 ((pd t_0 old_1).bind fun r1=>
 bif(!r1)then(some true)else
 ((pd t_0 now_2).bind fun r2=>
 some (!r2)):Option Bool).bind fun b3=>
 bif b3 then(some (Sl.mk [(⟨1,0,0⟩:am)]))else
 ((lj t_0 old_1 now_2 (aK.i_ p_3) (aK.eN p_3) (aK.AD p_3) (aK.G1 p_3) (aK.pT p_3) (aK.To p_3) Sl.nil).bind fun(q4,q5,q6,q7,q8,q9,q10,q11,q12,s13)=>
 (li q4 q5 q6 q7 q8 q9 q10 q11 q12 s13).bind fun(q14,q15,q16,q17,q18,q19,q20,q21,q22,s23)=>
 (kP q14 q15 q16 q17 q18 q19 q20 q21 q22 s23).bind fun(q24,q25,q26,q27,q28,q29,q30,q31,q32,s33)=>
 some s33)
theorem zd(t_0:ah)(old_1:Sl (Sl Int))(now_2:Sl (Sl Int))(p_3:aK):cU (og t_0 old_1 now_2 p_3) (fB t_0 old_1 now_2 p_3):=by
 unfold og fB
 repeat' first
  |with_reducible apply Ae
  |with_reducible apply su
  |with_reducible apply ss
  |with_reducible apply rG
  |with_reducible refine cU.cond ?_ ?_
  |with_reducible refine cU.bind ?_ (fun _=>?_)
  |(split<;>try dsimp only)
  |with_reducible exact cU.refl _
def uk:Option Bool:=
 (og (⟨3,(Sl.mk [(⟨0,0,1,0,1,1⟩:bz),(⟨1,1,2,0,1,1⟩:bz),(⟨0,1,2,1,1,1⟩:bz)]),(Sl.mk [(⟨2,7⟩:fU)])⟩:ah) (Sl.mk [(Sl.mk [0]),(Sl.mk [1]),(Sl.mk [7])]) (Sl.mk [(Sl.mk [1]),(Sl.mk [1]),(Sl.mk [7])]) (⟨Sl.nil,Sl.nil,0,0,0,0⟩:aK)).bind fun r1=>
 (bif((r1.l.length:Int)==1)then((fk 0 r1.l.length).bind fun n2=>
 bif decide ((gt r1.l n2)=(⟨2,0,0⟩:am))then((uR 6).bind fun r3=>
 bif(r3.toList==(⟨#[108,111,111,112]⟩:ByteArray).toList)then((og (⟨0,Sl.nil,Sl.nil⟩:ah) Sl.nil Sl.nil (⟨Sl.nil,Sl.nil,0,0,0,0⟩:aK)).bind fun r4=>
 some ((r4.l.length:Int)==1))else
 (some false))else
 (some false))else
 (some false):Option Bool).bind fun b5=>
 some b5
theorem y_:cU (uk) (gL):=by
 unfold uk gL
 repeat' first
  |with_reducible apply zd
  |with_reducible refine cU.cond ?_ ?_
  |with_reducible refine cU.bind ?_ (fun _=>?_)
  |(split<;>try dsimp only)
  |with_reducible exact cU.refl _
theorem dN:gL=some true:=y_ _ (by decide+kernel)
end Go.Proofs.YthcplpfiidlinaaDoor.J
