/- kF answers true: by running its twin. Conditions: none. -/
import Derived.Test.YthcplpfiidlinaaDoorJ
import Derived.Test.YthcplpfiidlinaaDoorTwin
open Go.Ev Go
noncomputable section
namespace Go.Proofs.YthcplpfiidlinaaDoor.J
def pH(t_0:ah):Option (Sl bo):=
 (gK 100000 (kC t_0) (0,Sl.nil)).bind fun s8=>
 (gK 100000 (kA t_0) (0,s8)).bind fun s15=>
 some s15
theorem wT(t_0:ah):cC (pH t_0) (lK t_0):=by
 unfold pH lK
 repeat' first
  |with_reducible refine cC.loop (fun _=>?_) _ _
  |with_reducible refine cC.bind ?_ (fun _=>?_)
  |(split<;>try dsimp only)
  |with_reducible exact cC.refl _
def qy(t_0:ah):Option Bool:=
 bif((((decide ((ah.bh t_0)<1))||(decide ((ah.bh t_0)>8)))||(decide ((((ah.bT t_0).l).length:Int)>24)))||(decide ((((ah.a_ t_0).l).length:Int)>8)))then(some false)else
 ((gK 100000 (lg t_0) 0).bind fun
 |.inl b4=>(some b4)
 |.inr _=>((pH t_0).bind fun r5=>
 (gK 100000 (ia t_0 r5) (0,(Mp.none:Mp bo Int))).bind fun
 |.inl b13=>(some b13)
 |.inr _=>(some true)))
theorem yE(t_0:ah):cC (qy t_0) (mG t_0):=by
 unfold qy mG
 repeat' first
  |with_reducible apply wT
  |with_reducible refine cC.loop (fun _=>?_) _ _
  |with_reducible refine cC.cond ?_ ?_
  |with_reducible refine cC.bind ?_ (fun _=>?_)
  |(split<;>try dsimp only)
  |with_reducible exact cC.refl _
def eM(s_0:Sl Int):Option Int:=
 (gK 100000 (ct s_0) 0).bind fun
 |.inl i5=>(some i5)
 |.inr _=>(some (-1))
theorem jZ(s_0:Sl Int):cC (eM s_0) (cH s_0):=by
 unfold eM cH
 repeat' first
  |with_reducible refine cC.loop (fun _=>?_) _ _
  |with_reducible refine cC.bind ?_ (fun _=>?_)
  |(split<;>try dsimp only)
  |with_reducible exact cC.refl _
def dT(s_0:Sl Int):Option Bool:=
 (eM s_0).bind fun r1=>
 some (decide (r1>=0))
theorem jx(s_0:Sl Int):cC (dT s_0) (bS s_0):=by
 unfold dT bS
 repeat' first
  |with_reducible apply jZ
  |with_reducible refine cC.bind ?_ (fun _=>?_)
  |(split<;>try dsimp only)
  |with_reducible exact cC.refl _
def mK(t_0:ah)(r_1:Sl (Sl Int)):Int->Option (Int⊕(Bool⊕Unit)):=fun i3=>
 bif decide (i3<(r_1.l.length:Int))then((e_ i3 r_1.l.length).bind fun n4=>
 (bif((((gt r_1.l n4).l).length:Int) !=(((ah.a_ t_0).l).length:Int))then(some true)else
 ((dT (gt r_1.l n4)).bind fun r5=>
 some r5):Option Bool).bind fun b6=>
 bif b6 then(some (.inr (.inl false)))else
 (some (.inl (wr .i64 (i3+1)))))else
 (some (.inr (.inr ())))
theorem uc(t_0:ah)(r_1:Sl (Sl Int)):∀s,cC (mK t_0 r_1 s) (jz t_0 r_1 s):=by
 intro s;unfold mK jz
 repeat' first
  |with_reducible apply jx
  |with_reducible refine cC.cond ?_ ?_
  |with_reducible refine cC.bind ?_ (fun _=>?_)
  |(split<;>try dsimp only)
  |with_reducible exact cC.refl _
def lh(t_0:ah)(r_1:Sl (Sl Int)):Option Bool:=
 (qy t_0).bind fun r1=>
 bif((!r1)||((r_1.l.length:Int) !=(ah.bh t_0)))then(some false)else
 ((gK 100000 (mK t_0 r_1) 0).bind fun
 |.inl b7=>(some b7)
 |.inr _=>(some true))
theorem oK(t_0:ah)(r_1:Sl (Sl Int)):cC (lh t_0 r_1) (iV t_0 r_1):=by
 unfold lh iV
 repeat' first
  |with_reducible apply yE
  |with_reducible apply uc
  |with_reducible refine cC.loop (fun _=>?_) _ _
  |with_reducible refine cC.cond ?_ ?_
  |with_reducible refine cC.bind ?_ (fun _=>?_)
  |(split<;>try dsimp only)
  |with_reducible exact cC.refl _
def jN(s_0:Sl Int)(v_1:Int):Option Int:=
 (gK 100000 (fM s_0 v_1) 0).bind fun
 |.inl i4=>(some i4)
 |.inr _=>(some (-1))
theorem p6(s_0:Sl Int)(v_1:Int):cC (jN s_0 v_1) (gI s_0 v_1):=by
 unfold jN gI
 repeat' first
  |with_reducible refine cC.loop (fun _=>?_) _ _
  |with_reducible refine cC.bind ?_ (fun _=>?_)
  |(split<;>try dsimp only)
  |with_reducible exact cC.refl _
def fB(s_0:Sl Int)(v_1:Int):Option Bool:=
 (jN s_0 v_1).bind fun r1=>
 some (decide (r1>=0))
theorem iA(s_0:Sl Int)(v_1:Int):cC (fB s_0 v_1) (cL s_0 v_1):=by
 unfold fB cL
 repeat' first
  |with_reducible apply p6
  |with_reducible refine cC.bind ?_ (fun _=>?_)
  |(split<;>try dsimp only)
  |with_reducible exact cC.refl _
def l5(l_0:Sl Int):Option Bool:=
 (bif decide ((l_0.l.length:Int)>0)then((sO l_0.l 0 (wr .i64 ((l_0.l.length:Int)-1))).bind fun l1=>
 (e_ (wr .i64 ((l_0.l.length:Int)-1)) l_0.l.length).bind fun n2=>
 (fB (l_0.to l1) (gt l_0.l n2)).bind fun r3=>
 some r3)else
 (some false):Option Bool).bind fun b4=>
 some b4
theorem tG(l_0:Sl Int):cC (l5 l_0) (gU l_0):=by
 unfold l5 gU
 repeat' first
  |with_reducible apply iA
  |with_reducible refine cC.cond ?_ ?_
  |with_reducible refine cC.bind ?_ (fun _=>?_)
  |(split<;>try dsimp only)
  |with_reducible exact cC.refl _
def pp(t_0:ah)(sw_1:Int)(port_2:Int):Option (Int×Int×Int×Bool):=
 (gK 100000 (lY t_0 sw_1 port_2) 0).bind fun
 |.inl (i4,i5,i6,b7)=>(some (i4,i5,i6,b7))
 |.inr _=>(some (0,0,0,false))
theorem t9(t_0:ah)(sw_1:Int)(port_2:Int):cC (pp t_0 sw_1 port_2) (mH t_0 sw_1 port_2):=by
 unfold pp mH
 repeat' first
  |with_reducible refine cC.loop (fun _=>?_) _ _
  |with_reducible refine cC.bind ?_ (fun _=>?_)
  |(split<;>try dsimp only)
  |with_reducible exact cC.refl _
def qC(t_0:ah)(r_1:Sl (Sl Int))(sw_2:Int)(h_3:Int):Option (Int×Bool):=
 (lE r_1 sw_2 h_3).bind fun(r1,r2)=>
 bif(!r2)then(some (0,false))else
 ((pp t_0 sw_2 r1).bind fun(r3,r4,r5,r6)=>
 some (r3,r6))
theorem yJ(t_0:ah)(r_1:Sl (Sl Int))(sw_2:Int)(h_3:Int):cC (qC t_0 r_1 sw_2 h_3) (mL t_0 r_1 sw_2 h_3):=by
 unfold qC mL
 repeat' first
  |with_reducible apply t9
  |with_reducible refine cC.cond ?_ ?_
  |with_reducible refine cC.bind ?_ (fun _=>?_)
  |(split<;>try dsimp only)
  |with_reducible exact cC.refl _
def nE(t_0:ah)(r_1:Sl (Sl Int))(h_3:Int):(Sl Int)->Option (Sl Int⊕((Int×Sl Int)⊕Unit)):=fun s6=>
 (l5 s6).bind fun r7=>
 bif(!r7)then((e_ (wr .i64 ((s6.l.length:Int)-1)) s6.l.length).bind fun n8=>
 (e_ h_3 ((ah.a_ t_0).l).length).bind fun n9=>
 (e_ (gt s6.l n8) r_1.l.length).bind fun n10=>
 (e_ h_3 ((gt r_1.l n10).l).length).bind fun n11=>
 bif decide ((gt ((ah.a_ t_0).l) n9)=(⟨gt s6.l n8,gt ((gt r_1.l n10).l) n11⟩:fH))then(some (.inr (.inl (0,s6))))else
 ((qC t_0 r_1 (gt s6.l n8) h_3).bind fun(r12,r13)=>
 bif(!r13)then(some (.inr (.inl (13,Sl.nil))))else
 ((h_ (s6.l++[r12])).bind fun l14=>
 some (.inl (Sl.mk l14)))))else
 (some (.inr (.inr ())))
theorem vc(t_0:ah)(r_1:Sl (Sl Int))(h_3:Int):∀s,cC (nE t_0 r_1 h_3 s) (dQ t_0 r_1 h_3 s):=by
 intro s;unfold nE dQ
 repeat' first
  |with_reducible apply tG
  |with_reducible apply yJ
  |with_reducible refine cC.cond ?_ ?_
  |with_reducible refine cC.bind ?_ (fun _=>?_)
  |(split<;>try dsimp only)
  |with_reducible exact cC.refl _
def qB(t_0:ah)(r_1:Sl (Sl Int))(sw_2:Int)(h_3:Int):Option (Sl Int×Int):=
 (lE r_1 sw_2 h_3).bind fun(r1,r2)=>
 (bif(!r2)then(some true)else
 ((lh t_0 r_1).bind fun r3=>
 some (!r3)):Option Bool).bind fun b4=>
 bif b4 then(some (Sl.nil,2))else
 ((gK 100000 (nE t_0 r_1 h_3) (Sl.mk [sw_2])).bind fun
 |.inl (i15,s16)=>(some (s16,i15))
 |.inr _=>(some (Sl.nil,12)))
theorem yI(t_0:ah)(r_1:Sl (Sl Int))(sw_2:Int)(h_3:Int):cC (qB t_0 r_1 sw_2 h_3) (jc t_0 r_1 sw_2 h_3):=by
 unfold qB jc
 repeat' first
  |with_reducible apply oK
  |with_reducible apply vc
  |with_reducible refine cC.loop (fun _=>?_) _ _
  |with_reducible refine cC.cond ?_ ?_
  |with_reducible refine cC.bind ?_ (fun _=>?_)
  |(split<;>try dsimp only)
  |with_reducible exact cC.refl _
def oL(t_0:ah)(r_1:Sl (Sl Int))(h_2:Int):(Int×Sl Int)->Option ((Int×Sl Int)⊕(Sl Int)):=fun(i5,s6)=>
 bif decide (i5<(r_1.l.length:Int))then((qB t_0 r_1 i5 h_2).bind fun(r7,r8)=>
 (h_ (s6.l++[wr .i64 ((r7.l.length:Int)-1)])).bind fun l9=>
 some (.inl (wr .i64 (i5+1),(Sl.mk l9))))else
 (some (.inr s6))
theorem wi(t_0:ah)(r_1:Sl (Sl Int))(h_2:Int):∀s,cC (oL t_0 r_1 h_2 s) (fW t_0 r_1 h_2 s):=by
 intro s;unfold oL fW
 repeat' first
  |with_reducible apply yI
  |with_reducible refine cC.cond ?_ ?_
  |with_reducible refine cC.bind ?_ (fun _=>?_)
  |(split<;>try dsimp only)
  |with_reducible exact cC.refl _
def rD(t_0:ah)(r_1:Sl (Sl Int))(h_2:Int):Option (Sl Int):=
 (lh t_0 r_1).bind fun r1=>
 bif(((!r1)||(decide (h_2<0)))||(decide (h_2>=(((ah.a_ t_0).l).length:Int))))then(some Sl.nil)else
 ((gK 100000 (oL t_0 r_1 h_2) (0,Sl.nil)).bind fun s10=>
 some s10)
theorem Aq(t_0:ah)(r_1:Sl (Sl Int))(h_2:Int):cC (rD t_0 r_1 h_2) (lN t_0 r_1 h_2):=by
 unfold rD lN
 repeat' first
  |with_reducible apply oK
  |with_reducible apply wi
  |with_reducible refine cC.loop (fun _=>?_) _ _
  |with_reducible refine cC.cond ?_ ?_
  |with_reducible refine cC.bind ?_ (fun _=>?_)
  |(split<;>try dsimp only)
  |with_reducible exact cC.refl _
def nF(t_0:ah)(r_1:Sl (Sl Int)):Int->Option (Int⊕(Bool⊕Unit)):=fun i3=>
 bif decide (i3<(((ah.a_ t_0).l).length:Int))then((rD t_0 r_1 i3).bind fun r4=>
 (fB r4 (-1)).bind fun r5=>
 bif r5 then(some (.inr (.inl false)))else
 (some (.inl (wr .i64 (i3+1)))))else
 (some (.inr (.inr ())))
theorem vd(t_0:ah)(r_1:Sl (Sl Int)):∀s,cC (nF t_0 r_1 s) (gD t_0 r_1 s):=by
 intro s;unfold nF gD
 repeat' first
  |with_reducible apply Aq
  |with_reducible apply iA
  |with_reducible refine cC.cond ?_ ?_
  |with_reducible refine cC.bind ?_ (fun _=>?_)
  |(split<;>try dsimp only)
  |with_reducible exact cC.refl _
def od(t_0:ah)(r_1:Sl (Sl Int)):Option Bool:=
 (lh t_0 r_1).bind fun r1=>
 bif(!r1)then(some false)else
 ((gK 100000 (nF t_0 r_1) 0).bind fun
 |.inl b6=>(some b6)
 |.inr _=>(some true))
theorem yK(t_0:ah)(r_1:Sl (Sl Int)):cC (od t_0 r_1) (iC t_0 r_1):=by
 unfold od iC
 repeat' first
  |with_reducible apply oK
  |with_reducible apply vd
  |with_reducible refine cC.loop (fun _=>?_) _ _
  |with_reducible refine cC.cond ?_ ?_
  |with_reducible refine cC.bind ?_ (fun _=>?_)
  |(split<;>try dsimp only)
  |with_reducible exact cC.refl _
def ma(r_0:aj)(m_1:af):Option Bool:=
 (bif((af.yt m_1)==(aj.No r_0))then((fB (aj.MS r_0) (af.Sw m_1)).bind fun r1=>
 some r1)else
 (some false):Option Bool).bind fun b2=>
 some b2
theorem pQ(r_0:aj)(m_1:af):cC (ma r_0 m_1) (jS r_0 m_1):=by
 unfold ma jS
 repeat' first
  |with_reducible apply iA
  |with_reducible refine cC.cond ?_ ?_
  |with_reducible refine cC.bind ?_ (fun _=>?_)
  |(split<;>try dsimp only)
  |with_reducible exact cC.refl _
def ki(r_0:aj)(c_1:af):Option Bool:=
 (ma r_0 c_1).bind fun r1=>
 some r1
theorem qP(r_0:aj)(c_1:af):cC (ki r_0 c_1) (gX r_0 c_1):=by
 unfold ki gX
 repeat' first
  |with_reducible apply pQ
  |with_reducible refine cC.bind ?_ (fun _=>?_)
  |(split<;>try dsimp only)
  |with_reducible exact cC.refl _
def cj(s_0:Sl aj)(f_1_c0:af):Int->Option (Int⊕(Int⊕Unit)):=fun i2=>
 bif decide (i2<(s_0.l.length:Int))then((e_ i2 s_0.l.length).bind fun n3=>
 (ki (gt s_0.l n3) f_1_c0).bind fun r4=>
 bif r4 then(some (.inr (.inl i2)))else
 (some (.inl (wr .i64 (i2+1)))))else
 (some (.inr (.inr ())))
theorem fS(s_0:Sl aj)(f_1_c0:af):∀s,cC (cj s_0 f_1_c0 s) (bf s_0 f_1_c0 s):=by
 intro s;unfold cj bf
 repeat' first
  |with_reducible apply qP
  |with_reducible refine cC.cond ?_ ?_
  |with_reducible refine cC.bind ?_ (fun _=>?_)
  |(split<;>try dsimp only)
  |with_reducible exact cC.refl _
def cz(s_0:Sl aj)(f_1_c0:af):Option Int:=
 (gK 100000 (cj s_0 f_1_c0) 0).bind fun
 |.inl i5=>(some i5)
 |.inr _=>(some (-1))
theorem gj(s_0:Sl aj)(f_1_c0:af):cC (cz s_0 f_1_c0) (bC s_0 f_1_c0):=by
 unfold cz bC
 repeat' first
  |with_reducible apply fS
  |with_reducible refine cC.loop (fun _=>?_) _ _
  |with_reducible refine cC.bind ?_ (fun _=>?_)
  |(split<;>try dsimp only)
  |with_reducible exact cC.refl _
def ck(s_0:Sl aj)(f_1_c0:af):Option Bool:=
 (cz s_0 f_1_c0).bind fun r1=>
 some (decide (r1>=0))
theorem fT(s_0:Sl aj)(f_1_c0:af):cC (ck s_0 f_1_c0) (bt s_0 f_1_c0):=by
 unfold ck bt
 repeat' first
  |with_reducible apply gj
  |with_reducible refine cC.bind ?_ (fun _=>?_)
  |(split<;>try dsimp only)
  |with_reducible exact cC.refl _
def jr(x_0:bw)(m_1:af):Option Bool:=
 (ck (bn.bc (bw.p x_0)) m_1).bind fun r1=>
 some r1
theorem nv(x_0:bw)(m_1:af):cC (jr x_0 m_1) (eT x_0 m_1):=by
 unfold jr eT
 repeat' first
  |with_reducible apply fT
  |with_reducible refine cC.bind ?_ (fun _=>?_)
  |(split<;>try dsimp only)
  |with_reducible exact cC.refl _
def jF(i13:Int)(s47:Sl ap)(i43:Int)(i45:Int)(i46:Int)(n48:Nat)(s16:Sl (Sl Int))(n24:Nat)(i37:Int)(x38:ah)(s39:Sl (Sl Int))(s40:Sl (Sl Int))(s41:Sl af)(s42:Sl aj)(i44:Int):(Int×Int)->Option ((Int×Int)⊕Int):=fun(i51,i52)=>
 bif decide (i52<(s41.l.length:Int))then(((e_ i52 s41.l.length).bind fun n53=>
 (bif((((af.Sw (gt s41.l n53))==i13)&&((af.mr (gt s41.l n53))==i37))&&((af.mq (gt s41.l n53))==(gt ((gt s16.l n24).l) n48)))then((jr (⟨x38,s39,s40,(⟨s41,s42,i43,i44,i45,i46⟩:aE),s47⟩:bw) (gt s41.l n53)).bind fun r54=>
 some r54)else
 (some false):Option Bool).bind fun b55=>
 bif b55 then(some (wr .i64 (i51+1)))else
 (some i51):Option Int).bind fun i56=>
 some (.inl (i56,wr .i64 (i52+1))))else
 (some (.inr i51))
theorem pP(i13:Int)(s47:Sl ap)(i43:Int)(i45:Int)(i46:Int)(n48:Nat)(s16:Sl (Sl Int))(n24:Nat)(i37:Int)(x38:ah)(s39:Sl (Sl Int))(s40:Sl (Sl Int))(s41:Sl af)(s42:Sl aj)(i44:Int):∀s,cC (jF i13 s47 i43 i45 i46 n48 s16 n24 i37 x38 s39 s40 s41 s42 i44 s) (dG i13 s47 i43 i45 i46 n48 s16 n24 i37 x38 s39 s40 s41 s42 i44 s):=by
 intro s;unfold jF dG
 repeat' first
  |with_reducible apply nv
  |with_reducible refine cC.cond ?_ ?_
  |with_reducible refine cC.bind ?_ (fun _=>?_)
  |(split<;>try dsimp only)
  |with_reducible exact cC.refl _
def jE(i13:Int)(s16:Sl (Sl Int))(n24:Nat):(Int×ah×Sl (Sl Int)×Sl (Sl Int)×Sl af×Sl aj×Int×Int×Int×Int×Sl ap)->Option ((Int×ah×Sl (Sl Int)×Sl (Sl Int)×Sl af×Sl aj×Int×Int×Int×Int×Sl ap)⊕(ah×Sl (Sl Int)×Sl (Sl Int)×Sl af×Sl aj×Int×Int×Int×Int×Sl ap)):=fun(i37,x38,s39,s40,s41,s42,i43,i44,i45,i46,s47)=>
 bif decide (i37<(((gt s16.l n24).l).length:Int))then((e_ i37 ((gt s16.l n24).l).length).bind fun n48=>
 (gK 100000 (jF i13 s47 i43 i45 i46 n48 s16 n24 i37 x38 s39 s40 s41 s42 i44) (0,0)).bind fun i57=>
 (e_ i13 s39.l.length).bind fun n58=>
 (e_ i37 ((gt s39.l n58).l).length).bind fun n59=>
 (bG x38 s39 s40 s41 s42 i43 i44 i45 i46 s47 (((gt ((gt s16.l n24).l) n48) !=(gt ((gt s39.l n58).l) n59))&&(i57 !=1)) 2 i13 i37).bind fun(q60,q61,q62,q63,q64,q65,q66,q67,q68,s69)=>
 some (.inl (wr .i64 (i37+1),q60,q61,q62,q63,q64,q65,q66,q67,q68,s69)))else
 (some (.inr (x38,s39,s40,s41,s42,i43,i44,i45,i46,s47)))
theorem pO(i13:Int)(s16:Sl (Sl Int))(n24:Nat):∀s,cC (jE i13 s16 n24 s) (eP i13 s16 n24 s):=by
 intro s;unfold jE eP
 repeat' first
  |with_reducible apply pP
  |with_reducible refine cC.loop (fun _=>?_) _ _
  |with_reducible refine cC.cond ?_ ?_
  |with_reducible refine cC.bind ?_ (fun _=>?_)
  |(split<;>try dsimp only)
  |with_reducible exact cC.refl _
def jD(x_0_now:Sl (Sl Int)):(Int×ah×Sl (Sl Int)×Sl (Sl Int)×Sl af×Sl aj×Int×Int×Int×Int×Sl ap)->Option ((Int×ah×Sl (Sl Int)×Sl (Sl Int)×Sl af×Sl aj×Int×Int×Int×Int×Sl ap)⊕(ah×Sl (Sl Int)×Sl (Sl Int)×Sl af×Sl aj×Int×Int×Int×Int×Sl ap)):=fun(i13,x14,s15,s16,s17,s18,i19,i20,i21,i22,s23)=>
 bif decide (i13<(x_0_now.l.length:Int))then((e_ i13 s16.l.length).bind fun n24=>
 (gK 100000 (jE i13 s16 n24) (0,x14,s15,s16,s17,s18,i19,i20,i21,i22,s23)).bind fun(x70,s71,s72,s73,s74,i75,i76,i77,i78,s79)=>
 some (.inl (wr .i64 (i13+1),x70,s71,s72,s73,s74,i75,i76,i77,i78,s79)))else
 (some (.inr (x14,s15,s16,s17,s18,i19,i20,i21,i22,s23)))
theorem pN(x_0_now:Sl (Sl Int)):∀s,cC (jD x_0_now s) (eO x_0_now s):=by
 intro s;unfold jD eO
 repeat' first
  |with_reducible apply pO
  |with_reducible refine cC.loop (fun _=>?_) _ _
  |with_reducible refine cC.cond ?_ ?_
  |with_reducible refine cC.bind ?_ (fun _=>?_)
  |(split<;>try dsimp only)
  |with_reducible exact cC.refl _
def jC(s83:Sl af):(Int×ah×Sl (Sl Int)×Sl (Sl Int)×Sl af×Sl aj×Int×Int×Int×Int×Sl ap)->Option ((Int×ah×Sl (Sl Int)×Sl (Sl Int)×Sl af×Sl aj×Int×Int×Int×Int×Sl ap)⊕(ah×Sl (Sl Int)×Sl (Sl Int)×Sl af×Sl aj×Int×Int×Int×Int×Sl ap)):=fun(i102,x103,s104,s105,s106,s107,i108,i109,i110,i111,s112)=>
 bif decide (i102<(s83.l.length:Int))then((e_ i102 s83.l.length).bind fun n113=>
 ((fh (⟨x103,s104,s105,(⟨s106,s107,i108,i109,i110,i111⟩:aE),s112⟩:bw) (gt s83.l n113)).bind fun r114=>
 bif(!r114)then((bG x103 s104 s105 s106 s107 i108 i109 i110 i111 s112 true 3 i102 (af.mr (gt s83.l n113))).bind fun(q115,q116,q117,q118,q119,q120,q121,q122,q123,s124)=>
 some (q115,q116,q117,q118,q119,q120,q121,q122,q123,s124))else
 ((e_ (af.Sw (gt s83.l n113)) s105.l.length).bind fun n125=>
 (e_ (af.mr (gt s83.l n113)) ((gt s105.l n125).l).length).bind fun n126=>
 bif((gt ((gt s105.l n125).l) n126) !=(af.mq (gt s83.l n113)))then((bG x103 s104 s105 s106 s107 i108 i109 i110 i111 s112 true 3 i102 (af.mr (gt s83.l n113))).bind fun(q127,q128,q129,q130,q131,q132,q133,q134,q135,s136)=>
 some (q127,q128,q129,q130,q131,q132,q133,q134,q135,s136))else
 ((e_ (af.Sw (gt s83.l n113)) s104.l.length).bind fun n137=>
 (e_ (af.mr (gt s83.l n113)) ((gt s104.l n137).l).length).bind fun n138=>
 bif((gt ((gt s104.l n137).l) n138)==(af.mq (gt s83.l n113)))then((bG x103 s104 s105 s106 s107 i108 i109 i110 i111 s112 true 3 i102 (af.mr (gt s83.l n113))).bind fun(q139,q140,q141,q142,q143,q144,q145,q146,q147,s148)=>
 some (q139,q140,q141,q142,q143,q144,q145,q146,q147,s148))else
 ((jr (⟨x103,s104,s105,(⟨s106,s107,i108,i109,i110,i111⟩:aE),s112⟩:bw) (gt s83.l n113)).bind fun r149=>
 (bG x103 s104 s105 s106 s107 i108 i109 i110 i111 s112 (!r149) 3 i102 (af.mr (gt s83.l n113))).bind fun(q150,q151,q152,q153,q154,q155,q156,q157,q158,s159)=>
 some (q150,q151,q152,q153,q154,q155,q156,q157,q158,s159)))):Option (ah×Sl (Sl Int)×Sl (Sl Int)×Sl af×Sl aj×Int×Int×Int×Int×Sl ap)).bind fun(x160,s161,s162,s163,s164,i165,i166,i167,i168,s169)=>
 some (.inl (wr .i64 (i102+1),x160,s161,s162,s163,s164,i165,i166,i167,i168,s169)))else
 (some (.inr (x103,s104,s105,s106,s107,i108,i109,i110,i111,s112)))
theorem pM(s83:Sl af):∀s,cC (jC s83 s) (eN s83 s):=by
 intro s;unfold jC eN
 repeat' first
  |with_reducible apply nv
  |with_reducible refine cC.cond ?_ ?_
  |with_reducible refine cC.bind ?_ (fun _=>?_)
  |(split<;>try dsimp only)
  |with_reducible exact cC.refl _
def kH(x_0_t:ah)(x_0_old:Sl (Sl Int))(x_0_now:Sl (Sl Int))(x_0_p_Moves:Sl af)(x_0_p_Rounds:Sl aj)(x_0_p_Miss:Int)(x_0_p_Life:Int)(x_0_p_From:Int)(x_0_p_To:Int)(x_0_out:Sl ap):Option (ah×Sl (Sl Int)×Sl (Sl Int)×Sl af×Sl aj×Int×Int×Int×Int×Sl ap):=
 (gK 100000 (jD x_0_now) (0,x_0_t,x_0_old,x_0_now,x_0_p_Moves,x_0_p_Rounds,x_0_p_Miss,x_0_p_Life,x_0_p_From,x_0_p_To,x_0_out)).bind fun(x80,s81,s82,s83,s84,i85,i86,i87,i88,s89)=>
 (gK 100000 (jC s83) (0,x80,s81,s82,s83,s84,i85,i86,i87,i88,s89)).bind fun(x170,s171,s172,s173,s174,i175,i176,i177,i178,s179)=>
 some (x170,s171,s172,s173,s174,i175,i176,i177,i178,s179)
theorem rm(x_0_t:ah)(x_0_old:Sl (Sl Int))(x_0_now:Sl (Sl Int))(x_0_p_Moves:Sl af)(x_0_p_Rounds:Sl aj)(x_0_p_Miss:Int)(x_0_p_Life:Int)(x_0_p_From:Int)(x_0_p_To:Int)(x_0_out:Sl ap):cC (kH x_0_t x_0_old x_0_now x_0_p_Moves x_0_p_Rounds x_0_p_Miss x_0_p_Life x_0_p_From x_0_p_To x_0_out) (fK x_0_t x_0_old x_0_now x_0_p_Moves x_0_p_Rounds x_0_p_Miss x_0_p_Life x_0_p_From x_0_p_To x_0_out):=by
 unfold kH fK
 repeat' first
  |with_reducible apply pN
  |with_reducible apply pM
  |with_reducible refine cC.loop (fun _=>?_) _ _
  |with_reducible refine cC.bind ?_ (fun _=>?_)
  |(split<;>try dsimp only)
  |with_reducible exact cC.refl _
def oH(t_0:ah):Option Int:=
 (gK 100000 (iR t_0) (0,0)).bind fun i6=>
 some i6
theorem we(t_0:ah):cC (oH t_0) (kR t_0):=by
 unfold oH kR
 repeat' first
  |with_reducible refine cC.loop (fun _=>?_) _ _
  |with_reducible refine cC.bind ?_ (fun _=>?_)
  |(split<;>try dsimp only)
  |with_reducible exact cC.refl _
def rF(t_0:ah):Option Int:=
 (oH t_0).bind fun r1=>
 some (wr .i64 ((ah.bh t_0)*r1))
theorem Aw(t_0:ah):cC (rF t_0) (oB t_0):=by
 unfold rF oB
 repeat' first
  |with_reducible apply we
  |with_reducible refine cC.bind ?_ (fun _=>?_)
  |(split<;>try dsimp only)
  |with_reducible exact cC.refl _
def tJ(t_0:ah)(miss_1:Int):Option Int:=
 (rF t_0).bind fun r1=>
 some (wr .i64 ((wr .i64 ((wr .i64 (2*miss_1))+r1))+1))
theorem BR(t_0:ah)(miss_1:Int):cC (tJ t_0 miss_1) (oN t_0 miss_1):=by
 unfold tJ oN
 repeat' first
  |with_reducible apply Aw
  |with_reducible refine cC.bind ?_ (fun _=>?_)
  |(split<;>try dsimp only)
  |with_reducible exact cC.refl _
def kG(x_0_t:ah)(x_0_old:Sl (Sl Int))(x_0_now:Sl (Sl Int))(x_0_p_Moves:Sl af)(x_0_p_Rounds:Sl aj)(x_0_p_Miss:Int)(x_0_p_Life:Int)(x_0_p_From:Int)(x_0_p_To:Int)(x_0_out:Sl ap):Option (ah×Sl (Sl Int)×Sl (Sl Int)×Sl af×Sl aj×Int×Int×Int×Int×Sl ap):=
 (tJ x_0_t (if 1048576<(if 0>x_0_p_Miss then 0 else x_0_p_Miss)then 1048576 else(if 0>x_0_p_Miss then 0 else x_0_p_Miss))).bind fun r1=>
 (gK 100000 (dF r1) (1,x_0_t,x_0_old,x_0_now,x_0_p_Moves,x_0_p_Rounds,x_0_p_Miss,x_0_p_Life,x_0_p_From,x_0_p_To,x_0_out)).bind fun(x39,s40,s41,s42,s43,i44,i45,i46,i47,s48)=>
 some (x39,s40,s41,s42,s43,i44,i45,i46,i47,s48)
theorem rl(x_0_t:ah)(x_0_old:Sl (Sl Int))(x_0_now:Sl (Sl Int))(x_0_p_Moves:Sl af)(x_0_p_Rounds:Sl aj)(x_0_p_Miss:Int)(x_0_p_Life:Int)(x_0_p_From:Int)(x_0_p_To:Int)(x_0_out:Sl ap):cC (kG x_0_t x_0_old x_0_now x_0_p_Moves x_0_p_Rounds x_0_p_Miss x_0_p_Life x_0_p_From x_0_p_To x_0_out) (fJ x_0_t x_0_old x_0_now x_0_p_Moves x_0_p_Rounds x_0_p_Miss x_0_p_Life x_0_p_From x_0_p_To x_0_out):=by
 unfold kG fJ
 repeat' first
  |with_reducible apply BR
  |with_reducible refine cC.loop (fun _=>?_) _ _
  |with_reducible refine cC.bind ?_ (fun _=>?_)
  |(split<;>try dsimp only)
  |with_reducible exact cC.refl _
def pR(n_0:Int)(l_1:Sl aO):Option Bool:=
 bif((decide (n_0<0))||(decide (n_0>16)))then(some false)else
 ((gK 100000 (jG n_0 l_1) 0).bind fun
 |.inl b4=>(some b4)
 |.inr _=>(some true))
theorem xS(n_0:Int)(l_1:Sl aO):cC (pR n_0 l_1) (kI n_0 l_1):=by
 unfold pR kI
 repeat' first
  |with_reducible refine cC.loop (fun _=>?_) _ _
  |with_reducible refine cC.cond ?_ ?_
  |with_reducible refine cC.bind ?_ (fun _=>?_)
  |(split<;>try dsimp only)
  |with_reducible exact cC.refl _
def nJ(l_1:Sl aO):(Int×Sl Int)->Option ((Int×Sl Int)⊕(Sl Int)):=fun(i5,s6)=>
 bif decide (i5<(l_1.l.length:Int))then((e_ i5 l_1.l.length).bind fun n7=>
 (e_ (aO.oz (gt l_1.l n7)) s6.l.length).bind fun n8=>
 (w8 .u16 1 (aO.To (gt l_1.l n7))).bind fun i9=>
 (e_ (aO.oz (gt l_1.l n7)) s6.l.length).bind fun n10=>
 some (.inl (wr .i64 (i5+1),(Sl.mk (s6.l.set n10 (Mb .u16 (gt s6.l n8) i9))))))else
 (some (.inr s6))
theorem vw(l_1:Sl aO):∀s,cC (nJ l_1 s) (kc l_1 s):=by
 intro s;unfold nJ kc;rw[A2]
 repeat' first
  |with_reducible refine cC.cond ?_ ?_
  |with_reducible refine cC.bind ?_ (fun _=>?_)
  |(split<;>try dsimp only)
  |with_reducible exact cC.refl _
def qS(n_0:Int)(l_1:Sl aO):Option (Sl Int):=
 (Bf 0 n_0 n_0).bind fun l1=>
 (gK 100000 (nJ l_1) (0,(Sl.mk l1))).bind fun s11=>
 some s11
theorem yS(n_0:Int)(l_1:Sl aO):cC (qS n_0 l_1) (mR n_0 l_1):=by
 unfold qS mR
 repeat' first
  |with_reducible apply vw
  |with_reducible refine cC.loop (fun _=>?_) _ _
  |with_reducible refine cC.bind ?_ (fun _=>?_)
  |(split<;>try dsimp only)
  |with_reducible exact cC.refl _
def fQ(x_0:Int):Option Int:=
 bif(x_0==0)then(some 16)else
 ((e_ (HJ .u32 (wr .u32 ((wr .u32 (FV .u16 x_0 (wr .u16 (0-x_0))))*125613361)) 27) 32).bind fun n1=>
 some (wr .i64 (gt KX.1 n1)))
theorem j3(x_0:Int):cC (fQ x_0) (dn x_0):=by
 unfold fQ dn;rw[wJ]
 repeat' first
  |with_reducible refine cC.cond ?_ ?_
  |with_reducible refine cC.bind ?_ (fun _=>?_)
  |(split<;>try dsimp only)
  |with_reducible exact cC.refl _
def nL:(Int×Sl Int)->Option ((Int×Sl Int)⊕(Sl Int)):=fun(i4,s5)=>
 bif(i4 !=0)then((fQ i4).bind fun r6=>
 (h_ (s5.l++[r6])).bind fun l7=>
 some (.inl (FV .u16 i4 (wr .u16 (i4-1)),(Sl.mk l7))))else
 (some (.inr s5))
theorem vx:∀s,cC (nL s) (ke s):=by
 intro s;unfold nL ke;rw[wJ]
 repeat' first
  |with_reducible apply j3
  |with_reducible refine cC.cond ?_ ?_
  |with_reducible refine cC.bind ?_ (fun _=>?_)
  |(split<;>try dsimp only)
  |with_reducible exact cC.refl _
def qT(set_0:Int):Option (Sl Int):=
 (gK 100000 (nL) (set_0,Sl.nil)).bind fun s8=>
 some s8
theorem yT(set_0:Int):cC (qT set_0) (mS set_0):=by
 unfold qT mS
 repeat' first
  |with_reducible apply vx
  |with_reducible refine cC.loop (fun _=>?_) _ _
  |with_reducible refine cC.bind ?_ (fun _=>?_)
  |(split<;>try dsimp only)
  |with_reducible exact cC.refl _
def nI(to_0:Sl Int)(r1:Sl Int):(Int×Int)->Option ((Int×Int)⊕Int):=fun(i4,i5)=>
 bif decide (i5<(r1.l.length:Int))then((e_ i5 r1.l.length).bind fun n6=>
 (e_ (gt r1.l n6) to_0.l.length).bind fun n7=>
 some (.inl (Mb .u16 i4 (gt to_0.l n7),wr .i64 (i5+1))))else
 (some (.inr i4))
theorem vv(to_0:Sl Int)(r1:Sl Int):∀s,cC (nI to_0 r1 s) (j_ to_0 r1 s):=by
 intro s;unfold nI j_;rw[A2]
 repeat' first
  |with_reducible refine cC.cond ?_ ?_
  |with_reducible refine cC.bind ?_ (fun _=>?_)
  |(split<;>try dsimp only)
  |with_reducible exact cC.refl _
def qR(to_0:Sl Int)(set_1:Int):Option Int:=
 (qT set_1).bind fun r1=>
 (gK 100000 (nI to_0 r1) (0,0)).bind fun i8=>
 some i8
theorem yR(to_0:Sl Int)(set_1:Int):cC (qR to_0 set_1) (mQ to_0 set_1):=by
 unfold qR mQ
 repeat' first
  |with_reducible apply yT
  |with_reducible apply vv
  |with_reducible refine cC.loop (fun _=>?_) _ _
  |with_reducible refine cC.bind ?_ (fun _=>?_)
  |(split<;>try dsimp only)
  |with_reducible exact cC.refl _
def mT(r2:Sl Int):(Int×Sl Int)->Option ((Int×Sl Int)⊕(Bool⊕(Sl Int))):=fun(i7,s8)=>
 bif(i7 !=0)then((qR r2 i7).bind fun r9=>
 bif((rY .u16 i7 r9)==0)then(some (.inr (.inl false)))else
 ((fQ (rY .u16 i7 r9)).bind fun r10=>
 (h_ (s8.l++[r10])).bind fun l11=>
 (w8 .u16 1 r10).bind fun i12=>
 some (.inl (rY .u16 i7 i12,(Sl.mk l11)))))else
 (some (.inr (.inr s8)))
theorem uD(r2:Sl Int):∀s,cC (mT r2 s) (iF r2 s):=by
 intro s;unfold mT iF;rw[tX]
 repeat' first
  |with_reducible apply yR
  |with_reducible apply j3
  |with_reducible refine cC.cond ?_ ?_
  |with_reducible refine cC.bind ?_ (fun _=>?_)
  |(split<;>try dsimp only)
  |with_reducible exact cC.refl _
def pS(n_0:Int)(l_1:Sl aO):Option (Sl Int×Bool):=
 (pR n_0 l_1).bind fun r1=>
 bif(!r1)then(some (Sl.nil,false))else
 ((qS n_0 l_1).bind fun r2=>
 (w8 .u16 1 n_0).bind fun i3=>
 (gK 100000 (mT r2) (wr .u16 (i3-1),Sl.nil)).bind fun
 |.inl b13=>(some (Sl.nil,b13))
 |.inr s14=>(some (s14,true)))
theorem xT(n_0:Int)(l_1:Sl aO):cC (pS n_0 l_1) (ig n_0 l_1):=by
 unfold pS ig
 repeat' first
  |with_reducible apply xS
  |with_reducible apply yS
  |with_reducible apply uD
  |with_reducible refine cC.loop (fun _=>?_) _ _
  |with_reducible refine cC.cond ?_ ?_
  |with_reducible refine cC.bind ?_ (fun _=>?_)
  |(split<;>try dsimp only)
  |with_reducible exact cC.refl _
def jR(x_0_t:ah)(ports_1:Sl (Sl Int))(h_3:Int)(i7:Int)(n9:Nat):(Bool×Int×Sl aO)->Option ((Bool×Int×Sl aO)⊕(Bool×Sl aO)):=fun(b13,i14,s15)=>
 bif decide (i14<(((gt ports_1.l n9).l).length:Int))then(((e_ i14 ((gt ports_1.l n9).l).length).bind fun n16=>
 (pp x_0_t i7 (gt ((gt ports_1.l n9).l) n16)).bind fun(r17,r18,r19,r20)=>
 bif r20 then((h_ (s15.l++[(⟨i7,r17⟩:aO)])).bind fun l21=>
 some (b13,(Sl.mk l21)))else
 ((e_ h_3 ((ah.a_ x_0_t).l).length).bind fun n22=>
 bif(!(decide ((gt ((ah.a_ x_0_t).l) n22)=(⟨i7,gt ((gt ports_1.l n9).l) n16⟩:fH))))then(some (true,s15))else
 (some (b13,s15))):Option (Bool×Sl aO)).bind fun(b23,s24)=>
 some (.inl (b23,wr .i64 (i14+1),s24)))else
 (some (.inr (b13,s15)))
theorem qd(x_0_t:ah)(ports_1:Sl (Sl Int))(h_3:Int)(i7:Int)(n9:Nat):∀s,cC (jR x_0_t ports_1 h_3 i7 n9 s) (dW x_0_t ports_1 h_3 i7 n9 s):=by
 intro s;unfold jR dW
 repeat' first
  |with_reducible apply t9
  |with_reducible refine cC.cond ?_ ?_
  |with_reducible refine cC.bind ?_ (fun _=>?_)
  |(split<;>try dsimp only)
  |with_reducible exact cC.refl _
def jQ(x_0_t:ah)(ports_1:Sl (Sl Int))(h_3:Int):(Bool×Int×Sl aO)->Option ((Bool×Int×Sl aO)⊕(Bool×Sl aO)):=fun(b6,i7,s8)=>
 bif decide (i7<(ports_1.l.length:Int))then((e_ i7 ports_1.l.length).bind fun n9=>
 (gK 100000 (jR x_0_t ports_1 h_3 i7 n9) (b6,0,s8)).bind fun(b25,s26)=>
 some (.inl (b25,wr .i64 (i7+1),s26)))else
 (some (.inr (b6,s8)))
theorem qc(x_0_t:ah)(ports_1:Sl (Sl Int))(h_3:Int):∀s,cC (jQ x_0_t ports_1 h_3 s) (fc x_0_t ports_1 h_3 s):=by
 intro s;unfold jQ fc
 repeat' first
  |with_reducible apply qd
  |with_reducible refine cC.loop (fun _=>?_) _ _
  |with_reducible refine cC.cond ?_ ?_
  |with_reducible refine cC.bind ?_ (fun _=>?_)
  |(split<;>try dsimp only)
  |with_reducible exact cC.refl _
def k9(x_0_t:ah)(x_0_old:Sl (Sl Int))(x_0_now:Sl (Sl Int))(x_0_p_Moves:Sl af)(x_0_p_Rounds:Sl aj)(x_0_p_Miss:Int)(x_0_p_Life:Int)(x_0_p_From:Int)(x_0_p_To:Int)(x_0_out:Sl ap)(ports_1:Sl (Sl Int))(k_2:Int)(h_3:Int):Option (ah×Sl (Sl Int)×Sl (Sl Int)×Sl af×Sl aj×Int×Int×Int×Int×Sl ap):=
 (gK 100000 (jQ x_0_t ports_1 h_3) (false,0,Sl.nil)).bind fun(b27,s28)=>
 (pS (ah.bh x_0_t) s28).bind fun(r29,r30)=>
 (bG x_0_t x_0_old x_0_now x_0_p_Moves x_0_p_Rounds x_0_p_Miss x_0_p_Life x_0_p_From x_0_p_To x_0_out b27 5 k_2 h_3).bind fun(q31,q32,q33,q34,q35,q36,q37,q38,q39,s40)=>
 (bG q31 q32 q33 q34 q35 q36 q37 q38 q39 s40 (!r30) 6 k_2 h_3).bind fun(q41,q42,q43,q44,q45,q46,q47,q48,q49,s50)=>
 some (q41,q42,q43,q44,q45,q46,q47,q48,q49,s50)
theorem rL(x_0_t:ah)(x_0_old:Sl (Sl Int))(x_0_now:Sl (Sl Int))(x_0_p_Moves:Sl af)(x_0_p_Rounds:Sl aj)(x_0_p_Miss:Int)(x_0_p_Life:Int)(x_0_p_From:Int)(x_0_p_To:Int)(x_0_out:Sl ap)(ports_1:Sl (Sl Int))(k_2:Int)(h_3:Int):cC (k9 x_0_t x_0_old x_0_now x_0_p_Moves x_0_p_Rounds x_0_p_Miss x_0_p_Life x_0_p_From x_0_p_To x_0_out ports_1 k_2 h_3) (gN x_0_t x_0_old x_0_now x_0_p_Moves x_0_p_Rounds x_0_p_Miss x_0_p_Life x_0_p_From x_0_p_To x_0_out ports_1 k_2 h_3):=by
 unfold k9 gN
 repeat' first
  |with_reducible apply qc
  |with_reducible apply xT
  |with_reducible refine cC.loop (fun _=>?_) _ _
  |with_reducible refine cC.bind ?_ (fun _=>?_)
  |(split<;>try dsimp only)
  |with_reducible exact cC.refl _
def jj(x_0_p_Rounds:Sl aj)(n36:Nat)(s52:Sl (Sl Int))(s53:Sl (Sl Int))(s61:Sl ap)(s55:Sl aj)(s54:Sl af)(i50:Int)(x51:ah)(i56:Int)(i57:Int)(i58:Int)(i59:Int):(Int×Sl (Sl Int))->Option ((Int×Sl (Sl Int))⊕(Sl (Sl Int))):=fun(i78,s79)=>
 bif decide (i78<(s54.l.length:Int))then(((e_ i78 s54.l.length).bind fun n80=>
 (bif((af.mr (gt s54.l n80))==i50)then((fh (⟨x51,s52,s53,(⟨s54,s55,i56,i57,i58,i59⟩:aE),s61⟩:bw) (gt s54.l n80)).bind fun r81=>
 bif r81 then((ma (gt x_0_p_Rounds.l n36) (gt s54.l n80)).bind fun r82=>
 some r82)else
 (some false))else
 (some false):Option Bool).bind fun b83=>
 bif b83 then((e_ (af.Sw (gt s54.l n80)) s79.l.length).bind fun n84=>
 (h_ (((gt s79.l n84).l)++[af.mq (gt s54.l n80)])).bind fun l85=>
 (e_ (af.Sw (gt s54.l n80)) s79.l.length).bind fun n86=>
 bif Nat.beq n84 n86 then(some (Sl.mk (s79.l.set n86 (Sl.mk l85))))else(none))else
 (some s79):Option (Sl (Sl Int))).bind fun s87=>
 some (.inl (wr .i64 (i78+1),s87)))else
 (some (.inr s79))
theorem pf(x_0_p_Rounds:Sl aj)(n36:Nat)(s52:Sl (Sl Int))(s53:Sl (Sl Int))(s61:Sl ap)(s55:Sl aj)(s54:Sl af)(i50:Int)(x51:ah)(i56:Int)(i57:Int)(i58:Int)(i59:Int):∀s,cC (jj x_0_p_Rounds n36 s52 s53 s61 s55 s54 i50 x51 i56 i57 i58 i59 s) (eh x_0_p_Rounds n36 s52 s53 s61 s55 s54 i50 x51 i56 i57 i58 i59 s):=by
 intro s;unfold jj eh
 repeat' first
  |with_reducible apply pQ
  |with_reducible refine cC.cond ?_ ?_
  |with_reducible refine cC.bind ?_ (fun _=>?_)
  |(split<;>try dsimp only)
  |with_reducible exact cC.refl _
def ji(x_0_p_Rounds:Sl aj)(n36:Nat)(i24:Int)(x25:ah):(Int×ah×Sl (Sl Int)×Sl (Sl Int)×Sl af×Sl aj×Int×Int×Int×Int×Sl (Sl Int)×Sl ap)->Option ((Int×ah×Sl (Sl Int)×Sl (Sl Int)×Sl af×Sl aj×Int×Int×Int×Int×Sl (Sl Int)×Sl ap)⊕(ah×Sl (Sl Int)×Sl (Sl Int)×Sl af×Sl aj×Int×Int×Int×Int×Sl (Sl Int)×Sl ap)):=fun(i50,x51,s52,s53,s54,s55,i56,i57,i58,i59,s60,s61)=>
 bif decide (i50<(((ah.a_ x25).l).length:Int))then((Bf (Sl.nil:Sl Int) (s60.l.length:Int) (s60.l.length:Int)).bind fun l62=>
 (gK 100000 (fq i50 s60) (0,s60,(Sl.mk l62))).bind fun(s73,s74)=>
 (gK 100000 (jj x_0_p_Rounds n36 s52 s53 s61 s55 s54 i50 x51 i56 i57 i58 i59) (0,s74)).bind fun s88=>
 (k9 x51 s52 s53 s54 s55 i56 i57 i58 i59 s61 s88 i24 i50).bind fun(q89,q90,q91,q92,q93,q94,q95,q96,q97,s98)=>
 some (.inl (wr .i64 (i50+1),q89,q90,q91,q92,q93,q94,q95,q96,q97,s73,s98)))else
 (some (.inr (x51,s52,s53,s54,s55,i56,i57,i58,i59,s60,s61)))
theorem pd(x_0_p_Rounds:Sl aj)(n36:Nat)(i24:Int)(x25:ah):∀s,cC (ji x_0_p_Rounds n36 i24 x25 s) (eg x_0_p_Rounds n36 i24 x25 s):=by
 intro s;unfold ji eg
 repeat' first
  |with_reducible apply pf
  |with_reducible apply rL
  |with_reducible refine cC.loop (fun _=>?_) _ _
  |with_reducible refine cC.cond ?_ ?_
  |with_reducible refine cC.bind ?_ (fun _=>?_)
  |(split<;>try dsimp only)
  |with_reducible exact cC.refl _
def jh(x_0_p_Rounds:Sl aj)(n36:Nat)(s100:Sl (Sl Int))(s102:Sl af)(s109:Sl ap)(x99:ah)(s101:Sl (Sl Int))(s103:Sl aj)(i104:Int)(i105:Int)(i106:Int)(i107:Int):(Int×Sl (Sl Int))->Option ((Int×Sl (Sl Int))⊕(Sl (Sl Int))):=fun(i113,s114)=>
 bif decide (i113<(s102.l.length:Int))then(((e_ i113 s102.l.length).bind fun n115=>
 ((fh (⟨x99,s100,s101,(⟨s102,s103,i104,i105,i106,i107⟩:aE),s109⟩:bw) (gt s102.l n115)).bind fun r116=>
 bif r116 then((ma (gt x_0_p_Rounds.l n36) (gt s102.l n115)).bind fun r117=>
 some r117)else
 (some false):Option Bool).bind fun b118=>
 bif b118 then((e_ (af.Sw (gt s102.l n115)) s114.l.length).bind fun n119=>
 (e_ (af.mr (gt s102.l n115)) ((gt s114.l n119).l).length).bind fun n120=>
 some (Sl.mk (s114.l.set n119 (Sl.mk (((gt s114.l n119).l).set n120 (af.mq (gt s102.l n115)))))))else
 (some s114):Option (Sl (Sl Int))).bind fun s121=>
 some (.inl (wr .i64 (i113+1),s121)))else
 (some (.inr s114))
theorem o_(x_0_p_Rounds:Sl aj)(n36:Nat)(s100:Sl (Sl Int))(s102:Sl af)(s109:Sl ap)(x99:ah)(s101:Sl (Sl Int))(s103:Sl aj)(i104:Int)(i105:Int)(i106:Int)(i107:Int):∀s,cC (jh x_0_p_Rounds n36 s100 s102 s109 x99 s101 s103 i104 i105 i106 i107 s) (ed x_0_p_Rounds n36 s100 s102 s109 x99 s101 s103 i104 i105 i106 i107 s):=by
 intro s;unfold jh ed
 repeat' first
  |with_reducible apply pQ
  |with_reducible refine cC.cond ?_ ?_
  |with_reducible refine cC.bind ?_ (fun _=>?_)
  |(split<;>try dsimp only)
  |with_reducible exact cC.refl _
def jg(x_0_p_Rounds:Sl aj):(Int×ah×Sl (Sl Int)×Sl (Sl Int)×Sl af×Sl aj×Int×Int×Int×Int×Sl (Sl Int)×Sl ap)->Option ((Int×ah×Sl (Sl Int)×Sl (Sl Int)×Sl af×Sl aj×Int×Int×Int×Int×Sl (Sl Int)×Sl ap)⊕(ah×Sl (Sl Int)×Sl (Sl Int)×Sl af×Sl aj×Int×Int×Int×Int×Sl ap)):=fun(i24,x25,s26,s27,s28,s29,i30,i31,i32,i33,s34,s35)=>
 bif decide (i24<(x_0_p_Rounds.l.length:Int))then((e_ i24 x_0_p_Rounds.l.length).bind fun n36=>
 (gK 100000 (ji x_0_p_Rounds n36 i24 x25) (0,x25,s26,s27,s28,s29,i30,i31,i32,i33,s34,s35)).bind fun(x99,s100,s101,s102,s103,i104,i105,i106,i107,s108,s109)=>
 (gK 100000 (jh x_0_p_Rounds n36 s100 s102 s109 x99 s101 s103 i104 i105 i106 i107) (0,s108)).bind fun s122=>
 some (.inl (wr .i64 (i24+1),x99,s100,s101,s102,s103,i104,i105,i106,i107,s122,s109)))else
 (some (.inr (x25,s26,s27,s28,s29,i30,i31,i32,i33,s35)))
theorem o9(x_0_p_Rounds:Sl aj):∀s,cC (jg x_0_p_Rounds s) (d_ x_0_p_Rounds s):=by
 intro s;unfold jg d_
 repeat' first
  |with_reducible apply pd
  |with_reducible apply o_
  |with_reducible refine cC.loop (fun _=>?_) _ _
  |with_reducible refine cC.cond ?_ ?_
  |with_reducible refine cC.bind ?_ (fun _=>?_)
  |(split<;>try dsimp only)
  |with_reducible exact cC.refl _
def kh(x_0_t:ah)(x_0_old:Sl (Sl Int))(x_0_now:Sl (Sl Int))(x_0_p_Moves:Sl af)(x_0_p_Rounds:Sl aj)(x_0_p_Miss:Int)(x_0_p_Life:Int)(x_0_p_From:Int)(x_0_p_To:Int)(x_0_out:Sl ap):Option (ah×Sl (Sl Int)×Sl (Sl Int)×Sl af×Sl aj×Int×Int×Int×Int×Sl ap):=
 (Bf (Sl.nil:Sl Int) (x_0_old.l.length:Int) (x_0_old.l.length:Int)).bind fun l1=>
 (gK 100000 (fr x_0_old) (0,(Sl.mk l1))).bind fun s10=>
 (gK 100000 (jg x_0_p_Rounds) (0,x_0_t,x_0_old,x_0_now,x_0_p_Moves,x_0_p_Rounds,x_0_p_Miss,x_0_p_Life,x_0_p_From,x_0_p_To,s10,x_0_out)).bind fun(x123,s124,s125,s126,s127,i128,i129,i130,i131,s132)=>
 some (x123,s124,s125,s126,s127,i128,i129,i130,i131,s132)
theorem qO(x_0_t:ah)(x_0_old:Sl (Sl Int))(x_0_now:Sl (Sl Int))(x_0_p_Moves:Sl af)(x_0_p_Rounds:Sl aj)(x_0_p_Miss:Int)(x_0_p_Life:Int)(x_0_p_From:Int)(x_0_p_To:Int)(x_0_out:Sl ap):cC (kh x_0_t x_0_old x_0_now x_0_p_Moves x_0_p_Rounds x_0_p_Miss x_0_p_Life x_0_p_From x_0_p_To x_0_out) (gi x_0_t x_0_old x_0_now x_0_p_Moves x_0_p_Rounds x_0_p_Miss x_0_p_Life x_0_p_From x_0_p_To x_0_out):=by
 unfold kh gi
 repeat' first
  |with_reducible apply o9
  |with_reducible refine cC.loop (fun _=>?_) _ _
  |with_reducible refine cC.bind ?_ (fun _=>?_)
  |(split<;>try dsimp only)
  |with_reducible exact cC.refl _
def m6(t_0:ah)(old_1:Sl (Sl Int))(now_2:Sl (Sl Int))(p_3:bn):Option (Sl ap):=
 ((od t_0 old_1).bind fun r1=>
 bif(!r1)then(some true)else
 ((od t_0 now_2).bind fun r2=>
 some (!r2)):Option Bool).bind fun b3=>
 bif b3 then(some (Sl.mk [(⟨1,0,0⟩:ap)]))else
 ((kH t_0 old_1 now_2 (bn.cZ p_3) (bn.bc p_3) (bn.tZ p_3) (bn.Dd p_3) (bn.oz p_3) (bn.To p_3) Sl.nil).bind fun(q4,q5,q6,q7,q8,q9,q10,q11,q12,s13)=>
 (kG q4 q5 q6 q7 q8 q9 q10 q11 q12 s13).bind fun(q14,q15,q16,q17,q18,q19,q20,q21,q22,s23)=>
 (kh q14 q15 q16 q17 q18 q19 q20 q21 q22 s23).bind fun(q24,q25,q26,q27,q28,q29,q30,q31,q32,s33)=>
 some s33)
theorem xQ(t_0:ah)(old_1:Sl (Sl Int))(now_2:Sl (Sl Int))(p_3:bn):cC (m6 t_0 old_1 now_2 p_3) (ie t_0 old_1 now_2 p_3):=by
 unfold m6 ie
 repeat' first
  |with_reducible apply yK
  |with_reducible apply rm
  |with_reducible apply rl
  |with_reducible apply qO
  |with_reducible refine cC.cond ?_ ?_
  |with_reducible refine cC.bind ?_ (fun _=>?_)
  |(split<;>try dsimp only)
  |with_reducible exact cC.refl _
def sT:Option Bool:=
 (m6 (⟨3,(Sl.mk [(⟨0,0,1,0,1,1⟩:bA),(⟨1,1,2,0,1,1⟩:bA),(⟨0,1,2,1,1,1⟩:bA)]),(Sl.mk [(⟨2,7⟩:fH)])⟩:ah) (Sl.mk [(Sl.mk [0]),(Sl.mk [1]),(Sl.mk [7])]) (Sl.mk [(Sl.mk [1]),(Sl.mk [1]),(Sl.mk [7])]) (⟨Sl.nil,Sl.nil,0,0,0,0⟩:bn)).bind fun r1=>
 (bif((r1.l.length:Int)==1)then((e_ 0 r1.l.length).bind fun n2=>
 bif decide ((gt r1.l n2)=(⟨2,0,0⟩:ap))then((tN 6).bind fun r3=>
 bif(r3.toList==(⟨#[108,111,111,112]⟩:ByteArray).toList)then((m6 (⟨0,Sl.nil,Sl.nil⟩:ah) Sl.nil Sl.nil (⟨Sl.nil,Sl.nil,0,0,0,0⟩:bn)).bind fun r4=>
 some ((r4.l.length:Int)==1))else
 (some false))else
 (some false))else
 (some false):Option Bool).bind fun b5=>
 some b5
theorem xN:cC (sT) (kF):=by
 unfold sT kF
 repeat' first
  |with_reducible apply xQ
  |with_reducible refine cC.cond ?_ ?_
  |with_reducible refine cC.bind ?_ (fun _=>?_)
  |(split<;>try dsimp only)
  |with_reducible exact cC.refl _
theorem il:kF=some true:=xN _ (by decide+kernel)
end Go.Proofs.YthcplpfiidlinaaDoor.J
