/- lm answers true: by running its twin. Conditions: none. -/
import Derived.Test.YthcplpfiidlinaaDoorJ
import Derived.Test.YthcplpfiidlinaaDoorTwin
open Go.Ev Go
noncomputable section
namespace Go.Proofs.YthcplpfiidlinaaDoor.J
def qQ(t_0:af):Option (Sl bp):=
 (hC 100000 (k7 t_0) (0,Sl.nil)).bind fun s8=>
 (hC 100000 (kZ t_0) (0,s8)).bind fun s15=>
 some s15
theorem yq(t_0:af):cN (qQ t_0) (mI t_0):=by
 unfold qQ mI
 repeat' first
  |with_reducible refine cN.loop (fun _=>?_) _ _
  |with_reducible refine cN.bind ?_ (fun _=>?_)
  |(split<;>try dsimp only)
  |with_reducible exact cN.refl _
def rV(t_0:af):Option Bool:=
 bif((((decide ((af.aU t_0)<1))||(decide ((af.aU t_0)>8)))||(decide ((((af.aY t_0).l).length:Int)>24)))||(decide ((((af.aN t_0).l).length:Int)>8)))then(some false)else
 ((hC 100000 (lW t_0) 0).bind fun
 |.inl b4=>(some b4)
 |.inr _=>((qQ t_0).bind fun r5=>
 (hC 100000 (iE t_0 r5) (0,(Mp.none:Mp bp Int))).bind fun
 |.inl b13=>(some b13)
 |.inr _=>(some true)))
theorem z7(t_0:af):cN (rV t_0) (nI t_0):=by
 unfold rV nI
 repeat' first
  |with_reducible apply yq
  |with_reducible refine cN.loop (fun _=>?_) _ _
  |with_reducible refine cN.cond ?_ ?_
  |with_reducible refine cN.bind ?_ (fun _=>?_)
  |(split<;>try dsimp only)
  |with_reducible exact cN.refl _
def eS(s_0:Sl Int):Option Int:=
 (hC 100000 (cI s_0) 0).bind fun
 |.inl i5=>(some i5)
 |.inr _=>(some (-1))
theorem ky(s_0:Sl Int):cN (eS s_0) (cV s_0):=by
 unfold eS cV
 repeat' first
  |with_reducible refine cN.loop (fun _=>?_) _ _
  |with_reducible refine cN.bind ?_ (fun _=>?_)
  |(split<;>try dsimp only)
  |with_reducible exact cN.refl _
def er(s_0:Sl Int):Option Bool:=
 (eS s_0).bind fun r1=>
 some (decide (r1>=0))
theorem jM(s_0:Sl Int):cN (er s_0) (cf s_0):=by
 unfold er cf
 repeat' first
  |with_reducible apply ky
  |with_reducible refine cN.bind ?_ (fun _=>?_)
  |(split<;>try dsimp only)
  |with_reducible exact cN.refl _
def nO(t_0:af)(r_1:Sl (Sl Int)):Int->Option (Int⊕(Bool⊕Unit)):=fun i3=>
 bif decide (i3<(r_1.l.length:Int))then((df i3 r_1.l.length).bind fun n4=>
 (bif((((gt r_1.l n4).l).length:Int) !=(((af.aN t_0).l).length:Int))then(some true)else
 ((er (gt r_1.l n4)).bind fun r5=>
 some r5):Option Bool).bind fun b6=>
 bif b6 then(some (.inr (.inl false)))else
 (some (.inl (wr .i64 (i3+1)))))else
 (some (.inr (.inr ())))
theorem vy(t_0:af)(r_1:Sl (Sl Int)):∀s,cN (nO t_0 r_1 s) (jO t_0 r_1 s):=by
 intro s;unfold nO jO
 repeat' first
  |with_reducible apply jM
  |with_reducible refine cN.cond ?_ ?_
  |with_reducible refine cN.bind ?_ (fun _=>?_)
  |(split<;>try dsimp only)
  |with_reducible exact cN.refl _
def lX(t_0:af)(r_1:Sl (Sl Int)):Option Bool:=
 (rV t_0).bind fun r1=>
 bif((!r1)||((r_1.l.length:Int) !=(af.aU t_0)))then(some false)else
 ((hC 100000 (nO t_0 r_1) 0).bind fun
 |.inl b7=>(some b7)
 |.inr _=>(some true))
theorem pU(t_0:af)(r_1:Sl (Sl Int)):cN (lX t_0 r_1) (jm t_0 r_1):=by
 unfold lX jm
 repeat' first
  |with_reducible apply z7
  |with_reducible apply vy
  |with_reducible refine cN.loop (fun _=>?_) _ _
  |with_reducible refine cN.cond ?_ ?_
  |with_reducible refine cN.bind ?_ (fun _=>?_)
  |(split<;>try dsimp only)
  |with_reducible exact cN.refl _
def kf(s_0:Sl Int)(v_1:Int):Option Int:=
 (hC 100000 (fY s_0 v_1) 0).bind fun
 |.inl i4=>(some i4)
 |.inr _=>(some (-1))
theorem rk(s_0:Sl Int)(v_1:Int):cN (kf s_0 v_1) (gY s_0 v_1):=by
 unfold kf gY
 repeat' first
  |with_reducible refine cN.loop (fun _=>?_) _ _
  |with_reducible refine cN.bind ?_ (fun _=>?_)
  |(split<;>try dsimp only)
  |with_reducible exact cN.refl _
def fL(s_0:Sl Int)(v_1:Int):Option Bool:=
 (kf s_0 v_1).bind fun r1=>
 some (decide (r1>=0))
theorem iQ(s_0:Sl Int)(v_1:Int):cN (fL s_0 v_1) (cZ s_0 v_1):=by
 unfold fL cZ
 repeat' first
  |with_reducible apply rk
  |with_reducible refine cN.bind ?_ (fun _=>?_)
  |(split<;>try dsimp only)
  |with_reducible exact cN.refl _
def mZ(l_0:Sl Int):Option Bool:=
 (bif decide ((l_0.l.length:Int)>0)then((uy l_0.l 0 (wr .i64 ((l_0.l.length:Int)-1))).bind fun l1=>
 (df (wr .i64 ((l_0.l.length:Int)-1)) l_0.l.length).bind fun n2=>
 (fL (l_0.to l1) (gt l_0.l n2)).bind fun r3=>
 some r3)else
 (some false):Option Bool).bind fun b4=>
 some b4
theorem uZ(l_0:Sl Int):cN (mZ l_0) (il l_0):=by
 unfold mZ il
 repeat' first
  |with_reducible apply iQ
  |with_reducible refine cN.cond ?_ ?_
  |with_reducible refine cN.bind ?_ (fun _=>?_)
  |(split<;>try dsimp only)
  |with_reducible exact cN.refl _
def qA(t_0:af)(sw_1:Int)(port_2:Int):Option (Int×Int×Int×Bool):=
 (hC 100000 (mX t_0 sw_1 port_2) 0).bind fun
 |.inl (i4,i5,i6,b7)=>(some (i4,i5,i6,b7))
 |.inr _=>(some (0,0,0,false))
theorem vr(t_0:af)(sw_1:Int)(port_2:Int):cN (qA t_0 sw_1 port_2) (nJ t_0 sw_1 port_2):=by
 unfold qA nJ
 repeat' first
  |with_reducible refine cN.loop (fun _=>?_) _ _
  |with_reducible refine cN.bind ?_ (fun _=>?_)
  |(split<;>try dsimp only)
  |with_reducible exact cN.refl _
def rZ(t_0:af)(r_1:Sl (Sl Int))(sw_2:Int)(h_3:Int):Option (Int×Bool):=
 (mz r_1 sw_2 h_3).bind fun(r1,r2)=>
 bif(!r2)then(some (0,false))else
 ((qA t_0 sw_2 r1).bind fun(r3,r4,r5,r6)=>
 some (r3,r6))
theorem Ab(t_0:af)(r_1:Sl (Sl Int))(sw_2:Int)(h_3:Int):cN (rZ t_0 r_1 sw_2 h_3) (nP t_0 r_1 sw_2 h_3):=by
 unfold rZ nP
 repeat' first
  |with_reducible apply vr
  |with_reducible refine cN.cond ?_ ?_
  |with_reducible refine cN.bind ?_ (fun _=>?_)
  |(split<;>try dsimp only)
  |with_reducible exact cN.refl _
def o7(t_0:af)(r_1:Sl (Sl Int))(h_3:Int):(Sl Int)->Option (Sl Int⊕((Int×Sl Int)⊕Unit)):=fun s6=>
 (mZ s6).bind fun r7=>
 bif(!r7)then((df (wr .i64 ((s6.l.length:Int)-1)) s6.l.length).bind fun n8=>
 (df h_3 ((af.aN t_0).l).length).bind fun n9=>
 (df (gt s6.l n8) r_1.l.length).bind fun n10=>
 (df h_3 ((gt r_1.l n10).l).length).bind fun n11=>
 bif decide ((gt ((af.aN t_0).l) n9)=(⟨gt s6.l n8,gt ((gt r_1.l n10).l) n11⟩:cW))then(some (.inr (.inl (0,s6))))else
 ((rZ t_0 r_1 (gt s6.l n8) h_3).bind fun(r12,r13)=>
 bif(!r13)then(some (.inr (.inl (13,Sl.nil))))else
 ((fF (s6.l++[r12])).bind fun l14=>
 some (.inl (Sl.mk l14)))))else
 (some (.inr (.inr ())))
theorem wA(t_0:af)(r_1:Sl (Sl Int))(h_3:Int):∀s,cN (o7 t_0 r_1 h_3 s) (eg t_0 r_1 h_3 s):=by
 intro s;unfold o7 eg
 repeat' first
  |with_reducible apply uZ
  |with_reducible apply Ab
  |with_reducible refine cN.cond ?_ ?_
  |with_reducible refine cN.bind ?_ (fun _=>?_)
  |(split<;>try dsimp only)
  |with_reducible exact cN.refl _
def rY(t_0:af)(r_1:Sl (Sl Int))(sw_2:Int)(h_3:Int):Option (Sl Int×Int):=
 (mz r_1 sw_2 h_3).bind fun(r1,r2)=>
 (bif(!r2)then(some true)else
 ((lX t_0 r_1).bind fun r3=>
 some (!r3)):Option Bool).bind fun b4=>
 bif b4 then(some (Sl.nil,2))else
 ((hC 100000 (o7 t_0 r_1 h_3) (Sl.mk [sw_2])).bind fun
 |.inl (i15,s16)=>(some (s16,i15))
 |.inr _=>(some (Sl.nil,12)))
theorem Aa(t_0:af)(r_1:Sl (Sl Int))(sw_2:Int)(h_3:Int):cN (rY t_0 r_1 sw_2 h_3) (ju t_0 r_1 sw_2 h_3):=by
 unfold rY ju
 repeat' first
  |with_reducible apply pU
  |with_reducible apply wA
  |with_reducible refine cN.loop (fun _=>?_) _ _
  |with_reducible refine cN.cond ?_ ?_
  |with_reducible refine cN.bind ?_ (fun _=>?_)
  |(split<;>try dsimp only)
  |with_reducible exact cN.refl _
def pV(t_0:af)(r_1:Sl (Sl Int))(h_2:Int):(Int×Sl Int)->Option ((Int×Sl Int)⊕(Sl Int)):=fun(i5,s6)=>
 bif decide (i5<(r_1.l.length:Int))then((rY t_0 r_1 i5 h_2).bind fun(r7,r8)=>
 (fF (s6.l++[wr .i64 ((r7.l.length:Int)-1)])).bind fun l9=>
 some (.inl (wr .i64 (i5+1),(Sl.mk l9))))else
 (some (.inr s6))
theorem xJ(t_0:af)(r_1:Sl (Sl Int))(h_2:Int):∀s,cN (pV t_0 r_1 h_2 s) (gp t_0 r_1 h_2 s):=by
 intro s;unfold pV gp
 repeat' first
  |with_reducible apply Aa
  |with_reducible refine cN.cond ?_ ?_
  |with_reducible refine cN.bind ?_ (fun _=>?_)
  |(split<;>try dsimp only)
  |with_reducible exact cN.refl _
def tq(t_0:af)(r_1:Sl (Sl Int))(h_2:Int):Option (Sl Int):=
 (lX t_0 r_1).bind fun r1=>
 bif(((!r1)||(decide (h_2<0)))||(decide (h_2>=(((af.aN t_0).l).length:Int))))then(some Sl.nil)else
 ((hC 100000 (pV t_0 r_1 h_2) (0,Sl.nil)).bind fun s10=>
 some s10)
theorem BN(t_0:af)(r_1:Sl (Sl Int))(h_2:Int):cN (tq t_0 r_1 h_2) (mK t_0 r_1 h_2):=by
 unfold tq mK
 repeat' first
  |with_reducible apply pU
  |with_reducible apply xJ
  |with_reducible refine cN.loop (fun _=>?_) _ _
  |with_reducible refine cN.cond ?_ ?_
  |with_reducible refine cN.bind ?_ (fun _=>?_)
  |(split<;>try dsimp only)
  |with_reducible exact cN.refl _
def o8(t_0:af)(r_1:Sl (Sl Int)):Int->Option (Int⊕(Bool⊕Unit)):=fun i3=>
 bif decide (i3<(((af.aN t_0).l).length:Int))then((tq t_0 r_1 i3).bind fun r4=>
 (fL r4 (-1)).bind fun r5=>
 bif r5 then(some (.inr (.inl false)))else
 (some (.inl (wr .i64 (i3+1)))))else
 (some (.inr (.inr ())))
theorem wB(t_0:af)(r_1:Sl (Sl Int)):∀s,cN (o8 t_0 r_1 s) (gS t_0 r_1 s):=by
 intro s;unfold o8 gS
 repeat' first
  |with_reducible apply BN
  |with_reducible apply iQ
  |with_reducible refine cN.cond ?_ ?_
  |with_reducible refine cN.bind ?_ (fun _=>?_)
  |(split<;>try dsimp only)
  |with_reducible exact cN.refl _
def pz(t_0:af)(r_1:Sl (Sl Int)):Option Bool:=
 (lX t_0 r_1).bind fun r1=>
 bif(!r1)then(some false)else
 ((hC 100000 (o8 t_0 r_1) 0).bind fun
 |.inl b6=>(some b6)
 |.inr _=>(some true))
theorem Ac(t_0:af)(r_1:Sl (Sl Int)):cN (pz t_0 r_1) (jw t_0 r_1):=by
 unfold pz jw
 repeat' first
  |with_reducible apply pU
  |with_reducible apply wB
  |with_reducible refine cN.loop (fun _=>?_) _ _
  |with_reducible refine cN.cond ?_ ?_
  |with_reducible refine cN.bind ?_ (fun _=>?_)
  |(split<;>try dsimp only)
  |with_reducible exact cN.refl _
def nh(r_0:aj)(m_1:ah):Option Bool:=
 (bif((ah.zU m_1)==(aj.No r_0))then((fL (aj.Of r_0) (ah.Sw m_1)).bind fun r1=>
 some r1)else
 (some false):Option Bool).bind fun b2=>
 some b2
theorem qZ(r_0:aj)(m_1:ah):cN (nh r_0 m_1) (kj r_0 m_1):=by
 unfold nh kj
 repeat' first
  |with_reducible apply iQ
  |with_reducible refine cN.cond ?_ ?_
  |with_reducible refine cN.bind ?_ (fun _=>?_)
  |(split<;>try dsimp only)
  |with_reducible exact cN.refl _
def kO(r_0:aj)(c_1:ah):Option Bool:=
 (nh r_0 c_1).bind fun r1=>
 some r1
theorem sv(r_0:aj)(c_1:ah):cN (kO r_0 c_1) (iu r_0 c_1):=by
 unfold kO iu
 repeat' first
  |with_reducible apply qZ
  |with_reducible refine cN.bind ?_ (fun _=>?_)
  |(split<;>try dsimp only)
  |with_reducible exact cN.refl _
def cB(s_0:Sl aj)(f_1_c0:ah):Int->Option (Int⊕(Int⊕Unit)):=fun i2=>
 bif decide (i2<(s_0.l.length:Int))then((df i2 s_0.l.length).bind fun n3=>
 (kO (gt s_0.l n3) f_1_c0).bind fun r4=>
 bif r4 then(some (.inr (.inl i2)))else
 (some (.inl (wr .i64 (i2+1)))))else
 (some (.inr (.inr ())))
theorem gf(s_0:Sl aj)(f_1_c0:ah):∀s,cN (cB s_0 f_1_c0 s) (br s_0 f_1_c0 s):=by
 intro s;unfold cB br
 repeat' first
  |with_reducible apply sv
  |with_reducible refine cN.cond ?_ ?_
  |with_reducible refine cN.bind ?_ (fun _=>?_)
  |(split<;>try dsimp only)
  |with_reducible exact cN.refl _
def cK(s_0:Sl aj)(f_1_c0:ah):Option Int:=
 (hC 100000 (cB s_0 f_1_c0) 0).bind fun
 |.inl i5=>(some i5)
 |.inr _=>(some (-1))
theorem gC(s_0:Sl aj)(f_1_c0:ah):cN (cK s_0 f_1_c0) (bK s_0 f_1_c0):=by
 unfold cK bK
 repeat' first
  |with_reducible apply gf
  |with_reducible refine cN.loop (fun _=>?_) _ _
  |with_reducible refine cN.bind ?_ (fun _=>?_)
  |(split<;>try dsimp only)
  |with_reducible exact cN.refl _
def cC(s_0:Sl aj)(f_1_c0:ah):Option Bool:=
 (cK s_0 f_1_c0).bind fun r1=>
 some (decide (r1>=0))
theorem gg(s_0:Sl aj)(f_1_c0:ah):cN (cC s_0 f_1_c0) (bF s_0 f_1_c0):=by
 unfold cC bF
 repeat' first
  |with_reducible apply gC
  |with_reducible refine cN.bind ?_ (fun _=>?_)
  |(split<;>try dsimp only)
  |with_reducible exact cN.refl _
def jI(x_0:bH)(m_1:ah):Option Bool:=
 (cC (bB.az (bH.p x_0)) m_1).bind fun r1=>
 some r1
theorem oT(x_0:bH)(m_1:ah):cN (jI x_0 m_1) (eZ x_0 m_1):=by
 unfold jI eZ
 repeat' first
  |with_reducible apply gg
  |with_reducible refine cN.bind ?_ (fun _=>?_)
  |(split<;>try dsimp only)
  |with_reducible exact cN.refl _
def jW(i13:Int)(s47:Sl ak)(i43:Int)(i45:Int)(i46:Int)(n48:Nat)(s16:Sl (Sl Int))(n24:Nat)(i37:Int)(x38:af)(s39:Sl (Sl Int))(s40:Sl (Sl Int))(s41:Sl ah)(s42:Sl aj)(i44:Int):(Int×Int)->Option ((Int×Int)⊕Int):=fun(i51,i52)=>
 bif decide (i52<(s41.l.length:Int))then(((df i52 s41.l.length).bind fun n53=>
 (bif((((ah.Sw (gt s41.l n53))==i13)&&((ah.jF (gt s41.l n53))==i37))&&((ah.h_ (gt s41.l n53))==(gt ((gt s16.l n24).l) n48)))then((jI (⟨x38,s39,s40,(⟨s41,s42,i43,i44,i45,i46⟩:am),s47⟩:bH) (gt s41.l n53)).bind fun r54=>
 some r54)else
 (some false):Option Bool).bind fun b55=>
 bif b55 then(some (wr .i64 (i51+1)))else
 (some i51):Option Int).bind fun i56=>
 some (.inl (i56,wr .i64 (i52+1))))else
 (some (.inr i51))
theorem qY(i13:Int)(s47:Sl ak)(i43:Int)(i45:Int)(i46:Int)(n48:Nat)(s16:Sl (Sl Int))(n24:Nat)(i37:Int)(x38:af)(s39:Sl (Sl Int))(s40:Sl (Sl Int))(s41:Sl ah)(s42:Sl aj)(i44:Int):∀s,cN (jW i13 s47 i43 i45 i46 n48 s16 n24 i37 x38 s39 s40 s41 s42 i44 s) (dU i13 s47 i43 i45 i46 n48 s16 n24 i37 x38 s39 s40 s41 s42 i44 s):=by
 intro s;unfold jW dU
 repeat' first
  |with_reducible apply oT
  |with_reducible refine cN.cond ?_ ?_
  |with_reducible refine cN.bind ?_ (fun _=>?_)
  |(split<;>try dsimp only)
  |with_reducible exact cN.refl _
def jV(i13:Int)(s16:Sl (Sl Int))(n24:Nat):(Int×af×Sl (Sl Int)×Sl (Sl Int)×Sl ah×Sl aj×Int×Int×Int×Int×Sl ak)->Option ((Int×af×Sl (Sl Int)×Sl (Sl Int)×Sl ah×Sl aj×Int×Int×Int×Int×Sl ak)⊕(af×Sl (Sl Int)×Sl (Sl Int)×Sl ah×Sl aj×Int×Int×Int×Int×Sl ak)):=fun(i37,x38,s39,s40,s41,s42,i43,i44,i45,i46,s47)=>
 bif decide (i37<(((gt s16.l n24).l).length:Int))then((df i37 ((gt s16.l n24).l).length).bind fun n48=>
 (hC 100000 (jW i13 s47 i43 i45 i46 n48 s16 n24 i37 x38 s39 s40 s41 s42 i44) (0,0)).bind fun i57=>
 (df i13 s39.l.length).bind fun n58=>
 (df i37 ((gt s39.l n58).l).length).bind fun n59=>
 (bP x38 s39 s40 s41 s42 i43 i44 i45 i46 s47 (((gt ((gt s16.l n24).l) n48) !=(gt ((gt s39.l n58).l) n59))&&(i57 !=1)) 2 i13 i37).bind fun(q60,q61,q62,q63,q64,q65,q66,q67,q68,s69)=>
 some (.inl (wr .i64 (i37+1),q60,q61,q62,q63,q64,q65,q66,q67,q68,s69)))else
 (some (.inr (x38,s39,s40,s41,s42,i43,i44,i45,i46,s47)))
theorem qX(i13:Int)(s16:Sl (Sl Int))(n24:Nat):∀s,cN (jV i13 s16 n24 s) (eV i13 s16 n24 s):=by
 intro s;unfold jV eV
 repeat' first
  |with_reducible apply qY
  |with_reducible refine cN.loop (fun _=>?_) _ _
  |with_reducible refine cN.cond ?_ ?_
  |with_reducible refine cN.bind ?_ (fun _=>?_)
  |(split<;>try dsimp only)
  |with_reducible exact cN.refl _
def jU(x_0_now:Sl (Sl Int)):(Int×af×Sl (Sl Int)×Sl (Sl Int)×Sl ah×Sl aj×Int×Int×Int×Int×Sl ak)->Option ((Int×af×Sl (Sl Int)×Sl (Sl Int)×Sl ah×Sl aj×Int×Int×Int×Int×Sl ak)⊕(af×Sl (Sl Int)×Sl (Sl Int)×Sl ah×Sl aj×Int×Int×Int×Int×Sl ak)):=fun(i13,x14,s15,s16,s17,s18,i19,i20,i21,i22,s23)=>
 bif decide (i13<(x_0_now.l.length:Int))then((df i13 s16.l.length).bind fun n24=>
 (hC 100000 (jV i13 s16 n24) (0,x14,s15,s16,s17,s18,i19,i20,i21,i22,s23)).bind fun(x70,s71,s72,s73,s74,i75,i76,i77,i78,s79)=>
 some (.inl (wr .i64 (i13+1),x70,s71,s72,s73,s74,i75,i76,i77,i78,s79)))else
 (some (.inr (x14,s15,s16,s17,s18,i19,i20,i21,i22,s23)))
theorem qW(x_0_now:Sl (Sl Int)):∀s,cN (jU x_0_now s) (eU x_0_now s):=by
 intro s;unfold jU eU
 repeat' first
  |with_reducible apply qX
  |with_reducible refine cN.loop (fun _=>?_) _ _
  |with_reducible refine cN.cond ?_ ?_
  |with_reducible refine cN.bind ?_ (fun _=>?_)
  |(split<;>try dsimp only)
  |with_reducible exact cN.refl _
def jT(s83:Sl ah):(Int×af×Sl (Sl Int)×Sl (Sl Int)×Sl ah×Sl aj×Int×Int×Int×Int×Sl ak)->Option ((Int×af×Sl (Sl Int)×Sl (Sl Int)×Sl ah×Sl aj×Int×Int×Int×Int×Sl ak)⊕(af×Sl (Sl Int)×Sl (Sl Int)×Sl ah×Sl aj×Int×Int×Int×Int×Sl ak)):=fun(i102,x103,s104,s105,s106,s107,i108,i109,i110,i111,s112)=>
 bif decide (i102<(s83.l.length:Int))then((df i102 s83.l.length).bind fun n113=>
 ((fx (⟨x103,s104,s105,(⟨s106,s107,i108,i109,i110,i111⟩:am),s112⟩:bH) (gt s83.l n113)).bind fun r114=>
 bif(!r114)then((bP x103 s104 s105 s106 s107 i108 i109 i110 i111 s112 true 3 i102 (ah.jF (gt s83.l n113))).bind fun(q115,q116,q117,q118,q119,q120,q121,q122,q123,s124)=>
 some (q115,q116,q117,q118,q119,q120,q121,q122,q123,s124))else
 ((df (ah.Sw (gt s83.l n113)) s105.l.length).bind fun n125=>
 (df (ah.jF (gt s83.l n113)) ((gt s105.l n125).l).length).bind fun n126=>
 bif((gt ((gt s105.l n125).l) n126) !=(ah.h_ (gt s83.l n113)))then((bP x103 s104 s105 s106 s107 i108 i109 i110 i111 s112 true 3 i102 (ah.jF (gt s83.l n113))).bind fun(q127,q128,q129,q130,q131,q132,q133,q134,q135,s136)=>
 some (q127,q128,q129,q130,q131,q132,q133,q134,q135,s136))else
 ((df (ah.Sw (gt s83.l n113)) s104.l.length).bind fun n137=>
 (df (ah.jF (gt s83.l n113)) ((gt s104.l n137).l).length).bind fun n138=>
 bif((gt ((gt s104.l n137).l) n138)==(ah.h_ (gt s83.l n113)))then((bP x103 s104 s105 s106 s107 i108 i109 i110 i111 s112 true 3 i102 (ah.jF (gt s83.l n113))).bind fun(q139,q140,q141,q142,q143,q144,q145,q146,q147,s148)=>
 some (q139,q140,q141,q142,q143,q144,q145,q146,q147,s148))else
 ((jI (⟨x103,s104,s105,(⟨s106,s107,i108,i109,i110,i111⟩:am),s112⟩:bH) (gt s83.l n113)).bind fun r149=>
 (bP x103 s104 s105 s106 s107 i108 i109 i110 i111 s112 (!r149) 3 i102 (ah.jF (gt s83.l n113))).bind fun(q150,q151,q152,q153,q154,q155,q156,q157,q158,s159)=>
 some (q150,q151,q152,q153,q154,q155,q156,q157,q158,s159)))):Option (af×Sl (Sl Int)×Sl (Sl Int)×Sl ah×Sl aj×Int×Int×Int×Int×Sl ak)).bind fun(x160,s161,s162,s163,s164,i165,i166,i167,i168,s169)=>
 some (.inl (wr .i64 (i102+1),x160,s161,s162,s163,s164,i165,i166,i167,i168,s169)))else
 (some (.inr (x103,s104,s105,s106,s107,i108,i109,i110,i111,s112)))
theorem qV(s83:Sl ah):∀s,cN (jT s83 s) (eT s83 s):=by
 intro s;unfold jT eT
 repeat' first
  |with_reducible apply oT
  |with_reducible refine cN.cond ?_ ?_
  |with_reducible refine cN.bind ?_ (fun _=>?_)
  |(split<;>try dsimp only)
  |with_reducible exact cN.refl _
def lr(x_0_t:af)(x_0_old:Sl (Sl Int))(x_0_now:Sl (Sl Int))(x_0_p_Moves:Sl ah)(x_0_p_Rounds:Sl aj)(x_0_p_Miss:Int)(x_0_p_Life:Int)(x_0_p_From:Int)(x_0_p_To:Int)(x_0_out:Sl ak):Option (af×Sl (Sl Int)×Sl (Sl Int)×Sl ah×Sl aj×Int×Int×Int×Int×Sl ak):=
 (hC 100000 (jU x_0_now) (0,x_0_t,x_0_old,x_0_now,x_0_p_Moves,x_0_p_Rounds,x_0_p_Miss,x_0_p_Life,x_0_p_From,x_0_p_To,x_0_out)).bind fun(x80,s81,s82,s83,s84,i85,i86,i87,i88,s89)=>
 (hC 100000 (jT s83) (0,x80,s81,s82,s83,s84,i85,i86,i87,i88,s89)).bind fun(x170,s171,s172,s173,s174,i175,i176,i177,i178,s179)=>
 some (x170,s171,s172,s173,s174,i175,i176,i177,i178,s179)
theorem sU(x_0_t:af)(x_0_old:Sl (Sl Int))(x_0_now:Sl (Sl Int))(x_0_p_Moves:Sl ah)(x_0_p_Rounds:Sl aj)(x_0_p_Miss:Int)(x_0_p_Life:Int)(x_0_p_From:Int)(x_0_p_To:Int)(x_0_out:Sl ak):cN (lr x_0_t x_0_old x_0_now x_0_p_Moves x_0_p_Rounds x_0_p_Miss x_0_p_Life x_0_p_From x_0_p_To x_0_out) (fW x_0_t x_0_old x_0_now x_0_p_Moves x_0_p_Rounds x_0_p_Miss x_0_p_Life x_0_p_From x_0_p_To x_0_out):=by
 unfold lr fW
 repeat' first
  |with_reducible apply qW
  |with_reducible apply qV
  |with_reducible refine cN.loop (fun _=>?_) _ _
  |with_reducible refine cN.bind ?_ (fun _=>?_)
  |(split<;>try dsimp only)
  |with_reducible exact cN.refl _
def pR(t_0:af):Option Int:=
 (hC 100000 (ji t_0) (0,0)).bind fun i6=>
 some i6
theorem xH(t_0:af):cN (pR t_0) (lG t_0):=by
 unfold pR lG
 repeat' first
  |with_reducible refine cN.loop (fun _=>?_) _ _
  |with_reducible refine cN.bind ?_ (fun _=>?_)
  |(split<;>try dsimp only)
  |with_reducible exact cN.refl _
def tw(t_0:af):Option Int:=
 (pR t_0).bind fun r1=>
 some (wr .i64 ((af.aU t_0)*r1))
theorem BW(t_0:af):cN (tw t_0) (pL t_0):=by
 unfold tw pL
 repeat' first
  |with_reducible apply xH
  |with_reducible refine cN.bind ?_ (fun _=>?_)
  |(split<;>try dsimp only)
  |with_reducible exact cN.refl _
def u5(t_0:af)(miss_1:Int):Option Int:=
 (tw t_0).bind fun r1=>
 some (wr .i64 ((wr .i64 ((wr .i64 (2*miss_1))+r1))+1))
theorem Dm(t_0:af)(miss_1:Int):cN (u5 t_0 miss_1) (pZ t_0 miss_1):=by
 unfold u5 pZ
 repeat' first
  |with_reducible apply BW
  |with_reducible refine cN.bind ?_ (fun _=>?_)
  |(split<;>try dsimp only)
  |with_reducible exact cN.refl _
def lq(x_0_t:af)(x_0_old:Sl (Sl Int))(x_0_now:Sl (Sl Int))(x_0_p_Moves:Sl ah)(x_0_p_Rounds:Sl aj)(x_0_p_Miss:Int)(x_0_p_Life:Int)(x_0_p_From:Int)(x_0_p_To:Int)(x_0_out:Sl ak):Option (af×Sl (Sl Int)×Sl (Sl Int)×Sl ah×Sl aj×Int×Int×Int×Int×Sl ak):=
 (u5 x_0_t (if 1048576<(if 0>x_0_p_Miss then 0 else x_0_p_Miss)then 1048576 else(if 0>x_0_p_Miss then 0 else x_0_p_Miss))).bind fun r1=>
 (hC 100000 (dT r1) (1,x_0_t,x_0_old,x_0_now,x_0_p_Moves,x_0_p_Rounds,x_0_p_Miss,x_0_p_Life,x_0_p_From,x_0_p_To,x_0_out)).bind fun(x39,s40,s41,s42,s43,i44,i45,i46,i47,s48)=>
 some (x39,s40,s41,s42,s43,i44,i45,i46,i47,s48)
theorem sT(x_0_t:af)(x_0_old:Sl (Sl Int))(x_0_now:Sl (Sl Int))(x_0_p_Moves:Sl ah)(x_0_p_Rounds:Sl aj)(x_0_p_Miss:Int)(x_0_p_Life:Int)(x_0_p_From:Int)(x_0_p_To:Int)(x_0_out:Sl ak):cN (lq x_0_t x_0_old x_0_now x_0_p_Moves x_0_p_Rounds x_0_p_Miss x_0_p_Life x_0_p_From x_0_p_To x_0_out) (fV x_0_t x_0_old x_0_now x_0_p_Moves x_0_p_Rounds x_0_p_Miss x_0_p_Life x_0_p_From x_0_p_To x_0_out):=by
 unfold lq fV
 repeat' first
  |with_reducible apply Dm
  |with_reducible refine cN.loop (fun _=>?_) _ _
  |with_reducible refine cN.bind ?_ (fun _=>?_)
  |(split<;>try dsimp only)
  |with_reducible exact cN.refl _
def q_(n_0:Int)(l_1:Sl aS):Option Bool:=
 bif((decide (n_0<0))||(decide (n_0>16)))then(some false)else
 ((hC 100000 (jX n_0 l_1) 0).bind fun
 |.inl b4=>(some b4)
 |.inr _=>(some true))
theorem zp(n_0:Int)(l_1:Sl aS):cN (q_ n_0 l_1) (lu n_0 l_1):=by
 unfold q_ lu
 repeat' first
  |with_reducible refine cN.loop (fun _=>?_) _ _
  |with_reducible refine cN.cond ?_ ?_
  |with_reducible refine cN.bind ?_ (fun _=>?_)
  |(split<;>try dsimp only)
  |with_reducible exact cN.refl _
def pd(l_1:Sl aS):(Int×Sl Int)->Option ((Int×Sl Int)⊕(Sl Int)):=fun(i5,s6)=>
 bif decide (i5<(l_1.l.length:Int))then((df i5 l_1.l.length).bind fun n7=>
 (df (aS.mV (gt l_1.l n7)) s6.l.length).bind fun n8=>
 (yB .u16 1 (aS.To (gt l_1.l n7))).bind fun i9=>
 (df (aS.mV (gt l_1.l n7)) s6.l.length).bind fun n10=>
 some (.inl (wr .i64 (i5+1),(Sl.mk (s6.l.set n10 (NB .u16 (gt s6.l n8) i9))))))else
 (some (.inr s6))
theorem wP(l_1:Sl aS):∀s,cN (pd l_1 s) (kJ l_1 s):=by
 intro s;unfold pd kJ;rw[Co]
 repeat' first
  |with_reducible refine cN.cond ?_ ?_
  |with_reducible refine cN.bind ?_ (fun _=>?_)
  |(split<;>try dsimp only)
  |with_reducible exact cN.refl _
def sA(n_0:Int)(l_1:Sl aS):Option (Sl Int):=
 (CE 0 n_0 n_0).bind fun l1=>
 (hC 100000 (pd l_1) (0,(Sl.mk l1))).bind fun s11=>
 some s11
theorem Al(n_0:Int)(l_1:Sl aS):cN (sA n_0 l_1) (nZ n_0 l_1):=by
 unfold sA nZ
 repeat' first
  |with_reducible apply wP
  |with_reducible refine cN.loop (fun _=>?_) _ _
  |with_reducible refine cN.bind ?_ (fun _=>?_)
  |(split<;>try dsimp only)
  |with_reducible exact cN.refl _
def gb(x_0:Int):Option Int:=
 bif(x_0==0)then(some 16)else
 ((df (Je .u32 (wr .u32 ((wr .u32 (Hr .u16 x_0 (wr .u16 (0-x_0))))*125613361)) 27) 32).bind fun n1=>
 some (wr .i64 (gt Ml.1 n1)))
theorem kz(x_0:Int):cN (gb x_0) (dJ x_0):=by
 unfold gb dJ;rw[ye]
 repeat' first
  |with_reducible refine cN.cond ?_ ?_
  |with_reducible refine cN.bind ?_ (fun _=>?_)
  |(split<;>try dsimp only)
  |with_reducible exact cN.refl _
def pf:(Int×Sl Int)->Option ((Int×Sl Int)⊕(Sl Int)):=fun(i4,s5)=>
 bif(i4 !=0)then((gb i4).bind fun r6=>
 (fF (s5.l++[r6])).bind fun l7=>
 some (.inl (Hr .u16 i4 (wr .u16 (i4-1)),(Sl.mk l7))))else
 (some (.inr s5))
theorem wQ:∀s,cN (pf s) (kK s):=by
 intro s;unfold pf kK;rw[ye]
 repeat' first
  |with_reducible apply kz
  |with_reducible refine cN.cond ?_ ?_
  |with_reducible refine cN.bind ?_ (fun _=>?_)
  |(split<;>try dsimp only)
  |with_reducible exact cN.refl _
def sB(set_0:Int):Option (Sl Int):=
 (hC 100000 (pf) (set_0,Sl.nil)).bind fun s8=>
 some s8
theorem Am(set_0:Int):cN (sB set_0) (n_ set_0):=by
 unfold sB n_
 repeat' first
  |with_reducible apply wQ
  |with_reducible refine cN.loop (fun _=>?_) _ _
  |with_reducible refine cN.bind ?_ (fun _=>?_)
  |(split<;>try dsimp only)
  |with_reducible exact cN.refl _
def o_(to_0:Sl Int)(r1:Sl Int):(Int×Int)->Option ((Int×Int)⊕Int):=fun(i4,i5)=>
 bif decide (i5<(r1.l.length:Int))then((df i5 r1.l.length).bind fun n6=>
 (df (gt r1.l n6) to_0.l.length).bind fun n7=>
 some (.inl (NB .u16 i4 (gt to_0.l n7),wr .i64 (i5+1))))else
 (some (.inr i4))
theorem wO(to_0:Sl Int)(r1:Sl Int):∀s,cN (o_ to_0 r1 s) (kI to_0 r1 s):=by
 intro s;unfold o_ kI;rw[Co]
 repeat' first
  |with_reducible refine cN.cond ?_ ?_
  |with_reducible refine cN.bind ?_ (fun _=>?_)
  |(split<;>try dsimp only)
  |with_reducible exact cN.refl _
def sy(to_0:Sl Int)(set_1:Int):Option Int:=
 (sB set_1).bind fun r1=>
 (hC 100000 (o_ to_0 r1) (0,0)).bind fun i8=>
 some i8
theorem Ak(to_0:Sl Int)(set_1:Int):cN (sy to_0 set_1) (nY to_0 set_1):=by
 unfold sy nY
 repeat' first
  |with_reducible apply Am
  |with_reducible apply wO
  |with_reducible refine cN.loop (fun _=>?_) _ _
  |with_reducible refine cN.bind ?_ (fun _=>?_)
  |(split<;>try dsimp only)
  |with_reducible exact cN.refl _
def oc(r2:Sl Int):(Int×Sl Int)->Option ((Int×Sl Int)⊕(Bool⊕(Sl Int))):=fun(i7,s8)=>
 bif(i7 !=0)then((sy r2 i7).bind fun r9=>
 bif((tV .u16 i7 r9)==0)then(some (.inr (.inl false)))else
 ((gb (tV .u16 i7 r9)).bind fun r10=>
 (fF (s8.l++[r10])).bind fun l11=>
 (yB .u16 1 r10).bind fun i12=>
 some (.inl (tV .u16 i7 i12,(Sl.mk l11)))))else
 (some (.inr (.inr s8)))
theorem vW(r2:Sl Int):∀s,cN (oc r2 s) (iV r2 s):=by
 intro s;unfold oc iV;rw[vi]
 repeat' first
  |with_reducible apply Ak
  |with_reducible apply kz
  |with_reducible refine cN.cond ?_ ?_
  |with_reducible refine cN.bind ?_ (fun _=>?_)
  |(split<;>try dsimp only)
  |with_reducible exact cN.refl _
def ra(n_0:Int)(l_1:Sl aS):Option (Sl Int×Bool):=
 (q_ n_0 l_1).bind fun r1=>
 bif(!r1)then(some (Sl.nil,false))else
 ((sA n_0 l_1).bind fun r2=>
 (yB .u16 1 n_0).bind fun i3=>
 (hC 100000 (oc r2) (wr .u16 (i3-1),Sl.nil)).bind fun
 |.inl b13=>(some (Sl.nil,b13))
 |.inr s14=>(some (s14,true)))
theorem zq(n_0:Int)(l_1:Sl aS):cN (ra n_0 l_1) (iH n_0 l_1):=by
 unfold ra iH
 repeat' first
  |with_reducible apply zp
  |with_reducible apply Al
  |with_reducible apply vW
  |with_reducible refine cN.loop (fun _=>?_) _ _
  |with_reducible refine cN.cond ?_ ?_
  |with_reducible refine cN.bind ?_ (fun _=>?_)
  |(split<;>try dsimp only)
  |with_reducible exact cN.refl _
def ki(x_0_t:af)(ports_1:Sl (Sl Int))(h_3:Int)(i7:Int)(n9:Nat):(Bool×Int×Sl aS)->Option ((Bool×Int×Sl aS)⊕(Bool×Sl aS)):=fun(b13,i14,s15)=>
 bif decide (i14<(((gt ports_1.l n9).l).length:Int))then(((df i14 ((gt ports_1.l n9).l).length).bind fun n16=>
 (qA x_0_t i7 (gt ((gt ports_1.l n9).l) n16)).bind fun(r17,r18,r19,r20)=>
 bif r20 then((fF (s15.l++[(⟨i7,r17⟩:aS)])).bind fun l21=>
 some (b13,(Sl.mk l21)))else
 ((df h_3 ((af.aN x_0_t).l).length).bind fun n22=>
 bif(!(decide ((gt ((af.aN x_0_t).l) n22)=(⟨i7,gt ((gt ports_1.l n9).l) n16⟩:cW))))then(some (true,s15))else
 (some (b13,s15))):Option (Bool×Sl aS)).bind fun(b23,s24)=>
 some (.inl (b23,wr .i64 (i14+1),s24)))else
 (some (.inr (b13,s15)))
theorem rz(x_0_t:af)(ports_1:Sl (Sl Int))(h_3:Int)(i7:Int)(n9:Nat):∀s,cN (ki x_0_t ports_1 h_3 i7 n9 s) (ez x_0_t ports_1 h_3 i7 n9 s):=by
 intro s;unfold ki ez
 repeat' first
  |with_reducible apply vr
  |with_reducible refine cN.cond ?_ ?_
  |with_reducible refine cN.bind ?_ (fun _=>?_)
  |(split<;>try dsimp only)
  |with_reducible exact cN.refl _
def kh(x_0_t:af)(ports_1:Sl (Sl Int))(h_3:Int):(Bool×Int×Sl aS)->Option ((Bool×Int×Sl aS)⊕(Bool×Sl aS)):=fun(b6,i7,s8)=>
 bif decide (i7<(ports_1.l.length:Int))then((df i7 ports_1.l.length).bind fun n9=>
 (hC 100000 (ki x_0_t ports_1 h_3 i7 n9) (b6,0,s8)).bind fun(b25,s26)=>
 some (.inl (b25,wr .i64 (i7+1),s26)))else
 (some (.inr (b6,s8)))
theorem ry(x_0_t:af)(ports_1:Sl (Sl Int))(h_3:Int):∀s,cN (kh x_0_t ports_1 h_3 s) (fm x_0_t ports_1 h_3 s):=by
 intro s;unfold kh fm
 repeat' first
  |with_reducible apply rz
  |with_reducible refine cN.loop (fun _=>?_) _ _
  |with_reducible refine cN.cond ?_ ?_
  |with_reducible refine cN.bind ?_ (fun _=>?_)
  |(split<;>try dsimp only)
  |with_reducible exact cN.refl _
def lR(x_0_t:af)(x_0_old:Sl (Sl Int))(x_0_now:Sl (Sl Int))(x_0_p_Moves:Sl ah)(x_0_p_Rounds:Sl aj)(x_0_p_Miss:Int)(x_0_p_Life:Int)(x_0_p_From:Int)(x_0_p_To:Int)(x_0_out:Sl ak)(ports_1:Sl (Sl Int))(k_2:Int)(h_3:Int):Option (af×Sl (Sl Int)×Sl (Sl Int)×Sl ah×Sl aj×Int×Int×Int×Int×Sl ak):=
 (hC 100000 (kh x_0_t ports_1 h_3) (false,0,Sl.nil)).bind fun(b27,s28)=>
 (ra (af.aU x_0_t) s28).bind fun(r29,r30)=>
 (bP x_0_t x_0_old x_0_now x_0_p_Moves x_0_p_Rounds x_0_p_Miss x_0_p_Life x_0_p_From x_0_p_To x_0_out b27 5 k_2 h_3).bind fun(q31,q32,q33,q34,q35,q36,q37,q38,q39,s40)=>
 (bP q31 q32 q33 q34 q35 q36 q37 q38 q39 s40 (!r30) 6 k_2 h_3).bind fun(q41,q42,q43,q44,q45,q46,q47,q48,q49,s50)=>
 some (q41,q42,q43,q44,q45,q46,q47,q48,q49,s50)
theorem tJ(x_0_t:af)(x_0_old:Sl (Sl Int))(x_0_now:Sl (Sl Int))(x_0_p_Moves:Sl ah)(x_0_p_Rounds:Sl aj)(x_0_p_Miss:Int)(x_0_p_Life:Int)(x_0_p_From:Int)(x_0_p_To:Int)(x_0_out:Sl ak)(ports_1:Sl (Sl Int))(k_2:Int)(h_3:Int):cN (lR x_0_t x_0_old x_0_now x_0_p_Moves x_0_p_Rounds x_0_p_Miss x_0_p_Life x_0_p_From x_0_p_To x_0_out ports_1 k_2 h_3) (ia x_0_t x_0_old x_0_now x_0_p_Moves x_0_p_Rounds x_0_p_Miss x_0_p_Life x_0_p_From x_0_p_To x_0_out ports_1 k_2 h_3):=by
 unfold lR ia
 repeat' first
  |with_reducible apply ry
  |with_reducible apply zq
  |with_reducible refine cN.loop (fun _=>?_) _ _
  |with_reducible refine cN.bind ?_ (fun _=>?_)
  |(split<;>try dsimp only)
  |with_reducible exact cN.refl _
def jC(x_0_p_Rounds:Sl aj)(n36:Nat)(s52:Sl (Sl Int))(s53:Sl (Sl Int))(s61:Sl ak)(s55:Sl aj)(s54:Sl ah)(i50:Int)(x51:af)(i56:Int)(i57:Int)(i58:Int)(i59:Int):(Int×Sl (Sl Int))->Option ((Int×Sl (Sl Int))⊕(Sl (Sl Int))):=fun(i78,s79)=>
 bif decide (i78<(s54.l.length:Int))then(((df i78 s54.l.length).bind fun n80=>
 (bif((ah.jF (gt s54.l n80))==i50)then((fx (⟨x51,s52,s53,(⟨s54,s55,i56,i57,i58,i59⟩:am),s61⟩:bH) (gt s54.l n80)).bind fun r81=>
 bif r81 then((nh (gt x_0_p_Rounds.l n36) (gt s54.l n80)).bind fun r82=>
 some r82)else
 (some false))else
 (some false):Option Bool).bind fun b83=>
 bif b83 then((df (ah.Sw (gt s54.l n80)) s79.l.length).bind fun n84=>
 (fF (((gt s79.l n84).l)++[ah.h_ (gt s54.l n80)])).bind fun l85=>
 (df (ah.Sw (gt s54.l n80)) s79.l.length).bind fun n86=>
 bif Nat.beq n84 n86 then(some (Sl.mk (s79.l.set n86 (Sl.mk l85))))else(none))else
 (some s79):Option (Sl (Sl Int))).bind fun s87=>
 some (.inl (wr .i64 (i78+1),s87)))else
 (some (.inr s79))
theorem qs(x_0_p_Rounds:Sl aj)(n36:Nat)(s52:Sl (Sl Int))(s53:Sl (Sl Int))(s61:Sl ak)(s55:Sl aj)(s54:Sl ah)(i50:Int)(x51:af)(i56:Int)(i57:Int)(i58:Int)(i59:Int):∀s,cN (jC x_0_p_Rounds n36 s52 s53 s61 s55 s54 i50 x51 i56 i57 i58 i59 s) (eF x_0_p_Rounds n36 s52 s53 s61 s55 s54 i50 x51 i56 i57 i58 i59 s):=by
 intro s;unfold jC eF
 repeat' first
  |with_reducible apply qZ
  |with_reducible refine cN.cond ?_ ?_
  |with_reducible refine cN.bind ?_ (fun _=>?_)
  |(split<;>try dsimp only)
  |with_reducible exact cN.refl _
def jB(x_0_p_Rounds:Sl aj)(n36:Nat)(i24:Int)(x25:af):(Int×af×Sl (Sl Int)×Sl (Sl Int)×Sl ah×Sl aj×Int×Int×Int×Int×Sl (Sl Int)×Sl ak)->Option ((Int×af×Sl (Sl Int)×Sl (Sl Int)×Sl ah×Sl aj×Int×Int×Int×Int×Sl (Sl Int)×Sl ak)⊕(af×Sl (Sl Int)×Sl (Sl Int)×Sl ah×Sl aj×Int×Int×Int×Int×Sl (Sl Int)×Sl ak)):=fun(i50,x51,s52,s53,s54,s55,i56,i57,i58,i59,s60,s61)=>
 bif decide (i50<(((af.aN x25).l).length:Int))then((CE (Sl.nil:Sl Int) (s60.l.length:Int) (s60.l.length:Int)).bind fun l62=>
 (hC 100000 (fC i50 s60) (0,s60,(Sl.mk l62))).bind fun(s73,s74)=>
 (hC 100000 (jC x_0_p_Rounds n36 s52 s53 s61 s55 s54 i50 x51 i56 i57 i58 i59) (0,s74)).bind fun s88=>
 (lR x51 s52 s53 s54 s55 i56 i57 i58 i59 s61 s88 i24 i50).bind fun(q89,q90,q91,q92,q93,q94,q95,q96,q97,s98)=>
 some (.inl (wr .i64 (i50+1),q89,q90,q91,q92,q93,q94,q95,q96,q97,s73,s98)))else
 (some (.inr (x51,s52,s53,s54,s55,i56,i57,i58,i59,s60,s61)))
theorem qr(x_0_p_Rounds:Sl aj)(n36:Nat)(i24:Int)(x25:af):∀s,cN (jB x_0_p_Rounds n36 i24 x25 s) (eE x_0_p_Rounds n36 i24 x25 s):=by
 intro s;unfold jB eE
 repeat' first
  |with_reducible apply qs
  |with_reducible apply tJ
  |with_reducible refine cN.loop (fun _=>?_) _ _
  |with_reducible refine cN.cond ?_ ?_
  |with_reducible refine cN.bind ?_ (fun _=>?_)
  |(split<;>try dsimp only)
  |with_reducible exact cN.refl _
def jA(x_0_p_Rounds:Sl aj)(n36:Nat)(s100:Sl (Sl Int))(s102:Sl ah)(s109:Sl ak)(x99:af)(s101:Sl (Sl Int))(s103:Sl aj)(i104:Int)(i105:Int)(i106:Int)(i107:Int):(Int×Sl (Sl Int))->Option ((Int×Sl (Sl Int))⊕(Sl (Sl Int))):=fun(i113,s114)=>
 bif decide (i113<(s102.l.length:Int))then(((df i113 s102.l.length).bind fun n115=>
 ((fx (⟨x99,s100,s101,(⟨s102,s103,i104,i105,i106,i107⟩:am),s109⟩:bH) (gt s102.l n115)).bind fun r116=>
 bif r116 then((nh (gt x_0_p_Rounds.l n36) (gt s102.l n115)).bind fun r117=>
 some r117)else
 (some false):Option Bool).bind fun b118=>
 bif b118 then((df (ah.Sw (gt s102.l n115)) s114.l.length).bind fun n119=>
 (df (ah.jF (gt s102.l n115)) ((gt s114.l n119).l).length).bind fun n120=>
 some (Sl.mk (s114.l.set n119 (Sl.mk (((gt s114.l n119).l).set n120 (ah.h_ (gt s102.l n115)))))))else
 (some s114):Option (Sl (Sl Int))).bind fun s121=>
 some (.inl (wr .i64 (i113+1),s121)))else
 (some (.inr s114))
theorem qq(x_0_p_Rounds:Sl aj)(n36:Nat)(s100:Sl (Sl Int))(s102:Sl ah)(s109:Sl ak)(x99:af)(s101:Sl (Sl Int))(s103:Sl aj)(i104:Int)(i105:Int)(i106:Int)(i107:Int):∀s,cN (jA x_0_p_Rounds n36 s100 s102 s109 x99 s101 s103 i104 i105 i106 i107 s) (eD x_0_p_Rounds n36 s100 s102 s109 x99 s101 s103 i104 i105 i106 i107 s):=by
 intro s;unfold jA eD
 repeat' first
  |with_reducible apply qZ
  |with_reducible refine cN.cond ?_ ?_
  |with_reducible refine cN.bind ?_ (fun _=>?_)
  |(split<;>try dsimp only)
  |with_reducible exact cN.refl _
def jz(x_0_p_Rounds:Sl aj):(Int×af×Sl (Sl Int)×Sl (Sl Int)×Sl ah×Sl aj×Int×Int×Int×Int×Sl (Sl Int)×Sl ak)->Option ((Int×af×Sl (Sl Int)×Sl (Sl Int)×Sl ah×Sl aj×Int×Int×Int×Int×Sl (Sl Int)×Sl ak)⊕(af×Sl (Sl Int)×Sl (Sl Int)×Sl ah×Sl aj×Int×Int×Int×Int×Sl ak)):=fun(i24,x25,s26,s27,s28,s29,i30,i31,i32,i33,s34,s35)=>
 bif decide (i24<(x_0_p_Rounds.l.length:Int))then((df i24 x_0_p_Rounds.l.length).bind fun n36=>
 (hC 100000 (jB x_0_p_Rounds n36 i24 x25) (0,x25,s26,s27,s28,s29,i30,i31,i32,i33,s34,s35)).bind fun(x99,s100,s101,s102,s103,i104,i105,i106,i107,s108,s109)=>
 (hC 100000 (jA x_0_p_Rounds n36 s100 s102 s109 x99 s101 s103 i104 i105 i106 i107) (0,s108)).bind fun s122=>
 some (.inl (wr .i64 (i24+1),x99,s100,s101,s102,s103,i104,i105,i106,i107,s122,s109)))else
 (some (.inr (x25,s26,s27,s28,s29,i30,i31,i32,i33,s35)))
theorem qp(x_0_p_Rounds:Sl aj):∀s,cN (jz x_0_p_Rounds s) (eC x_0_p_Rounds s):=by
 intro s;unfold jz eC
 repeat' first
  |with_reducible apply qr
  |with_reducible apply qq
  |with_reducible refine cN.loop (fun _=>?_) _ _
  |with_reducible refine cN.cond ?_ ?_
  |with_reducible refine cN.bind ?_ (fun _=>?_)
  |(split<;>try dsimp only)
  |with_reducible exact cN.refl _
def kN(x_0_t:af)(x_0_old:Sl (Sl Int))(x_0_now:Sl (Sl Int))(x_0_p_Moves:Sl ah)(x_0_p_Rounds:Sl aj)(x_0_p_Miss:Int)(x_0_p_Life:Int)(x_0_p_From:Int)(x_0_p_To:Int)(x_0_out:Sl ak):Option (af×Sl (Sl Int)×Sl (Sl Int)×Sl ah×Sl aj×Int×Int×Int×Int×Sl ak):=
 (CE (Sl.nil:Sl Int) (x_0_old.l.length:Int) (x_0_old.l.length:Int)).bind fun l1=>
 (hC 100000 (fD x_0_old) (0,(Sl.mk l1))).bind fun s10=>
 (hC 100000 (jz x_0_p_Rounds) (0,x_0_t,x_0_old,x_0_now,x_0_p_Moves,x_0_p_Rounds,x_0_p_Miss,x_0_p_Life,x_0_p_From,x_0_p_To,s10,x_0_out)).bind fun(x123,s124,s125,s126,s127,i128,i129,i130,i131,s132)=>
 some (x123,s124,s125,s126,s127,i128,i129,i130,i131,s132)
theorem su(x_0_t:af)(x_0_old:Sl (Sl Int))(x_0_now:Sl (Sl Int))(x_0_p_Moves:Sl ah)(x_0_p_Rounds:Sl aj)(x_0_p_Miss:Int)(x_0_p_Life:Int)(x_0_p_From:Int)(x_0_p_To:Int)(x_0_out:Sl ak):cN (kN x_0_t x_0_old x_0_now x_0_p_Moves x_0_p_Rounds x_0_p_Miss x_0_p_Life x_0_p_From x_0_p_To x_0_out) (gA x_0_t x_0_old x_0_now x_0_p_Moves x_0_p_Rounds x_0_p_Miss x_0_p_Life x_0_p_From x_0_p_To x_0_out):=by
 unfold kN gA
 repeat' first
  |with_reducible apply qp
  |with_reducible refine cN.loop (fun _=>?_) _ _
  |with_reducible refine cN.bind ?_ (fun _=>?_)
  |(split<;>try dsimp only)
  |with_reducible exact cN.refl _
def oB(t_0:af)(old_1:Sl (Sl Int))(now_2:Sl (Sl Int))(p_3:bB):Option (Sl ak):=
 ((pz t_0 old_1).bind fun r1=>
 bif(!r1)then(some true)else
 ((pz t_0 now_2).bind fun r2=>
 some (!r2)):Option Bool).bind fun b3=>
 bif b3 then(some (Sl.mk [(⟨1,0,0⟩:ak)]))else
 ((lr t_0 old_1 now_2 (bB.aJ p_3) (bB.az p_3) (bB.j4 p_3) (bB.EK p_3) (bB.mV p_3) (bB.To p_3) Sl.nil).bind fun(q4,q5,q6,q7,q8,q9,q10,q11,q12,s13)=>
 (lq q4 q5 q6 q7 q8 q9 q10 q11 q12 s13).bind fun(q14,q15,q16,q17,q18,q19,q20,q21,q22,s23)=>
 (kN q14 q15 q16 q17 q18 q19 q20 q21 q22 s23).bind fun(q24,q25,q26,q27,q28,q29,q30,q31,q32,s33)=>
 some s33)
theorem zn(t_0:af)(old_1:Sl (Sl Int))(now_2:Sl (Sl Int))(p_3:bB):cN (oB t_0 old_1 now_2 p_3) (iG t_0 old_1 now_2 p_3):=by
 unfold oB iG
 repeat' first
  |with_reducible apply Ac
  |with_reducible apply sU
  |with_reducible apply sT
  |with_reducible apply su
  |with_reducible refine cN.cond ?_ ?_
  |with_reducible refine cN.bind ?_ (fun _=>?_)
  |(split<;>try dsimp only)
  |with_reducible exact cN.refl _
def uE:Option Bool:=
 (oB (⟨3,(Sl.mk [(⟨0,0,1,0,1,1⟩:bi),(⟨1,1,2,0,1,1⟩:bi),(⟨0,1,2,1,1,1⟩:bi)]),(Sl.mk [(⟨2,7⟩:cW)])⟩:af) (Sl.mk [(Sl.mk [0]),(Sl.mk [1]),(Sl.mk [7])]) (Sl.mk [(Sl.mk [1]),(Sl.mk [1]),(Sl.mk [7])]) (⟨Sl.nil,Sl.nil,0,0,0,0⟩:bB)).bind fun r1=>
 (bif((r1.l.length:Int)==1)then((df 0 r1.l.length).bind fun n2=>
 bif decide ((gt r1.l n2)=(⟨2,0,0⟩:ak))then((mC 6).bind fun r3=>
 bif(r3.toList==(⟨#[108,111,111,112]⟩:ByteArray).toList)then((oB (⟨0,Sl.nil,Sl.nil⟩:af) Sl.nil Sl.nil (⟨Sl.nil,Sl.nil,0,0,0,0⟩:bB)).bind fun r4=>
 some ((r4.l.length:Int)==1))else
 (some false))else
 (some false))else
 (some false):Option Bool).bind fun b5=>
 some b5
theorem zj:cN (uE) (lm):=by
 unfold uE lm
 repeat' first
  |with_reducible apply zn
  |with_reducible refine cN.cond ?_ ?_
  |with_reducible refine cN.bind ?_ (fun _=>?_)
  |(split<;>try dsimp only)
  |with_reducible exact cN.refl _
theorem rx:lm=some true:=zj _ (by decide+kernel)
end Go.Proofs.YthcplpfiidlinaaDoor.J
