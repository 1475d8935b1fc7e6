/- law21_awake answers true: by running its twin. Conditions: none. -/
import Derived.Test.YtingpmogbibghaaS
import Derived.Test.YtingpmogbibghaaTwin
open Go.Ev Go
noncomputable section
namespace Go.Proofs.Ytingpmogbibghaa.S
def Xi(t_0:aj):Option (Sl bk):=
 (jm 100000 (l6 t_0) (0,Sl.nil)).bind fun s8=>
 (jm 100000 (lZ t_0) (0,s8)).bind fun s15=>
 some s15
theorem XI(t_0:aj):c8 (Xi t_0) (nI t_0):=by
 unfold Xi nI
 repeat' first
  |with_reducible refine c8.loop (fun _=>?_) _ _
  |with_reducible refine c8.bind ?_ (fun _=>?_)
  |(split<;>try dsimp only)
  |with_reducible exact c8.refl _
def Xl(t_0:aj):Option Bool:=
 bif((((decide ((aj.ah t_0)<1))||(decide ((aj.ah t_0)>8)))||(decide ((((aj.aP t_0).l).length:Int)>24)))||(decide ((((aj.bg t_0).l).length:Int)>8)))then(some false)else
 ((jm 100000 (mQ t_0) 0).bind fun
 |.inl b4=>(some b4)
 |.inr _=>((Xi t_0).bind fun r5=>
 (jm 100000 (ji t_0 r5) (0,(Mp.none:Mp bk Int))).bind fun
 |.inl b13=>(some b13)
 |.inr _=>(some true)))
theorem XN(t_0:aj):c8 (Xl t_0) (oP t_0):=by
 unfold Xl oP
 repeat' first
  |with_reducible apply XI
  |with_reducible refine c8.loop (fun _=>?_) _ _
  |with_reducible refine c8.cond ?_ ?_
  |with_reducible refine c8.bind ?_ (fun _=>?_)
  |(split<;>try dsimp only)
  |with_reducible exact c8.refl _
def WQ(s_0:Sl Int)(v_1:Int):Option Int:=
 (jm 100000 (gC s_0 v_1) 0).bind fun
 |.inl i4=>(some i4)
 |.inr _=>(some (-1))
theorem Xk(s_0:Sl Int)(v_1:Int):c8 (WQ s_0 v_1) (iv s_0 v_1):=by
 unfold WQ iv
 repeat' first
  |with_reducible refine c8.loop (fun _=>?_) _ _
  |with_reducible refine c8.bind ?_ (fun _=>?_)
  |(split<;>try dsimp only)
  |with_reducible exact c8.refl _
def WH(s_0:Sl Int)(v_1:Int):Option Bool:=
 (WQ s_0 v_1).bind fun r1=>
 some (decide (r1>=0))
theorem WV(s_0:Sl Int)(v_1:Int):c8 (WH s_0 v_1) (eu s_0 v_1):=by
 unfold WH eu
 repeat' first
  |with_reducible apply Xk
  |with_reducible refine c8.bind ?_ (fun _=>?_)
  |(split<;>try dsimp only)
  |with_reducible exact c8.refl _
def Xn(a_0:Sl Int)(b_1:Sl Int):Option Bool:=
 bif((a_0.l.length:Int) !=(b_1.l.length:Int))then(some false)else
 ((jm 100000 (mZ a_0 b_1) 0).bind fun
 |.inl b5=>(some b5)
 |.inr _=>(some true))
theorem XQ(a_0:Sl Int)(b_1:Sl Int):c8 (Xn a_0 b_1) (oX a_0 b_1):=by
 unfold Xn oX
 repeat' first
  |with_reducible refine c8.loop (fun _=>?_) _ _
  |with_reducible refine c8.cond ?_ ?_
  |with_reducible refine c8.bind ?_ (fun _=>?_)
  |(split<;>try dsimp only)
  |with_reducible exact c8.refl _
def WG(s_0:Sl Int):Option Int:=
 (jm 100000 (WC s_0) 0).bind fun
 |.inl i5=>(some i5)
 |.inr _=>(some (-1))
theorem WS(s_0:Sl Int):c8 (WG s_0) (WE s_0):=by
 unfold WG WE
 repeat' first
  |with_reducible refine c8.loop (fun _=>?_) _ _
  |with_reducible refine c8.bind ?_ (fun _=>?_)
  |(split<;>try dsimp only)
  |with_reducible exact c8.refl _
def WF(s_0:Sl Int):Option Bool:=
 (WG s_0).bind fun r1=>
 some (decide (r1>=0))
theorem WM(s_0:Sl Int):c8 (WF s_0) (WB s_0):=by
 unfold WF WB
 repeat' first
  |with_reducible apply WS
  |with_reducible refine c8.bind ?_ (fun _=>?_)
  |(split<;>try dsimp only)
  |with_reducible exact c8.refl _
def W7(t_0:aj)(r_1:Sl (Sl Int)):Int->Option (Int⊕(Bool⊕Unit)):=fun i3=>
 bif decide (i3<(r_1.l.length:Int))then((cZ i3 r_1.l.length).bind fun n4=>
 (bif((((gt r_1.l n4).l).length:Int) !=(((aj.bg t_0).l).length:Int))then(some true)else
 ((WF (gt r_1.l n4)).bind fun r5=>
 some r5):Option Bool).bind fun b6=>
 bif b6 then(some (.inr (.inl false)))else
 (some (.inl (wr .i64 (i3+1)))))else
 (some (.inr (.inr ())))
theorem Xx(t_0:aj)(r_1:Sl (Sl Int)):∀s,c8 (W7 t_0 r_1 s) (WN t_0 r_1 s):=by
 intro s;unfold W7 WN
 repeat' first
  |with_reducible apply WM
  |with_reducible refine c8.cond ?_ ?_
  |with_reducible refine c8.bind ?_ (fun _=>?_)
  |(split<;>try dsimp only)
  |with_reducible exact c8.refl _
def WZ(t_0:aj)(r_1:Sl (Sl Int)):Option Bool:=
 (Xl t_0).bind fun r1=>
 bif((!r1)||((r_1.l.length:Int) !=(aj.ah t_0)))then(some false)else
 ((jm 100000 (W7 t_0 r_1) 0).bind fun
 |.inl b7=>(some b7)
 |.inr _=>(some true))
theorem Xf(t_0:aj)(r_1:Sl (Sl Int)):c8 (WZ t_0 r_1) (WK t_0 r_1):=by
 unfold WZ WK
 repeat' first
  |with_reducible apply XN
  |with_reducible apply Xx
  |with_reducible refine c8.loop (fun _=>?_) _ _
  |with_reducible refine c8.cond ?_ ?_
  |with_reducible refine c8.bind ?_ (fun _=>?_)
  |(split<;>try dsimp only)
  |with_reducible exact c8.refl _
def W4(l_0:Sl Int):Option Bool:=
 (bif decide ((l_0.l.length:Int)>0)then((o5 l_0.l 0 (wr .i64 ((l_0.l.length:Int)-1))).bind fun l1=>
 (cZ (wr .i64 ((l_0.l.length:Int)-1)) l_0.l.length).bind fun n2=>
 (WH (l_0.to l1) (gt l_0.l n2)).bind fun r3=>
 some r3)else
 (some false):Option Bool).bind fun b4=>
 some b4
theorem Xw(l_0:Sl Int):c8 (W4 l_0) (WI l_0):=by
 unfold W4 WI
 repeat' first
  |with_reducible apply WV
  |with_reducible refine c8.cond ?_ ?_
  |with_reducible refine c8.bind ?_ (fun _=>?_)
  |(split<;>try dsimp only)
  |with_reducible exact c8.refl _
def Xo(t_0:aj)(sw_1:Int)(port_2:Int):Option (Int×Int×Int×Bool):=
 (jm 100000 (W3 t_0 sw_1 port_2) 0).bind fun
 |.inl (i4,i5,i6,b7)=>(some (i4,i5,i6,b7))
 |.inr _=>(some (0,0,0,false))
theorem XU(t_0:aj)(sw_1:Int)(port_2:Int):c8 (Xo t_0 sw_1 port_2) (Xc t_0 sw_1 port_2):=by
 unfold Xo Xc
 repeat' first
  |with_reducible refine c8.loop (fun _=>?_) _ _
  |with_reducible refine c8.bind ?_ (fun _=>?_)
  |(split<;>try dsimp only)
  |with_reducible exact c8.refl _
def Xm(t_0:aj)(r_1:Sl (Sl Int))(sw_2:Int)(h_3:Int):Option (Int×Bool):=
 (W0 r_1 sw_2 h_3).bind fun(r1,r2)=>
 bif(!r2)then(some (0,false))else
 ((Xo t_0 sw_2 r1).bind fun(r3,r4,r5,r6)=>
 some (r3,r6))
theorem XO(t_0:aj)(r_1:Sl (Sl Int))(sw_2:Int)(h_3:Int):c8 (Xm t_0 r_1 sw_2 h_3) (W8 t_0 r_1 sw_2 h_3):=by
 unfold Xm W8
 repeat' first
  |with_reducible apply XU
  |with_reducible refine c8.cond ?_ ?_
  |with_reducible refine c8.bind ?_ (fun _=>?_)
  |(split<;>try dsimp only)
  |with_reducible exact c8.refl _
def W_(t_0:aj)(r_1:Sl (Sl Int))(h_3:Int):(Sl Int)->Option (Sl Int⊕((Int×Sl Int)⊕Unit)):=fun s6=>
 (W4 s6).bind fun r7=>
 bif(!r7)then((cZ (wr .i64 ((s6.l.length:Int)-1)) s6.l.length).bind fun n8=>
 (cZ h_3 ((aj.bg t_0).l).length).bind fun n9=>
 (cZ (gt s6.l n8) r_1.l.length).bind fun n10=>
 (cZ h_3 ((gt r_1.l n10).l).length).bind fun n11=>
 bif decide ((gt ((aj.bg t_0).l) n9)=(⟨gt s6.l n8,gt ((gt r_1.l n10).l) n11⟩:dQ))then(some (.inr (.inl (0,s6))))else
 ((Xm t_0 r_1 (gt s6.l n8) h_3).bind fun(r12,r13)=>
 bif(!r13)then(some (.inr (.inl (13,Sl.nil))))else
 ((m_ (s6.l++[r12])).bind fun l14=>
 some (.inl (Sl.mk l14)))))else
 (some (.inr (.inr ())))
theorem XB(t_0:aj)(r_1:Sl (Sl Int))(h_3:Int):∀s,c8 (W_ t_0 r_1 h_3 s) (WL t_0 r_1 h_3 s):=by
 intro s;unfold W_ WL
 repeat' first
  |with_reducible apply Xw
  |with_reducible apply XO
  |with_reducible refine c8.cond ?_ ?_
  |with_reducible refine c8.bind ?_ (fun _=>?_)
  |(split<;>try dsimp only)
  |with_reducible exact c8.refl _
def W5(t_0:aj)(r_1:Sl (Sl Int))(sw_2:Int)(h_3:Int):Option (Sl Int×Int):=
 (W0 r_1 sw_2 h_3).bind fun(r1,r2)=>
 (bif(!r2)then(some true)else
 ((WZ t_0 r_1).bind fun r3=>
 some (!r3)):Option Bool).bind fun b4=>
 bif b4 then(some (Sl.nil,2))else
 ((jm 100000 (W_ t_0 r_1 h_3) (Sl.mk [sw_2])).bind fun
 |.inl (i15,s16)=>(some (s16,i15))
 |.inr _=>(some (Sl.nil,12)))
theorem Xs(t_0:aj)(r_1:Sl (Sl Int))(sw_2:Int)(h_3:Int):c8 (W5 t_0 r_1 sw_2 h_3) (WW t_0 r_1 sw_2 h_3):=by
 unfold W5 WW
 repeat' first
  |with_reducible apply Xf
  |with_reducible apply XB
  |with_reducible refine c8.loop (fun _=>?_) _ _
  |with_reducible refine c8.cond ?_ ?_
  |with_reducible refine c8.bind ?_ (fun _=>?_)
  |(split<;>try dsimp only)
  |with_reducible exact c8.refl _
def Xg(t_0:aj)(r_1:Sl (Sl Int))(h_2:Int):(Int×Sl Int)->Option ((Int×Sl Int)⊕(Sl Int)):=fun(i5,s6)=>
 bif decide (i5<(r_1.l.length:Int))then((W5 t_0 r_1 i5 h_2).bind fun(r7,r8)=>
 (m_ (s6.l++[wr .i64 ((r7.l.length:Int)-1)])).bind fun l9=>
 some (.inl (wr .i64 (i5+1),(Sl.mk l9))))else
 (some (.inr s6))
theorem XF(t_0:aj)(r_1:Sl (Sl Int))(h_2:Int):∀s,c8 (Xg t_0 r_1 h_2 s) (WR t_0 r_1 h_2 s):=by
 intro s;unfold Xg WR
 repeat' first
  |with_reducible apply Xs
  |with_reducible refine c8.cond ?_ ?_
  |with_reducible refine c8.bind ?_ (fun _=>?_)
  |(split<;>try dsimp only)
  |with_reducible exact c8.refl _
def Xp(t_0:aj)(r_1:Sl (Sl Int))(h_2:Int):Option (Sl Int):=
 (WZ t_0 r_1).bind fun r1=>
 bif(((!r1)||(decide (h_2<0)))||(decide (h_2>=(((aj.bg t_0).l).length:Int))))then(some Sl.nil)else
 ((jm 100000 (Xg t_0 r_1 h_2) (0,Sl.nil)).bind fun s10=>
 some s10)
theorem XV(t_0:aj)(r_1:Sl (Sl Int))(h_2:Int):c8 (Xp t_0 r_1 h_2) (Xd t_0 r_1 h_2):=by
 unfold Xp Xd
 repeat' first
  |with_reducible apply Xf
  |with_reducible apply XF
  |with_reducible refine c8.loop (fun _=>?_) _ _
  |with_reducible refine c8.cond ?_ ?_
  |with_reducible refine c8.bind ?_ (fun _=>?_)
  |(split<;>try dsimp only)
  |with_reducible exact c8.refl _
def Xa(t_0:aj)(r_1:Sl (Sl Int)):Int->Option (Int⊕(Bool⊕Unit)):=fun i3=>
 bif decide (i3<(((aj.bg t_0).l).length:Int))then((Xp t_0 r_1 i3).bind fun r4=>
 (WH r4 (-1)).bind fun r5=>
 bif r5 then(some (.inr (.inl false)))else
 (some (.inl (wr .i64 (i3+1)))))else
 (some (.inr (.inr ())))
theorem XC(t_0:aj)(r_1:Sl (Sl Int)):∀s,c8 (Xa t_0 r_1 s) (WT t_0 r_1 s):=by
 intro s;unfold Xa WT
 repeat' first
  |with_reducible apply XV
  |with_reducible apply WV
  |with_reducible refine c8.cond ?_ ?_
  |with_reducible refine c8.bind ?_ (fun _=>?_)
  |(split<;>try dsimp only)
  |with_reducible exact c8.refl _
def Xb(t_0:aj)(r_1:Sl (Sl Int)):Option Bool:=
 (WZ t_0 r_1).bind fun r1=>
 bif(!r1)then(some false)else
 ((jm 100000 (Xa t_0 r_1) 0).bind fun
 |.inl b6=>(some b6)
 |.inr _=>(some true))
theorem XP(t_0:aj)(r_1:Sl (Sl Int)):c8 (Xb t_0 r_1) (WX t_0 r_1):=by
 unfold Xb WX
 repeat' first
  |with_reducible apply Xf
  |with_reducible apply XC
  |with_reducible refine c8.loop (fun _=>?_) _ _
  |with_reducible refine c8.cond ?_ ?_
  |with_reducible refine c8.bind ?_ (fun _=>?_)
  |(split<;>try dsimp only)
  |with_reducible exact c8.refl _
def Xt:Option Bool:=
 (W5 (⟨2,(Sl.mk [(⟨0,0,1,0,1,1⟩:aX)]),(Sl.mk [(⟨1,5⟩:dQ)])⟩:aj) (Sl.mk [(Sl.mk [0]),(Sl.mk [5])]) 0 0).bind fun(r1,r2)=>
 (W5 (⟨2,(Sl.mk [(⟨0,0,1,0,1,1⟩:aX)]),(Sl.mk [(⟨1,5⟩:dQ)])⟩:aj) (Sl.mk [(Sl.mk [0]),(Sl.mk [0])]) 0 0).bind fun(r3,r4)=>
 (bif(r2==0)then((Xn r1 (Sl.mk [0,1])).bind fun r5=>
 bif(r5&&(r4==12))then((Xb (⟨2,(Sl.mk [(⟨0,0,1,0,1,1⟩:aX)]),(Sl.mk [(⟨1,5⟩:dQ)])⟩:aj) (Sl.mk [(Sl.mk [0]),(Sl.mk [5])])).bind fun r6=>
 bif r6 then((Xb (⟨2,(Sl.mk [(⟨0,0,1,0,1,1⟩:aX)]),(Sl.mk [(⟨1,5⟩:dQ)])⟩:aj) (Sl.mk [(Sl.mk [5]),(Sl.mk [5])])).bind fun r7=>
 some (!r7))else
 (some false))else
 (some false))else
 (some false):Option Bool).bind fun b8=>
 some b8
theorem XL:c8 (Xt) (WP):=by
 unfold Xt WP
 repeat' first
  |with_reducible apply Xs
  |with_reducible apply XQ
  |with_reducible apply XP
  |with_reducible refine c8.cond ?_ ?_
  |with_reducible refine c8.bind ?_ (fun _=>?_)
  |(split<;>try dsimp only)
  |with_reducible exact c8.refl _
theorem XE:WP=some true:=XL _ (by decide+kernel)
end Go.Proofs.Ytingpmogbibghaa.S
