/- law35_awake answers true: by running its twin. Conditions: none. -/
import Derived.Test.YtingpmogbibghaaW
import Derived.Test.YtingpmogbibghaaTwin
open Go.Ev Go
noncomputable section
namespace Go.Proofs.Ytingpmogbibghaa.W
def Sa(t_0:l8):Option (Sl ry):=
 (SA 100000 (Rq t_0) (0,Sl.nil)).bind fun s8=>
 (SA 100000 (Rp t_0) (0,s8)).bind fun s15=>
 some s15
theorem SW(t_0:l8):R7 (Sa t_0) (RI t_0):=by
 unfold Sa RI
 repeat' first
  |with_reducible refine R7.loop (fun _=>?_) _ _
  |with_reducible refine R7.bind ?_ (fun _=>?_)
  |(split<;>try dsimp only)
  |with_reducible exact R7.refl _
def Si(t_0:l8):Option Bool:=
 bif((((decide ((l8.QB t_0)<1))||(decide ((l8.QB t_0)>8)))||(decide ((((l8.qa t_0).l).length:Int)>24)))||(decide ((((l8.Qy t_0).l).length:Int)>8)))then(some false)else
 ((SA 100000 (Rw t_0) 0).bind fun
 |.inl b4=>(some b4)
 |.inr _=>((Sa t_0).bind fun r5=>
 (SA 100000 (QW t_0 r5) (0,(Mp.none:Mp ry Int))).bind fun
 |.inl b13=>(some b13)
 |.inr _=>(some true)))
theorem S7(t_0:l8):R7 (Si t_0) (RS t_0):=by
 unfold Si RS
 repeat' first
  |with_reducible apply SW
  |with_reducible refine R7.loop (fun _=>?_) _ _
  |with_reducible refine R7.cond ?_ ?_
  |with_reducible refine R7.bind ?_ (fun _=>?_)
  |(split<;>try dsimp only)
  |with_reducible exact R7.refl _
def SE(t_0:l8):Option (Int⊕(l8×Sl nn×Int)):=
 (Si t_0).bind fun r1=>
 bif(!r1)then(some (.inl 2))else
 (some (.inr (t_0,Sl.nil,0)))
theorem Tn(t_0:l8):R7 (SE t_0) (R4 t_0):=by
 unfold SE R4
 repeat' first
  |with_reducible apply S7
  |with_reducible refine R7.cond ?_ ?_
  |with_reducible refine R7.bind ?_ (fun _=>?_)
  |(split<;>try dsimp only)
  |with_reducible exact R7.refl _
def So(t_0:l8)(sw_1:Int)(port_2:Int):Option (Int×Int×Int×Bool):=
 (SA 100000 (RK t_0 sw_1 port_2) 0).bind fun
 |.inl (i4,i5,i6,b7)=>(some (i4,i5,i6,b7))
 |.inr _=>(some (0,0,0,false))
theorem Th(t_0:l8)(sw_1:Int)(port_2:Int):R7 (So t_0 sw_1 port_2) (R3 t_0 sw_1 port_2):=by
 unfold So R3
 repeat' first
  |with_reducible refine R7.loop (fun _=>?_) _ _
  |with_reducible refine R7.bind ?_ (fun _=>?_)
  |(split<;>try dsimp only)
  |with_reducible exact R7.refl _
def RQ(w_0_t:l8)(w_0_l:Sl nn)(now_1:Int)(sw_2:Int)(port_3:Int)(id_4:Int)(p_5:Arr 4 Int):Option (Int×l8×Sl nn):=
 (So w_0_t sw_2 port_3).bind fun(r1,r2,r3,r4)=>
 bif(!r4)then(some (7,w_0_t,w_0_l))else
 (bif decide ((w_0_l.l.length:Int)>=256)then(some (6,w_0_t,w_0_l))else
 ((rM r3 ((l8.qa w_0_t).l).length).bind fun n5=>
 (pO (w_0_l.l++[(⟨id_4,r1,r2,p_5,wr .i64 (now_1+(qb.Rl (gt ((l8.qa w_0_t).l) n5))),wr .i64 (now_1+(qb.RX (gt ((l8.qa w_0_t).l) n5)))⟩:nn)])).bind fun l6=>
 some (0,w_0_t,(Sl.mk l6))))
theorem SI(w_0_t:l8)(w_0_l:Sl nn)(now_1:Int)(sw_2:Int)(port_3:Int)(id_4:Int)(p_5:Arr 4 Int):R7 (RQ w_0_t w_0_l now_1 sw_2 port_3 id_4 p_5) (QR w_0_t w_0_l now_1 sw_2 port_3 id_4 p_5):=by
 unfold RQ QR
 repeat' first
  |with_reducible apply Th
  |with_reducible refine R7.cond ?_ ?_
  |with_reducible refine R7.bind ?_ (fun _=>?_)
  |(split<;>try dsimp only)
  |with_reducible exact R7.refl _
def Qx(x_0:Sl nn):Option nn:=
 bif decide ((x_0.l.length:Int)<1)then(none)else
 ((rM 0 x_0.l.length).bind fun n1=>
 (SA 100000 (su x_0) (1,gt x_0.l n1)).bind fun x11=>
 some x11)
theorem Q4(x_0:Sl nn):R7 (Qx x_0) (wi x_0):=by
 unfold Qx wi
 repeat' first
  |with_reducible refine R7.loop (fun _=>?_) _ _
  |with_reducible refine R7.cond ?_ ?_
  |with_reducible refine R7.bind ?_ (fun _=>?_)
  |(split<;>try dsimp only)
  |with_reducible exact R7.refl _
def Ro(w_0:sy):Option Int:=
 (Rf w_0).bind fun r1=>
 bif(r1==0)then(some (-1))else
 ((Qx (sy.l w_0)).bind fun r2=>
 some (nn.QQ r2))
theorem SD(w_0:sy):R7 (Ro w_0) (QM w_0):=by
 unfold Ro QM
 repeat' first
  |with_reducible apply Q4
  |with_reducible refine R7.cond ?_ ?_
  |with_reducible refine R7.bind ?_ (fun _=>?_)
  |(split<;>try dsimp only)
  |with_reducible exact R7.refl _
def SC:Option Bool:=
 (SE (⟨2,(Sl.mk [(⟨0,0,1,3,2,5⟩:qb)]),Sl.nil⟩:l8)).bind fun
 |.inl r1=>((RH 10 0 0 7 (Arr.set (lX (.ar 4 (.i .i64))) 0 1)).bind fun r2=>
 (QT 11 0).bind fun(r3,r4)=>
 (QU).bind fun r5=>
 (QT 12 0).bind fun(r6,r7)=>
 (bif((((((((r1==0)&&(r2==0))&&(r4==15))&&(r5==15))&&(r7==0))&&((nn.Id r6)==7))&&((nn.Sw r6)==1))&&((nn.RP r6)==3))then((Rm).bind fun r8=>
 bif(r8==0)then((QU).bind fun r9=>
 some (r9==(-1)))else
 (some false))else
 (some false):Option Bool).bind fun b10=>
 some b10)
 |.inr (r11,s12,r13)=>((RQ r11 s12 10 0 0 7 (Arr.set (lX (.ar 4 (.i .i64))) 0 1)).bind fun(r14,q15,s16)=>
 (QI q15 s16 11 0).bind fun(r17,r18,q19,s20)=>
 (Ro (⟨q19,s20⟩:sy)).bind fun r21=>
 (QI q19 s20 12 0).bind fun(r22,r23,q24,s25)=>
 (bif((((((((r13==0)&&(r14==0))&&(r18==15))&&(r21==15))&&(r23==0))&&((nn.Id r22)==7))&&((nn.Sw r22)==1))&&((nn.RP r22)==3))then((Rf (⟨q24,s25⟩:sy)).bind fun r26=>
 bif(r26==0)then((Ro (⟨q24,s25⟩:sy)).bind fun r27=>
 some (r27==(-1)))else
 (some false))else
 (some false):Option Bool).bind fun b28=>
 some b28)
theorem SZ:R7 (SC) (Rk):=by
 unfold SC Rk
 repeat' first
  |with_reducible apply Tn
  |with_reducible apply SI
  |with_reducible apply SD
  |with_reducible refine R7.cond ?_ ?_
  |with_reducible refine R7.bind ?_ (fun _=>?_)
  |(split<;>try dsimp only)
  |with_reducible exact R7.refl _
theorem Sd:Rk=some true:=SZ _ (by decide+kernel)
end Go.Proofs.Ytingpmogbibghaa.W
