/- law23_awake answers true: by running its twin. Conditions: none. -/
import Derived.Test.YtpnnnoagjcpmhaaDoorU
import Derived.Test.YtpnnnoagjcpmhaaDoorTwin
import Derived.Test.YtpnnnoagjcpmhaaDoorUQ
open Go.Ev Go
noncomputable section
namespace Go.Proofs.YtpnnnoagjcpmhaaDoor.U
def oI(t_0:ah):Option (Sl a_):=
 (lm 100000 (jD t_0) (0,Sl.nil)).bind fun s8=>
 (lm 100000 (jC t_0) (0,s8)).bind fun s15=>
 some s15
theorem vN(t_0:ah):fU (oI t_0) (kR t_0):=by
 unfold oI kR
 repeat' first
  |with_reducible refine fU.loop (fun _=>?_) _ _
  |with_reducible refine fU.bind ?_ (fun _=>?_)
  |(split<;>try dsimp only)
  |with_reducible exact fU.refl _
def pI(t_0:ah):Option Bool:=
 bif((((decide ((ah.bF t_0)<1))||(decide ((ah.bF t_0)>8)))||(decide ((((ah.aW t_0).l).length:Int)>24)))||(decide ((((ah.aR t_0).l).length:Int)>8)))then(some false)else
 ((lm 100000 (kp t_0) 0).bind fun
 |.inl b4=>(some b4)
 |.inr _=>((oI t_0).bind fun r5=>
 (lm 100000 (gK t_0 r5) (0,(Mp.none:Mp a_ Int))).bind fun
 |.inl b13=>(some b13)
 |.inr _=>(some true)))
theorem xJ(t_0:ah):fU (pI t_0) (lO t_0):=by
 unfold pI lO
 repeat' first
  |with_reducible apply vN
  |with_reducible refine fU.loop (fun _=>?_) _ _
  |with_reducible refine fU.cond ?_ ?_
  |with_reducible refine fU.bind ?_ (fun _=>?_)
  |(split<;>try dsimp only)
  |with_reducible exact fU.refl _
def ez(s_0:Sl Int):Option Int:=
 (lm 100000 (cn s_0) 0).bind fun
 |.inl i5=>(some i5)
 |.inr _=>(some (-1))
theorem jb(s_0:Sl Int):fU (ez s_0) (cI s_0):=by
 unfold ez cI
 repeat' first
  |with_reducible refine fU.loop (fun _=>?_) _ _
  |with_reducible refine fU.bind ?_ (fun _=>?_)
  |(split<;>try dsimp only)
  |with_reducible exact fU.refl _
def dM(s_0:Sl Int):Option Bool:=
 (ez s_0).bind fun r1=>
 some (decide (r1>=0))
theorem iH(s_0:Sl Int):fU (dM s_0) (bN s_0):=by
 unfold dM bN
 repeat' first
  |with_reducible apply jb
  |with_reducible refine fU.bind ?_ (fun _=>?_)
  |(split<;>try dsimp only)
  |with_reducible exact fU.refl _
def lS(t_0:ah)(r_1:Sl (Sl Int)):Int->Option (Int⊕(Bool⊕Unit)):=fun i3=>
 bif decide (i3<(r_1.l.length:Int))then((fD i3 r_1.l.length).bind fun n4=>
 (bif((((gt r_1.l n4).l).length:Int) !=(((ah.aR t_0).l).length:Int))then(some true)else
 ((dM (gt r_1.l n4)).bind fun r5=>
 some r5):Option Bool).bind fun b6=>
 bif b6 then(some (.inr (.inl false)))else
 (some (.inl (wr .i64 (i3+1)))))else
 (some (.inr (.inr ())))
theorem sL(t_0:ah)(r_1:Sl (Sl Int)):∀s,fU (lS t_0 r_1 s) (iJ t_0 r_1 s):=by
 intro s;unfold lS iJ
 repeat' first
  |with_reducible apply iH
  |with_reducible refine fU.cond ?_ ?_
  |with_reducible refine fU.bind ?_ (fun _=>?_)
  |(split<;>try dsimp only)
  |with_reducible exact fU.refl _
def ku(t_0:ah)(r_1:Sl (Sl Int)):Option Bool:=
 (pI t_0).bind fun r1=>
 bif((!r1)||((r_1.l.length:Int) !=(ah.bF t_0)))then(some false)else
 ((lm 100000 (lS t_0 r_1) 0).bind fun
 |.inl b7=>(some b7)
 |.inr _=>(some true))
theorem nA(t_0:ah)(r_1:Sl (Sl Int)):fU (ku t_0 r_1) (gL t_0 r_1):=by
 unfold ku gL
 repeat' first
  |with_reducible apply xJ
  |with_reducible apply sL
  |with_reducible refine fU.loop (fun _=>?_) _ _
  |with_reducible refine fU.cond ?_ ?_
  |with_reducible refine fU.bind ?_ (fun _=>?_)
  |(split<;>try dsimp only)
  |with_reducible exact fU.refl _
def iX(s_0:Sl Int)(v_1:Int):Option Int:=
 (lm 100000 (fh s_0 v_1) 0).bind fun
 |.inl i4=>(some i4)
 |.inr _=>(some (-1))
theorem o6(s_0:Sl Int)(v_1:Int):fU (iX s_0 v_1) (gb s_0 v_1):=by
 unfold iX gb
 repeat' first
  |with_reducible refine fU.loop (fun _=>?_) _ _
  |with_reducible refine fU.bind ?_ (fun _=>?_)
  |(split<;>try dsimp only)
  |with_reducible exact fU.refl _
def fK(s_0:Sl Int)(v_1:Int):Option Bool:=
 (iX s_0 v_1).bind fun r1=>
 some (decide (r1>=0))
theorem jE(s_0:Sl Int)(v_1:Int):fU (fK s_0 v_1) (c8 s_0 v_1):=by
 unfold fK c8
 repeat' first
  |with_reducible apply o6
  |with_reducible refine fU.bind ?_ (fun _=>?_)
  |(split<;>try dsimp only)
  |with_reducible exact fU.refl _
def lh(l_0:Sl Int):Option Bool:=
 (bif decide ((l_0.l.length:Int)>0)then((rF l_0.l 0 (wr .i64 ((l_0.l.length:Int)-1))).bind fun l1=>
 (fD (wr .i64 ((l_0.l.length:Int)-1)) l_0.l.length).bind fun n2=>
 (fK (l_0.to l1) (gt l_0.l n2)).bind fun r3=>
 some r3)else
 (some false):Option Bool).bind fun b4=>
 some b4
theorem sn(l_0:Sl Int):fU (lh l_0) (gp l_0):=by
 unfold lh gp
 repeat' first
  |with_reducible apply jE
  |with_reducible refine fU.cond ?_ ?_
  |with_reducible refine fU.bind ?_ (fun _=>?_)
  |(split<;>try dsimp only)
  |with_reducible exact fU.refl _
def qw(t_0:ah)(sw_1:Int)(port_2:Int):Option (Int×Int×Int×Bool):=
 (lm 100000 (ld t_0 sw_1 port_2) 0).bind fun
 |.inl (i4,i5,i6,b7)=>(some (i4,i5,i6,b7))
 |.inr _=>(some (0,0,0,false))
theorem zn(t_0:ah)(sw_1:Int)(port_2:Int):fU (qw t_0 sw_1 port_2) (ng t_0 sw_1 port_2):=by
 unfold qw ng
 repeat' first
  |with_reducible refine fU.loop (fun _=>?_) _ _
  |with_reducible refine fU.bind ?_ (fun _=>?_)
  |(split<;>try dsimp only)
  |with_reducible exact fU.refl _
def pO(t_0:ah)(r_1:Sl (Sl Int))(sw_2:Int)(h_3:Int):Option (Int×Bool):=
 (kI r_1 sw_2 h_3).bind fun(r1,r2)=>
 bif(!r2)then(some (0,false))else
 ((qw t_0 sw_2 r1).bind fun(r3,r4,r5,r6)=>
 some (r3,r6))
theorem xO(t_0:ah)(r_1:Sl (Sl Int))(sw_2:Int)(h_3:Int):fU (pO t_0 r_1 sw_2 h_3) (lT t_0 r_1 sw_2 h_3):=by
 unfold pO lT
 repeat' first
  |with_reducible apply zn
  |with_reducible refine fU.cond ?_ ?_
  |with_reducible refine fU.bind ?_ (fun _=>?_)
  |(split<;>try dsimp only)
  |with_reducible exact fU.refl _
def mH(t_0:ah)(r_1:Sl (Sl Int))(h_3:Int):(Sl Int)->Option (Sl Int⊕((Int×Sl Int)⊕Unit)):=fun s6=>
 (lh s6).bind fun r7=>
 bif(!r7)then((fD (wr .i64 ((s6.l.length:Int)-1)) s6.l.length).bind fun n8=>
 (fD h_3 ((ah.aR t_0).l).length).bind fun n9=>
 (fD (gt s6.l n8) r_1.l.length).bind fun n10=>
 (fD h_3 ((gt r_1.l n10).l).length).bind fun n11=>
 bif decide ((gt ((ah.aR t_0).l) n9)=(⟨gt s6.l n8,gt ((gt r_1.l n10).l) n11⟩:dl))then(some (.inr (.inl (0,s6))))else
 ((pO t_0 r_1 (gt s6.l n8) h_3).bind fun(r12,r13)=>
 bif(!r13)then(some (.inr (.inl (13,Sl.nil))))else
 ((jT (s6.l++[r12])).bind fun l14=>
 some (.inl (Sl.mk l14)))))else
 (some (.inr (.inr ())))
theorem t7(t_0:ah)(r_1:Sl (Sl Int))(h_3:Int):∀s,fU (mH t_0 r_1 h_3 s) (iz t_0 r_1 h_3 s):=by
 intro s;unfold mH iz
 repeat' first
  |with_reducible apply sn
  |with_reducible apply xO
  |with_reducible refine fU.cond ?_ ?_
  |with_reducible refine fU.bind ?_ (fun _=>?_)
  |(split<;>try dsimp only)
  |with_reducible exact fU.refl _
def pN(t_0:ah)(r_1:Sl (Sl Int))(sw_2:Int)(h_3:Int):Option (Sl Int×Int):=
 (kI r_1 sw_2 h_3).bind fun(r1,r2)=>
 (bif(!r2)then(some true)else
 ((ku t_0 r_1).bind fun r3=>
 some (!r3)):Option Bool).bind fun b4=>
 bif b4 then(some (Sl.nil,2))else
 ((lm 100000 (mH t_0 r_1 h_3) (Sl.mk [sw_2])).bind fun
 |.inl (i15,s16)=>(some (s16,i15))
 |.inr _=>(some (Sl.nil,12)))
theorem xN(t_0:ah)(r_1:Sl (Sl Int))(sw_2:Int)(h_3:Int):fU (pN t_0 r_1 sw_2 h_3) (lR t_0 r_1 sw_2 h_3):=by
 unfold pN lR
 repeat' first
  |with_reducible apply nA
  |with_reducible apply t7
  |with_reducible refine fU.loop (fun _=>?_) _ _
  |with_reducible refine fU.cond ?_ ?_
  |with_reducible refine fU.bind ?_ (fun _=>?_)
  |(split<;>try dsimp only)
  |with_reducible exact fU.refl _
def nB(t_0:ah)(r_1:Sl (Sl Int))(h_2:Int):(Int×Sl Int)->Option ((Int×Sl Int)⊕(Sl Int)):=fun(i5,s6)=>
 bif decide (i5<(r_1.l.length:Int))then((pN t_0 r_1 i5 h_2).bind fun(r7,r8)=>
 (jT (s6.l++[wr .i64 ((r7.l.length:Int)-1)])).bind fun l9=>
 some (.inl (wr .i64 (i5+1),(Sl.mk l9))))else
 (some (.inr s6))
theorem u7(t_0:ah)(r_1:Sl (Sl Int))(h_2:Int):∀s,fU (nB t_0 r_1 h_2 s) (iY t_0 r_1 h_2 s):=by
 intro s;unfold nB iY
 repeat' first
  |with_reducible apply xN
  |with_reducible refine fU.cond ?_ ?_
  |with_reducible refine fU.bind ?_ (fun _=>?_)
  |(split<;>try dsimp only)
  |with_reducible exact fU.refl _
def oh(t_0:ah)(r_1:Sl (Sl Int))(h_2:Int):Option (Sl Int):=
 (ku t_0 r_1).bind fun r1=>
 bif(((!r1)||(decide (h_2<0)))||(decide (h_2>=(((ah.aR t_0).l).length:Int))))then(some Sl.nil)else
 ((lm 100000 (nB t_0 r_1 h_2) (0,Sl.nil)).bind fun s10=>
 some s10)
theorem sM(t_0:ah)(r_1:Sl (Sl Int))(h_2:Int):fU (oh t_0 r_1 h_2) (lU t_0 r_1 h_2):=by
 unfold oh lU
 repeat' first
  |with_reducible apply nA
  |with_reducible apply u7
  |with_reducible refine fU.loop (fun _=>?_) _ _
  |with_reducible refine fU.cond ?_ ?_
  |with_reducible refine fU.bind ?_ (fun _=>?_)
  |(split<;>try dsimp only)
  |with_reducible exact fU.refl _
def mI(t_0:ah)(r_1:Sl (Sl Int)):Int->Option (Int⊕(Bool⊕Unit)):=fun i3=>
 bif decide (i3<(((ah.aR t_0).l).length:Int))then((oh t_0 r_1 i3).bind fun r4=>
 (fK r4 (-1)).bind fun r5=>
 bif r5 then(some (.inr (.inl false)))else
 (some (.inl (wr .i64 (i3+1)))))else
 (some (.inr (.inr ())))
theorem t8(t_0:ah)(r_1:Sl (Sl Int)):∀s,fU (mI t_0 r_1 s) (jj t_0 r_1 s):=by
 intro s;unfold mI jj
 repeat' first
  |with_reducible apply sM
  |with_reducible apply jE
  |with_reducible refine fU.cond ?_ ?_
  |with_reducible refine fU.bind ?_ (fun _=>?_)
  |(split<;>try dsimp only)
  |with_reducible exact fU.refl _
def mX(t_0:ah)(r_1:Sl (Sl Int)):Option Bool:=
 (ku t_0 r_1).bind fun r1=>
 bif(!r1)then(some false)else
 ((lm 100000 (mI t_0 r_1) 0).bind fun
 |.inl b6=>(some b6)
 |.inr _=>(some true))
theorem xP(t_0:ah)(r_1:Sl (Sl Int)):fU (mX t_0 r_1) (kJ t_0 r_1):=by
 unfold mX kJ
 repeat' first
  |with_reducible apply nA
  |with_reducible apply t8
  |with_reducible refine fU.loop (fun _=>?_) _ _
  |with_reducible refine fU.cond ?_ ?_
  |with_reducible refine fU.bind ?_ (fun _=>?_)
  |(split<;>try dsimp only)
  |with_reducible exact fU.refl _
def lX(t_0:ah)(old_1:Sl (Sl Int))(now_2:Sl (Sl Int)):(Int×Sl ap)->Option ((Int×Sl ap)⊕(Sl ap)):=fun(i7,s8)=>
 bif decide (i7<(((ah.aR t_0).l).length:Int))then((oh t_0 now_2 i7).bind fun r9=>
 (lm 100000 (gU old_1 now_2 i7 r9) (0,s8)).bind fun s23=>
 some (.inl (wr .i64 (i7+1),s23)))else
 (some (.inr s8))
theorem tj(t_0:ah)(old_1:Sl (Sl Int))(now_2:Sl (Sl Int)):∀s,fU (lX t_0 old_1 now_2 s) (iM t_0 old_1 now_2 s):=by
 intro s;unfold lX iM
 repeat' first
  |with_reducible apply sM
  |with_reducible refine fU.loop (fun _=>?_) _ _
  |with_reducible refine fU.cond ?_ ?_
  |with_reducible refine fU.bind ?_ (fun _=>?_)
  |(split<;>try dsimp only)
  |with_reducible exact fU.refl _
def oP(t_0:ah)(old_1:Sl (Sl Int))(now_2:Sl (Sl Int)):Option (Sl ap×Int):=
 ((mX t_0 old_1).bind fun r1=>
 bif(!r1)then(some true)else
 ((mX t_0 now_2).bind fun r2=>
 some (!r2)):Option Bool).bind fun b3=>
 bif b3 then(some (Sl.nil,2))else
 ((lm 100000 (lX t_0 old_1 now_2) (0,Sl.nil)).bind fun s24=>
 (qz s24).bind fun s25=>
 (su s25 s24).bind fun _=>
 some (s25,0))
theorem wK(t_0:ah)(old_1:Sl (Sl Int))(now_2:Sl (Sl Int)):fU (oP t_0 old_1 now_2) (jK t_0 old_1 now_2):=by
 unfold oP jK
 repeat' first
  |with_reducible apply xP
  |with_reducible apply tj
  |with_reducible apply H5
  |with_reducible refine fU.loop (fun _=>?_) _ _
  |with_reducible refine fU.cond ?_ ?_
  |with_reducible refine fU.bind ?_ (fun _=>?_)
  |(split<;>try dsimp only)
  |with_reducible exact fU.refl _
def nH(l_0:Sl ap):Option (Sl Int):=
 (lm 100000 (qh l_0) (0,Sl.nil)).bind fun s8=>
 (qz s8).bind fun s9=>
 (su s9 s8).bind fun _=>
 (qz s9).bind fun s10=>
 some s10
theorem vc(l_0:Sl ap):fU (nH l_0) (m7 l_0):=by
 unfold nH m7
 repeat' first
  |with_reducible apply Lg
  |with_reducible apply Lh
  |with_reducible refine fU.loop (fun _=>?_) _ _
  |with_reducible refine fU.bind ?_ (fun _=>?_)
  |(split<;>try dsimp only)
  |with_reducible exact fU.refl _
def pR(a_0:Sl Int)(b_1:Sl Int):Option Bool:=
 bif((a_0.l.length:Int) !=(b_1.l.length:Int))then(some false)else
 ((lm 100000 (rI a_0 b_1) 0).bind fun
 |.inl b5=>(some b5)
 |.inr _=>(some true))
theorem xR(a_0:Sl Int)(b_1:Sl Int):fU (pR a_0 b_1) (pS a_0 b_1):=by
 unfold pR pS
 repeat' first
  |with_reducible refine fU.loop (fun _=>?_) _ _
  |with_reducible refine fU.cond ?_ ?_
  |with_reducible refine fU.bind ?_ (fun _=>?_)
  |(split<;>try dsimp only)
  |with_reducible exact fU.refl _
def rK:Option Bool:=
 (oP (⟨3,(Sl.mk [(⟨0,0,1,0,1,1⟩:aZ),(⟨1,1,2,0,1,1⟩:aZ),(⟨0,1,2,1,1,1⟩:aZ)]),(Sl.mk [(⟨2,7⟩:dl)])⟩:ah) (Sl.mk [(Sl.mk [0]),(Sl.mk [1]),(Sl.mk [7])]) (Sl.mk [(Sl.mk [1]),(Sl.mk [1]),(Sl.mk [7])])).bind fun(r1,r2)=>
 (bif((r2==0)&&((r1.l.length:Int)==1))then((fD 0 r1.l.length).bind fun n3=>
 bif decide ((gt r1.l n3)=(⟨0,0,1,1⟩:ap))then((nH r1).bind fun r4=>
 (pR r4 (Sl.mk [1])).bind fun r5=>
 some r5)else
 (some false))else
 (some false):Option Bool).bind fun b6=>
 some b6
theorem wM:fU (rK) (jL):=by
 unfold rK jL
 repeat' first
  |with_reducible apply wK
  |with_reducible apply vc
  |with_reducible apply xR
  |with_reducible refine fU.cond ?_ ?_
  |with_reducible refine fU.bind ?_ (fun _=>?_)
  |(split<;>try dsimp only)
  |with_reducible exact fU.refl _
theorem gP:jL=some true:=wM _ (by decide+kernel)
end Go.Proofs.YtpnnnoagjcpmhaaDoor.U
